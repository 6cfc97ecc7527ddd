/- Stable sorting told by hand: permutations of places, rotations, merges. Stable sorting told by hand: blocks that are sorted, put together two by two. Rows that are permuted; insertion, told on places. Exchanges of stretches, told on places: what rotate, and the moves of one item, make. The stable sort at rows of items: the worlds it passes through; swapRange, rotate. slices' rotate at rows of items. -/
import Derived.Test.YtnnfhojhbbcbmaaGreatDoorC01
import Derived.Shelf.SlSortCmp.InsertionK
import Derived.Shelf.SlicesQ.Reverse
namespace Go.Proofs.YtnnfhojhbbcbmaaGreatDoor
def BijF(f:Nat→Nat)(a b:Nat):Prop:=∃g:Nat→Nat,(∀i,f (g i)=i)∧(∀i,g (f i)=i)∧∀i,i<a∨b≤i→f i=i
def SegP(s t:Nat→Nat)(a b:Nat):Prop:=∃f,BijF f a b∧∀i,t i=s (f i)
section
variable {s t u : Nat → Nat} {a b m : Nat}
theorem SegP.refl(s:Nat→Nat)(a b:Nat):SegP s s a b:=⟨fun i=>i,⟨fun i=>i,fun _=>rfl,fun _=>rfl,fun _ _=>rfl⟩,fun _=>rfl⟩
theorem SegP.trans(h:SegP s t a b)(k:SegP t u a b):SegP s u a b:=by
 obtain⟨f,⟨g,h1,h2,h3⟩,h4⟩:=h;obtain⟨f',⟨g',k1,k2,k3⟩,k4⟩:=k;refine⟨fun i=>f (f' i),⟨fun i=>g' (g i),fun i=>?_,fun i=>?_,fun i hi=>?_⟩,fun i=>?_⟩
 ·show f (f' (g' (g i)))=i;rw[k1,h1]
 ·show g' (g (f (f' i)))=i;rw[h2,k2]
 ·show f (f' i)=i;rw[k3 i hi,h3 i hi]
 ·rw[k4,h4]
theorem SegP.mono {a' b':Nat}(h:SegP s t a b)(ha:a'≤a)(hb:b≤b'):SegP s t a' b':=by obtain⟨f,⟨g,h1,h2,h3⟩,h4⟩:=h;exact⟨f,⟨g,h1,h2,fun i hi=>h3 i (by omega)⟩,h4⟩
theorem SegP.out(h:SegP s t a b)(i:Nat)(hi:i<a∨b≤i):t i=s i:=by obtain⟨f,⟨g,h1,h2,h3⟩,h4⟩:=h;rw[h4,h3 i hi]
theorem SegP.mem(h:SegP s t a b)(i:Nat)(h1:a≤i)(h2:i<b):∃j,a≤j∧j<b∧t i=s j:=by
 obtain⟨f,⟨g,q1,q2,q3⟩,h4⟩:=h;refine⟨f i,?_,?_,h4 i⟩
 ·rcases Nat.lt_or_ge (f i) a with h|h
  ·have e:=q3 (f i) (.inl h);have:=congrArg g e;rw[q2,q2]at this;omega
  ·exact h
 ·rcases Nat.lt_or_ge (f i) b with h|h
  ·exact h
  ·have e:=q3 (f i) (.inr h);have:=congrArg g e;rw[q2,q2]at this;omega
theorem SegP.mem2(h:SegP s t a b)(i:Nat)(h1:a≤i)(h2:i<b):∃j,a≤j∧j<b∧s i=t j:=by obtain⟨f,⟨g,q1,q2,q3⟩,h4⟩:=h;have h5:SegP t s a b:=⟨g,⟨f,q2,q1,fun i hi=>by have:=congrArg g (q3 i hi);rw[q2]at this;exact this.symm⟩,fun i=>by rw[h4,q1]⟩;exact h5.mem i h1 h2
def swF(i j p:Nat):Nat:=if p=i then j else if p=j then i else p
theorem ZnQ(s:Nat→Nat)(i j:Nat)(hi:a≤i∧i<b)(hj:a≤j∧j<b):SegP s (fun p=>s (swF i j p)) a b:=by
 have hh:∀p,swF i j (swF i j p)=p:=fun p=>by
  unfold swF
  repeat' split
  all_goals omega
 refine⟨swF i j,⟨swF i j,hh,hh,fun p hp=>?_⟩,fun _=>rfl⟩;unfold swF;rw[if_neg (by omega),if_neg (by omega)]
def Zdv(a m b p:Nat):Nat:=if p<a∨b≤p then p else if p<a+(b-m)then p+(m-a)else p-(b-m)
def Rot(s t:Nat→Nat)(a m b:Nat):Prop:=∀p,t p=s (Zdv a m b p)
theorem Rot.seg(h:Rot s t a m b)(h1:a≤m)(h2:m≤b):SegP s t a b:=by
 refine⟨Zdv a m b,⟨Zdv a (a+(b-m)) b,fun p=>?_,fun p=>?_,fun p hp=>?_⟩,h⟩
 ·unfold Zdv;repeat' split
  all_goals omega
 ·unfold Zdv;repeat' split
  all_goals omega
 ·unfold Zdv;rw[if_pos hp]
theorem Zh0(s:Nat→Nat)(a m b:Nat)(h1:a≤m)(h2:m≤b)(h:a=m∨m=b):Rot s s a m b:=by
 intro p;unfold Zdv
 repeat' split
 ·rfl
 ·congr 1;omega
 ·congr 1;omega
def ltN(nd:Nat→Int)(x y:Nat):Prop:=nd x<nd y∨(nd x=nd y∧x<y)
def Srt(nd:Nat→Int)(s:Nat→Nat)(a b:Nat):Prop:=∀i j,a≤i→i<j→j<b→ltN nd (s i) (s j)
def Low(s:Nat→Nat)(a m b:Nat):Prop:=∀i j,a≤i→i<m→m≤j→j<b→s i<s j
variable {nd : Nat → Int}
theorem Srt.le(h:Srt nd s a b)(i j:Nat)(h1:a≤i)(h2:i≤j)(h3:j<b):nd (s i)≤nd (s j):=by
 rcases Nat.lt_or_ge i j with h4|h4
 ·rcases h i j h1 h4 h3 with h5|h5
  ·exact Int.le_of_lt h5
  ·exact Int.le_of_eq h5.1
 ·have:i=j:=by omega
  subst this;exact Int.le_refl _
theorem Zih(i:Nat)(hs:Srt nd s (a+1) b)(hl:Low s a (a+1) b)(h1:a+1≤i)(h2:i≤b)(c1:a+1<i→nd (s (i-1))<nd (s a))(c2:i<b→¬nd (s i)<nd (s a))(h:Rot s t a (a+1) i):Srt nd t a b:=by
 intro p q hp hpq hq;rw[h p,h q];unfold Zdv;by_cases hqi:i≤q
 ·rw[if_pos (show q<a∨i≤q from .inr hqi)];by_cases hpi:i≤p
  ·rw[if_pos (show p<a∨i≤p from .inr hpi)];exact hs p q (by omega) hpq hq
  ·rw[if_neg (show ¬(p<a∨i≤p) by omega)];have hlt:i<b:=by omega
   have d2:=c2 hlt;have hle:=hs.le i q (by omega) hqi hq;by_cases hpe:p<a+(i-(a+1))
   ·rw[if_pos hpe];exact hs _ _ (by omega) (by omega) hq
   ·rw[if_neg hpe];have e:p-(i-(a+1))=a:=by omega
    rw[e];have:=hl a q (Nat.le_refl _) (by omega) (by omega) hq;rcases Int.lt_or_eq_of_le (show nd (s a)≤nd (s q) by omega)with h5|h5
    ·exact .inl h5
    ·exact .inr ⟨h5,this⟩
 ·rw[if_neg (show ¬(q<a∨i≤q) by omega),if_neg (show ¬(p<a∨i≤p) by omega)];rw[if_pos (show p<a+(i-(a+1)) by omega)];by_cases hqe:q<a+(i-(a+1))
  ·rw[if_pos hqe];exact hs _ _ (by omega) (by omega) (by omega)
  ·rw[if_neg hqe];have e:q-(i-(a+1))=a:=by omega
   rw[e];have:=hs.le (p+(a+1-a)) (i-1) (by omega) (by omega) (by omega);have:=c1 (by omega);exact .inl (by omega)
theorem Zjl(i:Nat)(hs:Srt nd s a m)(hl:Low s a m (m+1))(h1:a≤i)(h2:i≤m)(c1:a<i→¬nd (s m)<nd (s (i-1)))(c2:i<m→nd (s m)<nd (s i))(h:Rot s t i m (m+1)):Srt nd t a (m+1):=by
 intro p q hp hpq hq;rw[h p,h q];unfold Zdv;by_cases hpi:p<i
 ·rw[if_pos (show p<i∨m+1≤p from .inl hpi)];by_cases hqi:q<i
  ·rw[if_pos (show q<i∨m+1≤q from .inl hqi)];exact hs p q hp hpq (by omega)
  ·rw[if_neg (show ¬(q<i∨m+1≤q) by omega)];by_cases hqe:q<i+(m+1-m)
   ·rw[if_pos hqe];have e:q+(m-i)=m:=by omega
    rw[e];have:=hl p m hp (by omega) (Nat.le_refl _) (by omega);have:=hs.le p (i-1) hp (by omega) (by omega);have:=c1 (by omega);rcases Int.lt_or_eq_of_le (show nd (s p)≤nd (s m) by omega)with h5|h5
    ·exact .inl h5
    ·exact .inr ⟨h5,by assumption⟩
   ·rw[if_neg hqe];exact hs _ _ hp (by omega) (by omega)
 ·rw[if_neg (show ¬(p<i∨m+1≤p) by omega),if_neg (show ¬(q<i∨m+1≤q) by omega)];rw[if_neg (show ¬q<i+(m+1-m) by omega)];by_cases hpe:p<i+(m+1-m)
  ·rw[if_pos hpe];have e:p+(m-i)=m:=by omega
   rw[e];have:=hs.le i (q-(m+1-m)) (by omega) (by omega) (by omega);have:=c2 (by omega);exact .inl (by omega)
  ·rw[if_neg hpe];exact hs _ _ (by omega) (by omega) (by omega)
end
section
variable {nd : Nat → Int} {s s1 s2 s3 : Nat → Nat} {a m b mid st en : Nat}
structure Halves (nd:Nat→Int) (s s1:Nat→Nat) (a mid b st en:Nat):Prop where
 l1:Srt nd s1 a st
 l2:Srt nd s1 st mid
 l3:Low s1 a st mid
 r1:Srt nd s1 mid en
 r2:Srt nd s1 en b
 r3:Low s1 mid en b
 x:∀i j,a≤i→i<mid→mid≤j→j<b→ltN nd (s1 i) (s1 j)
theorem Zm3(hm:st+en=mid+m)(h0:a≤st)(h1:st≤m)(h2:m≤en)(h3:en≤b)(hs1:Srt nd s a m)(hs2:Srt nd s m b)(hl:Low s a m b)(c1:a<st→en<b→nd (s (st-1))≤nd (s en))(c2:st<m→m<en→nd (s (en-1))<nd (s st))(h:Rot s s1 st m en):Halves nd s s1 a mid b st en:=by
 have hmid:st+(en-m)=mid:=by omega
 have e1:∀p,p<st→s1 p=s p:=fun p hp=>by rw[h p];unfold Zdv;rw[if_pos (.inl hp)]
 have e2:∀p,st≤p→p<mid→s1 p=s (p+(m-st)):=fun p hp hq=>by rw[h p];unfold Zdv;rw[if_neg (by omega),if_pos (by omega)]
 have e3:∀p,mid≤p→p<en→s1 p=s (p-(en-m)):=fun p hp hq=>by rw[h p];unfold Zdv;rw[if_neg (by omega),if_neg (by omega)]
 have e4:∀p,en≤p→s1 p=s p:=fun p hp=>by rw[h p];unfold Zdv;rw[if_pos (.inr hp)]
 refine⟨fun i j q1 q2 q3=>?_,fun i j q1 q2 q3=>?_,fun i j q1 q2 q3 q4=>?_,fun i j q1 q2 q3=>?_,fun i j q1 q2 q3=>?_,fun i j q1 q2 q3 q4=>?_,fun i j q1 q2 q3 q4=>?_⟩
 ·rw[e1 i (by omega),e1 j (by omega)];exact hs1 i j q1 q2 (by omega)
 ·rw[e2 i q1 (by omega),e2 j (by omega) q3];exact hs2 _ _ (by omega) (by omega) (by omega)
 ·rw[e1 i q2,e2 j q3 q4];exact hl _ _ q1 (by omega) (by omega) (by omega)
 ·rw[e3 i q1 (by omega),e3 j (by omega) q3];exact hs1 _ _ (by omega) (by omega) (by omega)
 ·rw[e4 i q1,e4 j (by omega)];exact hs2 _ _ (by omega) q2 q3
 ·rw[e3 i q1 q2,e4 j q3];exact hl _ _ (by omega) (by omega) (by omega) q4
 ·by_cases hi:i<st
  ·rw[e1 i hi];by_cases hj:j<en
   ·rw[e3 j q3 hj];exact hs1 _ _ q1 (by omega) (by omega)
   ·rw[e4 j (by omega)];have d1:=hs1.le i (st-1) q1 (by omega) (by omega);have d2:=hs2.le en j h2 (by omega) q4;have d3:=c1 (by omega) (by omega);have d4:=hl i j q1 (by omega) (by omega) q4;rcases Int.lt_or_eq_of_le (show nd (s i)≤nd (s j) by omega)with h5|h5
    ·exact .inl h5
    ·exact .inr ⟨h5,d4⟩
  ·rw[e2 i (by omega) q2];by_cases hj:j<en
   ·rw[e3 j q3 hj];have d1:=hs2.le (i+(m-st)) (en-1) (by omega) (by omega) (by omega);have d2:=hs1.le st (j-(en-m)) h0 (by omega) (by omega);have d3:=c2 (by omega) (by omega);exact .inl (by omega)
   ·rw[e4 j (by omega)];exact hs2 _ _ (by omega) (by omega) q4
theorem ZW(H:Halves nd s s1 a mid b st en)(h1:SegP s1 s2 a mid)(k1:Srt nd s2 a mid)(h2:SegP s2 s3 mid b)(k2:Srt nd s3 mid b):Srt nd s3 a b:=by
 intro i j q1 q2 q3;by_cases hi:i<mid
 ·by_cases hj:j<mid
  ·rw[h2.out i (.inl hi),h2.out j (.inl hj)];exact k1 i j q1 q2 hj
  ·rw[h2.out i (.inl hi)];obtain⟨j',p1,p2,e⟩:=h2.mem j (by omega) q3;rw[e,h1.out j' (.inr p1)];obtain⟨i',r1,r2,e'⟩:=h1.mem i q1 hi;rw[e'];exact H.x i' j' r1 r2 p1 p2
 ·exact k2 i j (by omega) q2 q3
end
section
variable {nd : Nat → Int} {s : Nat → Nat} {a i j : Nat}
structure Sink (nd:Nat→Int) (s:Nat→Nat) (a j i:Nat):Prop where
 o:∀p q,a≤p→p<q→q≤i→p≠j→q≠j→ltN nd (s p) (s q)
 u:∀q,j<q→q≤i→ltN nd (s j) (s q)
 t:∀p,a≤p→p<j→s p<s j
theorem Sink.start(h:Srt nd s a i)(ht:∀p,a≤p→p<i→s p<s i):Sink nd s a i i:=⟨fun p q h1 h2 h3 h4 h5=>h p q h1 h2 (by omega),fun q h1 h2=>by omega,ht⟩
theorem Sink.stop(h:Sink nd s a j i)(hj:a≤j)(hji:j≤i)(hs:j≤a∨¬nd (s j)<nd (s (j-1))):Srt nd s a (i+1):=by
 have key:∀p,a≤p→p<j→ltN nd (s p) (s j):=fun p h1 h2=>by
  have hs2:¬nd (s j)<nd (s (j-1)):=by omega
  have:=h.t p h1 h2
  have d:nd (s p)≤nd (s (j-1)):=by
   rcases Nat.lt_or_ge p (j-1)with h3|h3
   ·rcases h.o p (j-1) h1 h3 (by omega) (by omega) (by omega)with h4|h4
    ·exact Int.le_of_lt h4
    ·exact Int.le_of_eq h4.1
   ·have:p=j-1:=by omega
    rw[this];exact Int.le_refl _
  rcases Int.lt_or_eq_of_le (show nd (s p)≤nd (s j) by omega)with h5|h5
  ·exact .inl h5
  ·exact .inr ⟨h5,this⟩
 intro p q h1 h2 h3;by_cases hp:p=j
 ·subst hp;exact h.u q h2 (by omega)
 ·by_cases hq:q=j
  ·subst hq;exact key p h1 h2
  ·exact h.o p q h1 h2 (by omega) hp hq
theorem Sink.step(h:Sink nd s a (j+1) i)(hj:a≤j)(hji:j+1≤i)(hl:nd (s (j+1))<nd (s j)):Sink nd (fun p=>s (swF (j+1) j p)) a j i:=by
 have v1:s (swF (j+1) j j)=s (j+1):=by unfold swF;rw[if_neg (by omega),if_pos rfl]
 have v2:s (swF (j+1) j (j+1))=s j:=by unfold swF;rw[if_pos rfl]
 have v3:∀p,p≠j→p≠j+1→s (swF (j+1) j p)=s p:=fun p h1 h2=>by unfold swF;rw[if_neg h2,if_neg h1]
 refine⟨fun p q h1 h2 h3 h4 h5=>?_,fun q h1 h2=>?_,fun p h1 h2=>?_⟩
 ·by_cases hp:p=j+1
  ·subst hp;show ltN nd (s (swF (j+1) j (j+1))) _;rw[v2,v3 q h5 (by omega)];exact h.o j q hj (by omega) h3 (by omega) (by omega)
  ·show ltN nd (s (swF (j+1) j p)) (s (swF (j+1) j q));rw[v3 p h4 hp];by_cases hq:q=j+1
   ·subst hq;rw[v2];exact h.o p j h1 (by omega) (by omega) (by omega) (by omega)
   ·rw[v3 q h5 hq];exact h.o p q h1 h2 h3 hp hq
 ·show ltN nd (s (swF (j+1) j j)) (s (swF (j+1) j q));rw[v1];by_cases hq:q=j+1
  ·subst hq;rw[v2];exact .inl hl
  ·rw[v3 q (by omega) hq];exact h.u q (by omega) h2
 ·show s (swF (j+1) j p)<s (swF (j+1) j j);rw[v1,v3 p (by omega) (by omega)];exact h.t p h1 (by omega)
end
end Go.Proofs.YtnnfhojhbbcbmaaGreatDoor
namespace Go.Proofs.YtnnfhojhbbcbmaaGreatDoor
structure Bkd (nd:Nat→Int) (s:Nat→Nat) (x y n:Nat):Prop where
 c:∀i,x≤i→i<y→i<n→x≤s i∧s i<y
 o:∀i j,x≤i→i<j→j<y→j<n→ltN nd (s i) (s j)
structure Stg (nd:Nat→Int) (k bs q0 n:Nat) (s:Nat→Nat):Prop where
 lt:∀i,i<n→s i<n
 lo:∀q,q<q0→Bkd nd s (q*(k*bs)) (q*(k*bs)+k*bs) n
 hi:∀q,q0*k≤q→Bkd nd s (q*bs) (q*bs+bs) n
section
variable {nd : Nat → Int} {k bs q0 n : Nat} {s t : Nat → Nat}
theorem Stg.start(nd:Nat→Int)(k n:Nat):Stg nd k 1 0 n (fun i=>i):=
 ⟨fun i h=>h,fun q h=>absurd h (Nat.not_lt_zero _),fun q _=>⟨fun i h1 h2 _=>⟨h1,h2⟩,fun i j h1 h2 h3 _=>by omega⟩⟩
theorem Stg.next(h:Stg nd k bs q0 n s)(hk:0<bs)(h1:SegP s t (q0*(k*bs)) (min (q0*(k*bs)+k*bs) n))(h2:Srt nd t (q0*(k*bs)) (min (q0*(k*bs)+k*bs) n)):Stg nd k bs (q0+1) n t:=by
 have hmul:q0*(k*bs)=q0*k*bs:=(Nat.mul_assoc _ _ _).symm;refine⟨fun i hi=>?_,fun q hq=>?_,fun q hq=>?_⟩
 ·by_cases hin:q0*(k*bs)≤i∧i<min (q0*(k*bs)+k*bs) n
  ·obtain⟨j,a1,a2,e⟩:=h1.mem i hin.1 hin.2;rw[e];exact h.lt j (by omega)
  ·rw[h1.out i (by omega)];exact h.lt i hi
 ·rcases Nat.lt_or_ge q q0 with hlt|hge
  ·have hb:=h.lo q hlt;have hm:q*(k*bs)+k*bs≤q0*(k*bs):=by have:=Nat.mul_le_mul_right (k*bs) (show q+1≤q0 from hlt);rwa[Nat.add_mul,Nat.one_mul]at this
   refine⟨fun i a1 a2 a3=>?_,fun i j a1 a2 a3 a4=>?_⟩
   ·rw[h1.out i (.inl (by omega))];exact hb.c i a1 a2 a3
   ·rw[h1.out i (.inl (by omega)),h1.out j (.inl (by omega))];exact hb.o i j a1 a2 a3 a4
  ·have:q=q0:=by omega
   subst this;refine⟨fun i a1 a2 a3=>?_,fun i j a1 a2 a3 a4=>h2 i j a1 a2 (by omega)⟩;obtain⟨j,b1,b2,e⟩:=h1.mem i a1 (by omega);rw[e];have hdm:=Nat.div_add_mod j bs;have hmod:=Nat.mod_lt j hk;have hq1:q*k≤j / bs:=by rw[Nat.le_div_iff_mul_le hk,←hmul];exact b1
   have hq2:j / bs<q*k+k:=by rw[Nat.div_lt_iff_lt_mul hk,Nat.add_mul,←hmul];omega
   have hc:=(h.hi (j / bs) hq1).c j (by rw[Nat.mul_comm];omega) (by rw[Nat.mul_comm];omega) (by omega);have g1:q*k*bs≤j / bs*bs:=Nat.mul_le_mul_right bs hq1;have g2:(j / bs+1)*bs≤(q*k+k)*bs:=Nat.mul_le_mul_right bs hq2;rw[Nat.add_mul,Nat.add_mul,Nat.one_mul]at g2;rw[hmul];omega
 ·have hb:=h.hi q (by rw[Nat.add_mul]at hq;omega);have hm:q0*(k*bs)+k*bs≤q*bs:=by have:=Nat.mul_le_mul_right bs hq;rw[Nat.add_mul,Nat.one_mul,Nat.add_mul,←hmul]at this;exact this
  refine⟨fun i a1 a2 a3=>?_,fun i j a1 a2 a3 a4=>?_⟩
  ·rw[h1.out i (.inr (by omega))];exact hb.c i a1 a2 a3
  ·rw[h1.out i (.inr (by omega)),h1.out j (.inr (by omega))];exact hb.o i j a1 a2 a3 a4
theorem Stg.again(h:Stg nd k bs q0 n s)(hn:n≤q0*(k*bs))(k':Nat):Stg nd k' (k*bs) 0 n s:=by
 refine⟨h.lt,fun q hq=>absurd hq (Nat.not_lt_zero _),fun q _=>?_⟩;rcases Nat.lt_or_ge q q0 with hlt|hge
 ·exact h.lo q hlt
 ·have:=Nat.mul_le_mul_right (k*bs) hge;exact⟨fun i a1 a2 a3=>by omega,fun i j a1 a2 a3 a4=>by omega⟩
theorem Stg.done(h:Stg nd k bs 0 n s)(hn:n≤bs):Srt nd s 0 n:=by have hb:=h.hi 0 (by omega);intro i j _ h2 h3;exact hb.o i j (by omega) h2 (by omega) h3
theorem Stg.two(h:Stg nd 2 bs q0 n s)(b:Nat)(hb:b≤n)(hb2:b≤q0*(2*bs)+2*bs):
  Srt nd s (q0*(2*bs)) (min (q0*(2*bs)+bs) n)∧Srt nd s (q0*(2*bs)+bs) b∧Low s (q0*(2*bs)) (q0*(2*bs)+bs) b:=by
 have e1:q0*2*bs=q0*(2*bs):=Nat.mul_assoc _ _ _;have e2:(q0*2+1)*bs=q0*(2*bs)+bs:=by rw[Nat.add_mul,Nat.one_mul,e1]
 have b1:=h.hi (q0*2) (Nat.le_refl _);have b2:=h.hi (q0*2+1) (by omega);rw[e1]at b1;rw[e2]at b2;refine⟨fun i j a1 a2 a3=>b1.o i j a1 a2 (by omega) (by omega),fun i j a1 a2 a3=>b2.o i j a1 a2 (by omega) (by omega),fun i j a1 a2 a3 a4=>?_⟩;have c1:=b1.c i a1 a2 (by omega);have c2:=b2.c j a3 (by omega) (by omega);omega
end
end Go.Proofs.YtnnfhojhbbcbmaaGreatDoor
namespace Go.Proofs.YtnnfhojhbbcbmaaGreatDoor
open Go.RowKit Go.Sort
def RwP(d0 d:Array It)(s:Nat→Nat):Prop:=d.size=d0.size∧∀i,i<d.size→d[i]! =d0[s i]!
def ndO(d0:Array It)(x:Nat):Int:=(d0[x]!).node
def cfN(x y:It):Int:=if x.node<y.node then-1 else if y.node<x.node then 1 else 0
theorem Zm4(x y:It):cfN x y<0↔x.node<y.node:=by
 unfold cfN
 repeat' split
 all_goals omega
theorem ZiN(x y:It):ltOf cfN x y=decide (x.node<y.node):=by unfold ltOf;rw[decide_eq_decide];exact Zm4 x y
section
variable {d0 d : Array It} {s s0 : Nat → Nat} {a b i j : Nat}
theorem RwP.nd(h:RwP d0 d s)(hi:i<d.size):(d[i]!).node=ndO d0 (s i):=by rw[h.2 i hi];rfl
theorem RwP.swp(h:RwP d0 d s)(hi:i<d.size)(hj:j<d.size):RwP d0 (swp d i j) (fun p=>s (swF i j p)):=by
 refine⟨by rw[swp_size];exact h.1,fun p hp=>?_⟩;rw[swp_size]at hp;rw[swp_get d hi hj];show _=d0[s (swF i j p)]!;unfold swF;by_cases h1:p=j
 ·subst h1;rw[if_pos rfl];by_cases h2:p=i
  ·subst h2;rw[if_pos rfl];exact h.2 _ hi
  ·rw[if_neg h2,if_pos rfl];exact h.2 _ hi
 ·rw[if_neg h1];by_cases h2:p=i
  ·subst h2;rw[if_pos rfl,if_pos rfl];exact h.2 _ hj
  ·rw[if_neg h2,if_neg h2,if_neg h1];exact h.2 _ hp
theorem Zg1:∀(j:Nat) (d:Array It) (s:Nat→Nat),RwP d0 d s→Sink (ndO d0) s a j i→a≤j→j≤i→i<d.size→
  ∃t,RwP d0 (insInner (ltOf cfN) a j d) t∧SegP s t a (i+1)∧Srt (ndO d0) t a (i+1)
 |0,d,s,h,hS,h1,h2,h3=>by
  rw[insInner_stop _ _ _ _ (.inl (Nat.zero_le _))];exact⟨s,h,SegP.refl _ _ _,hS.stop h1 h2 (.inl (Nat.zero_le _))⟩
 |j+1,d,s,h,hS,h1,h2,h3=>by
  by_cases hc:a<j+1∧(d[j+1]!).node<(d[j]!).node
  ·have hn:=hc.2;rw[h.nd (show j+1<d.size by omega),h.nd (show j<d.size by omega)]at hn;rw[insInner_go _ _ _ _ hc.1 (by rw[ZiN];exact decide_eq_true (by simpa using hc.2)),Nat.add_sub_cancel];obtain⟨t,k1,k2,k3⟩:=Zg1 j (swp d (j+1) j) _ (h.swp (show j+1<d.size by omega) (show j<d.size by omega)) (hS.step (by omega) h2 hn) (by omega) (by omega) (by rw[swp_size];exact h3);exact⟨t,k1,(ZnQ s (j+1) j ⟨by omega,by omega⟩ ⟨by omega,by omega⟩).trans k2,k3⟩
  ·have hst:j+1≤a∨¬ndO d0 (s (j+1))<ndO d0 (s (j+1-1)):=by
    rw[Nat.add_sub_cancel,←h.nd (show j+1<d.size by omega),←h.nd (show j<d.size by omega)];by_cases h4:a<j+1
    ·exact .inr fun h5=>hc ⟨h4,h5⟩
    ·exact .inl (by omega)
   rw[insInner_stop _ _ _ _ (hst.imp id fun h5=>by rw[ZiN];refine decide_eq_false ?_;rw[Nat.add_sub_cancel]at h5⊢;rw[h.nd (show j+1<d.size by omega),h.nd (show j<d.size by omega)];exact h5)];exact⟨s,h,SegP.refl _ _ _,hS.stop h1 h2 hst⟩
theorem Zg2(hid:∀p,a≤p→p<b→s0 p=p):∀(m i:Nat) (d:Array It) (s:Nat→Nat),m=b-i→RwP d0 d s→a<i→i≤b→b≤d.size→SegP s0 s a i→Srt (ndO d0) s a i→
  ∃t,RwP d0 (insOuter (ltOf cfN) a b i d) t∧SegP s0 t a b∧Srt (ndO d0) t a b
 |0,i,d,s,hm,h,h1,h2,h3,h4,h5=>by
  have:i=b:=by omega
  subst this;rw[insOuter_stop _ _ _ _ _ (by omega)];exact⟨s,h,h4,h5⟩
 |m+1,i,d,s,hm,h,h1,h2,h3,h4,h5=>by
  rw[insOuter_go _ _ _ _ _ (by omega)];have hS:Sink (ndO d0) s a i i:=Sink.start h5 fun p q1 q2=>by obtain⟨p',r1,r2,e⟩:=h4.mem p q1 q2;rw[e,h4.out i (.inr (Nat.le_refl _)),hid p' r1 (by omega),hid i (by omega) (by omega)];exact r2
  obtain⟨t,k1,k2,k3⟩:=Zg1 i d s h hS (by omega) (Nat.le_refl _) (by omega);exact Zg2 hid m (i+1) _ t (by omega) k1 (by omega) (by omega) (by rw[k1.1,←h.1];exact h3) ((h4.mono (Nat.le_refl _) (by omega)).trans k2) k3
theorem Zmw(hid:∀p,a≤p→p<b→s0 p=p)(h:RwP d0 d s0)(hb:b≤d.size):∃t,RwP d0 (insertionSort (ltOf cfN) d a b) t∧SegP s0 t a b∧Srt (ndO d0) t a b:=by
 unfold insertionSort;rcases Nat.lt_or_ge (a+1) b with h1|h1
 ·exact Zg2 hid _ (a+1) d s0 rfl h (by omega) (by omega) hb (SegP.refl _ _ _) fun i j q1 q2 q3=>by omega
 ·rw[insOuter_stop _ _ _ _ _ (by omega)];exact⟨s0,h,SegP.refl _ _ _,fun i j q1 q2 q3=>by omega⟩
end
end Go.Proofs.YtnnfhojhbbcbmaaGreatDoor
namespace Go.Proofs.YtnnfhojhbbcbmaaGreatDoor
def xF(a b n p:Nat):Nat:=if a≤p∧p<a+n then p+(b-a)else if b≤p∧p<b+n then p-(b-a)else p
section
variable {s t : Nat → Nat} {a b i j k m n p : Nat}
theorem ZnR(s:Nat→Nat)(a b:Nat):(fun p=>s (xF a b 0 p))=s:=by
 funext p
 unfold xF;rw[if_neg (by omega),if_neg (by omega)]
theorem ZnS(s:Nat→Nat)(h:a+i<b):(fun p=>s (xF a b i (swF (a+i) (b+i) p)))=fun p=>s (xF a b (i+1) p):=by
 funext p
 congr 1;unfold xF swF
 repeat' split
 all_goals omega
theorem Rot.left(h1:j<i)(h2:i≤m)(h:Rot (fun p=>s (xF (m-i) m j p)) t (m-(i-j)) m (m+j)):Rot s t (m-i) m (m+j):=by
 intro p;rw[h p];show s _=s _;congr 1;unfold xF Zdv
 repeat' split
 all_goals omega
theorem Rot.right(h1:i<j)(h2:i≤m)(h:Rot (fun p=>s (xF (m-i) (m+j-i) i p)) t (m-i) m (m+(j-i))):Rot s t (m-i) m (m+j):=by
 intro p;rw[h p];show s _=s _;congr 1;unfold xF Zdv
 repeat' split
 all_goals omega
theorem Rot.last(s:Nat→Nat)(h2:i≤m):Rot s (fun p=>s (xF (m-i) m i p)) (m-i) m (m+i):=by
 intro p;show s _=s _;congr 1;unfold xF Zdv
 repeat' split
 all_goals omega
theorem Rot.up(h:Rot s t a (a+1) (k+1))(h1:a≤k):Rot s (fun p=>t (swF k (k+1) p)) a (a+1) (k+1+1):=by
 intro p;show t _=s _;rw[h _];congr 1;unfold swF Zdv
 repeat' split
 all_goals omega
theorem Rot.down(h:Rot s t (k+1) m (m+1))(h1:k+1≤m):Rot s (fun p=>t (swF (k+1) k p)) k m (m+1):=by
 intro p;show t _=s _;rw[h _];congr 1;unfold swF Zdv
 repeat' split
 all_goals omega
end
end Go.Proofs.YtnnfhojhbbcbmaaGreatDoor
namespace Go.Proofs.YtnnfhojhbbcbmaaGreatDoor
open Go.RowKit Go.Shelf Go.Lib Go.Sort
structure SrtP (P:Program) (k:Nat):Prop where
 mixed:P.follows .mixedOrders=true
 t0:P.underlying 0=some (TypeDesc.tuple #[])
 a0:∀w,(isAgg 0).run P w= .ok false w
 z0:∀w,(Go.sizeOf 0).run P w= .ok 1 w
 v0:∀w,(zeroValue 0).run P w= .ok (Value.tuple #[]) w
 t3:P.underlying 3=some (TypeDesc.int IntKind.i64)
 a3:∀w,(isAgg 3).run P w= .ok false w
 z3:∀w,(Go.sizeOf 3).run P w= .ok 1 w
 v3:∀w,(zeroValue 3).run P w= .ok (Value.int IntKind.i64 0) w
 t4:P.underlying 4=some (TypeDesc.bool)
 a4:∀w,(isAgg 4).run P w= .ok false w
 z4:∀w,(Go.sizeOf 4).run P w= .ok 1 w
 v4:∀w,(zeroValue 4).run P w= .ok (Value.bool false) w
 t22:P.underlying 28=some (TypeDesc.slice 24)
 a22:∀w,(isAgg 28).run P w= .ok false w
 z22:∀w,(Go.sizeOf 28).run P w= .ok 1 w
 v22:∀w,(zeroValue 28).run P w= .ok (Value.slice none 0 0) w
 t25:P.underlying 95=some (TypeDesc.func #[24,24] #[3] false)
 a25:∀w,(isAgg 95).run P w= .ok false w
 z25:∀w,(Go.sizeOf 95).run P w= .ok 1 w
 v25:∀w,(zeroValue 95).run P w= .ok (Value.nilFunc) w
 tu:P.underlying 56=some (TypeDesc.int IntKind.u64)
 au:∀w,(isAgg 56).run P w= .ok false w
 zu:∀w,(Go.sizeOf 56).run P w= .ok 1 w
 vu:∀w,(zeroValue 56).run P w= .ok (Value.int IntKind.u64 0) w
 aE:∀w,(isAgg 24).run P w= .ok true w
 zE:∀w,(Go.sizeOf 24).run P w= .ok k w
structure SB (P:Program) (k g:Nat) (enc:It→List Value) (blk off:Nat) (d0:Array It) (w:World):Prop where
 hk:∀x,(enc x).length=k
 h1:∀x,∀v∈enc x,v.oneCell'=true
 hH:HoldsK enc k w blk off d0
 hblk:blk<w.heap.size
 hsz:d0.size<4611686018427387904
 eg:∀args w,(callFunc g args).run P w= .ok (.enter g args) w
 hcmp:CmpLays P g #[] enc k cfN blk off d0.size w
def Sta(enc:It→List Value)(k:Nat)(blk off:Nat)(d0:Array It)(w W:World)(s:Nat→Nat):Prop:=
 ∃(d:Array It) (q:Nat) (os:Array Obj),RwP d0 d s∧W=sortWorldK enc k w blk off q d os
section
variable {P : Program} {k g blk off : Nat} {enc : It → List Value} {d0 : Array It} {w W : World} {s : Nat → Nat}
theorem Sta.congr {s':Nat→Nat}(h:Sta enc k blk off d0 w W s)(e:s=s'):Sta enc k blk off d0 w W s':=e ▸ h
theorem Sta.start(B:SB P k g enc blk off d0 w):Sta enc k blk off d0 w w (fun i=>i):=
 ⟨d0,0,#[],⟨rfl,fun _ _=>rfl⟩,by unfold sortWorldK;rw[grow_empty];exact(putRowK_self enc k w blk off d0 B.hH).symm⟩
theorem Sta.grown(h:Sta enc k blk off d0 w W s)(n:Nat)(os':Array Obj):Sta enc k blk off d0 w (grow (W.drewN n) os') s:=by obtain⟨d,q,os,hR,rfl⟩:=h;rw[sortWorldK_grown_c];exact⟨d,_,_,hR,rfl⟩
theorem Sta.drew(h:Sta enc k blk off d0 w W s):Sta enc k blk off d0 w W.drew s:=by obtain⟨d,q,os,hR,rfl⟩:=h;exact⟨d,q+1,os,hR,rfl⟩
theorem Sta.swap(B:SB P k g enc blk off d0 w)(h:Sta enc k blk off d0 w W s){i j:Nat}(hi:i<d0.size)(hj:j<d0.size):
  ∃ci cj:List Value,ci.length=k∧cj.length=k∧
   Sem.run P (loadCellsFrom ⟨blk,off+i*k,none⟩ 0 k #[]) W.drew= .ok ci.toArray W.drew∧
   Sem.run P (loadCellsFrom ⟨blk,off+j*k,none⟩ 0 k #[]) W.drew= .ok cj.toArray W.drew∧
   Sem.run P (storeCells ⟨blk,off+i*k,none⟩ cj 0) W.drew= .ok () (W.drew.setCells blk (off+i*k) cj)∧
   Sem.run P (storeCells ⟨blk,off+j*k,none⟩ ci 0) (W.drew.setCells blk (off+i*k) cj)= .ok () ((W.drew.setCells blk (off+i*k) cj).setCells blk (off+j*k) ci)∧
   Sta enc k blk off d0 w ((W.drew.setCells blk (off+i*k) cj).setCells blk (off+j*k) ci) (fun p=>s (swF i j p)):=by
 obtain⟨d,q,os,hR,rfl⟩:=h;have hs:=hR.1;have hi':i<d.size:=by rw[hs];exact hi
 have hj':j<d.size:=by rw[hs];exact hj
 have hHd:HoldsK enc k (sortWorldK enc k w blk off q d os).drew blk off d:=holdsK_sortWorldK_c enc k w blk off d0 d _ _ B.hH B.hblk hs;have bnd:∀x,x<d.size→x*k+k≤d.size*k:=fun x hx=>by have:=Nat.mul_le_mul_right k (show x+1≤d.size from hx);rwa[Nat.add_mul,Nat.one_mul]at this
 refine⟨enc d[i]!,enc d[j]!,B.hk _,B.hk _,run_loadCellsFrom_list P _ _ _ k (B.hk _) (HoldsK.cells hHd B.hk hi'),run_loadCellsFrom_list P _ _ _ k (B.hk _) (HoldsK.cells hHd B.hk hj'),stores_of_holds P hHd (i*k) _ (by rw[B.hk,size_flatK];exact bnd i hi') (B.h1 _),stores_of_holds P (holds_setCells_c hHd (i*k) _ (by rw[B.hk,size_flatK];exact bnd i hi')) (j*k) _ (by rw[B.hk,size_setMany,size_flatK];exact bnd j hj') (B.h1 _),swp d i j,q+1,os,hR.swp hi' hj',?_⟩;exact sortWorldK_swp_c enc k w blk off B.hk q d os B.hblk i j hi' hj'
theorem Sta.cmp(B:SB P k g enc blk off d0 w)(h:Sta enc k blk off d0 w W s){i j:Nat}(hi:i<d0.size)(hj:j<d0.size):
  ∃(ci cj:Array Value) (c:Int),(c<0↔ndO d0 (s i)<ndO d0 (s j))∧
   (∀n os',Sem.run P (loadCellsFrom ⟨blk,off+i*k,none⟩ 0 k #[]) (grow (W.drewN n) os')= .ok ci (grow (W.drewN n) os'))∧
   (∀n os',Sem.run P (loadCellsFrom ⟨blk,off+j*k,none⟩ 0 k #[]) (grow (W.drewN n) os')= .ok cj (grow (W.drewN n) os'))∧
   (∀n os',Calls P g #[.agg ci,.agg cj] (grow (W.drewN n) os') fun e w'=>e= .returned (.int .i64 c)∧∃q os'',w'=grow ((grow (W.drewN n) os').drewN q) os'')∧
   ∀n os',Sta enc k blk off d0 w (grow (W.drewN n) os') s:=by
 obtain⟨d,q,os,hR,rfl⟩:=h;have hs:=hR.1;have hi':i<d.size:=by rw[hs];exact hi
 have hj':j<d.size:=by rw[hs];exact hj
 have hcls:∀n' os',grow ((sortWorldK enc k w blk off q d os).drewN n') os'=sortWorldK enc k w blk off (q+n') d (os++os'):=fun n' os'=>sortWorldK_grown_c enc k w blk off q n' d os os';have hHc:∀n' os',HoldsK enc k (grow ((sortWorldK enc k w blk off q d os).drewN n') os') blk off d:=fun n' os'=>by rw[hcls];exact holdsK_sortWorldK_c enc k w blk off d0 d _ _ B.hH B.hblk hs
 refine⟨(enc d[i]!).toArray,(enc d[j]!).toArray,cfN d[i]! d[j]!,?_,fun n' os'=>run_loadCellsFrom_list P _ _ _ k (B.hk _) (HoldsK.cells (hHc n' os') B.hk hi'),fun n' os'=>run_loadCellsFrom_list P _ _ _ k (B.hk _) (HoldsK.cells (hHc n' os') B.hk hj'),fun n' os'=>?_,fun n' os'=>?_⟩
 ·rw[Zm4,hR.nd hi',hR.nd hj']
 ·have:=B.hcmp (q+n') (os++os') d hs d[i]! d[j]!;rw[hcls];simpa using this
 ·rw[hcls];exact⟨d,_,_,hR,rfl⟩
end
section
variable {P : Program} {k g blk off : Nat} {enc : It → List Value} {d0 : Array It} {w W : World} {s : Nat → Nat}
set_option maxHeartbeats 4000000 in
set_option maxRecDepth 1000000 in
theorem ZbO(L:SrtP P k)(FG:P.funcs[226]? =some Tryz.f226)(B:SB P k g enc blk off d0 w)(cap a b n:Nat)(cv:Value)(h:Sta enc k blk off d0 w W s)(hab:a+n≤b)(hb:b+n≤d0.size):
  Calls P 226 #[.slice (some ⟨blk,off,none⟩) d0.size cap,.int .i64 a,.int .i64 b,.int .i64 n,cv] W fun e W'=>e= .returned (.tuple #[])∧Sta enc k blk off d0 w W' (fun p=>s (xF a b n p)):=by
 have mixed:=L.mixed;have t0:=L.t0;have a0:=L.a0;have z0:=L.z0;have v0:=L.v0;have t3:=L.t3;have a3:=L.a3;have z3:=L.z3;have v3:=L.v3;have t4:=L.t4;have a4:=L.a4;have z4:=L.z4;have v4:=L.v4;have t22:=L.t22;have a22:=L.a22;have z22:=L.z22;have v22:=L.v22;have t25:=L.t25;have a25:=L.a25;have z25:=L.z25;have v25:=L.v25;have aE:=L.aE;have zE:=L.zE;have hsz:=B.hsz;have HB:=Za B;clear B;go_enter FG,Tryz.ntmps226;go_wp2;go_loopg[10] n (fun fu vi wr=>∃i:Nat,vi= .int .i64 i∧i≤n∧n-i≤fu∧Sta enc k blk off d0 w wr (fun p=>s (xF a b i p)))
 case atStart=>exact⟨0,rfl,Nat.zero_le _,Nat.le_refl _,h.congr (ZnR s a b).symm⟩
 case round=>
  clear h;obtain⟨i,rfl,hin,hfu,hS⟩:=hrel;by_cases hlt:i<n
  ·have hltz:(i:Int)<(n:Int):=by omega
   obtain⟨ci,cj,l1,l2,r1,r2,s1,s2,hS2⟩:=hS.swap HB.out (show a+i<d0.size by omega) (show b+i<d0.size by omega);have HS2:Hid (Sta enc k blk off d0 w ((wr.drew.setCells blk (off+(a+i)*k) cj).setCells blk (off+(b+i)*k) ci) (fun p=>s (xF a b (i+1) p))):=hS2.congr (ZnS s (by omega));have e0:((a:Int)+(i:Int)).toNat=a+i:=by omega
   have e1:((b:Int)+(i:Int)).toNat=b+i:=by omega
   have b0:(a:Int)+(i:Int)<(d0.size:Int):=by omega
   have b1:(b:Int)+(i:Int)<(d0.size:Int):=by omega
   have p0:(0:Int)≤(a:Int)+(i:Int):=by omega
   have p1:(0:Int)≤(b:Int)+(i:Int):=by omega
   clear hS hS2;go_wp2_with fail
   go_big_region_o
   all_goals go_wp2
   go_roundg (n-(i+1))
   case measure=>omega
   case rel=>exact⟨i+1,by go_num,by omega,Nat.le_refl _,HS2.out⟩
  ·have hltz:¬(i:Int)<(n:Int):=by omega
   have:i=n:=by omega
   subst this;go_wp2;go_end0;exact⟨rfl,hS⟩
end
end Go.Proofs.YtnnfhojhbbcbmaaGreatDoor
namespace Go.Proofs.YtnnfhojhbbcbmaaGreatDoor
open Go.RowKit Go.Shelf Go.Lib Go.Sort
section
variable {P : Program} {k g blk off : Nat} {enc : It → List Value} {d0 : Array It} {w W : World} {s : Nat → Nat}
set_option maxHeartbeats 4000000 in
set_option maxRecDepth 1000000 in
theorem Zfq(L:SrtP P k)(FS:P.funcs[226]? =some Tryz.f226)(FR:P.funcs[208]? =some Tryz.f208)(B:SB P k g enc blk off d0 w)(cap a m b:Nat)(cv:Value)(h:Sta enc k blk off d0 w W s)(h1:a<m)(h2:m<b)(hb:b≤d0.size):
  Calls P 208 #[.slice (some ⟨blk,off,none⟩) d0.size cap,.int .i64 a,.int .i64 m,.int .i64 b,cv] W fun e W'=>e= .returned (.tuple #[])∧∃t,Rot s t a m b∧Sta enc k blk off d0 w W' t:=by
 have hsz:=B.hsz;have HB:=Za B;have HL:=Za L;have HF:=Za FS;have eS:∀args w,(callFunc 226 args).run P w= .ok (.enter 226 args) w:=enters_of FS (by kernel_rfl) rfl;have mixed:=L.mixed;have t0:=L.t0;have a0:=L.a0;have z0:=L.z0;have v0:=L.v0;have t3:=L.t3;have a3:=L.a3;have z3:=L.z3;have v3:=L.v3;have t4:=L.t4;have a4:=L.a4;have z4:=L.z4;have v4:=L.v4;have t22:=L.t22;have a22:=L.a22;have z22:=L.z22;have v22:=L.v22;have t25:=L.t25;have a25:=L.a25;have z25:=L.z25;have v25:=L.v25;have aE:=L.aE;have zE:=L.zE;clear B L FS;go_enter FR,Tryz.ntmps208;go_wp2;go_loopg[10,11] (b-a) (fun fu vi vj wr=>∃(i j:Nat) (s':Nat→Nat),vi= .int .i64 i∧vj= .int .i64 j∧0<i∧0<j∧a+i≤m∧m+j≤b∧i+j≤fu∧Sta enc k blk off d0 w wr s'∧Hid (∀t,Rot s' t (m-i) m (m+j)→Rot s t a m b))
 case atStart=>refine⟨m-a,b-m,s,by go_num,by go_num,by omega,by omega,by omega,by omega,by omega,h,fun t ht=>?_⟩;rw[show m-(m-a)=a by omega,show m+(b-m)=b by omega]at ht;exact ht
 case round=>
  clear h;obtain⟨i,j,s',rfl,rfl,hi,hj,hai,hmj,hfu,hS,HR⟩:=hrel;have em:(m:Int)-(i:Int)=((m-i:Nat):Int):=by omega
  rcases Nat.lt_trichotomy i j with hij|hij|hij
  ·have d1:¬(i:Int)=(j:Int):=by omega
   have d2:decide ((j:Int)<(i:Int))=false:=decide_eq_false (by omega);have d3:¬(j:Int)<(i:Int):=by omega
   have e3:(m:Int)+(j:Int)-(i:Int)=((m+j-i:Nat):Int):=by omega
   have hc:=ZbO HL.out HF.out HB.out cap (m-i) (m+j-i) i cv hS (by omega) (by omega);go_wp2_with (go_at_fn 226;refine hc.mono ?_;rintro e W2 ⟨rfl,hS2⟩);clear hc;have HR2:Hid (∀t,Rot (fun p=>s' (xF (m-i) (m+j-i) i p)) t (m-i) m (m+(j-i))→Rot s t a m b):=fun t ht=>HR.out t (Rot.right hij (by omega) ht);clear hS HR;go_wp2;go_roundg (i+(j-i))
   case measure=>omega
   case rel=>exact⟨i,j-i,_,rfl,by go_num,hi,by omega,hai,by omega,Nat.le_refl _,hS2,HR2⟩
  ·subst hij;have d1:(i:Int)=(i:Int):=rfl;have hc:=ZbO HL.out HF.out HB.out cap (m-i) m i cv hS (by omega) (by omega);go_wp2_with (go_at_fn 226;refine hc.mono ?_;rintro e W2 ⟨rfl,hS2⟩);clear hc;clear hS;go_wp2;go_end0;exact⟨rfl,_,HR.out _ (Rot.last s' (by omega)),hS2⟩
  ·have d1:¬(i:Int)=(j:Int):=by omega
   have d2:(j:Int)<(i:Int):=by omega
   have hc:=ZbO HL.out HF.out HB.out cap (m-i) m j cv hS (by omega) (by omega);go_wp2_with (go_at_fn 226;refine hc.mono ?_;rintro e W2 ⟨rfl,hS2⟩);clear hc;have HR2:Hid (∀t,Rot (fun p=>s' (xF (m-i) m j p)) t (m-(i-j)) m (m+j)→Rot s t a m b):=fun t ht=>HR.out t (Rot.left hij (by omega) ht);clear hS HR;go_wp2;go_roundg (i-j+j)
   case measure=>omega
   case rel=>exact⟨i-j,j,_,by go_num,rfl,by omega,hj,by omega,hmj,Nat.le_refl _,hS2,HR2⟩
end
end Go.Proofs.YtnnfhojhbbcbmaaGreatDoor
