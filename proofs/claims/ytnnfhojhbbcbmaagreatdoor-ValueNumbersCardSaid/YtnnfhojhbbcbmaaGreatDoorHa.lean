/- Plain laws: what ParseInt and FormatInt make of a text is what is told by hand (Whole, Digits). -/
import Derived.Lib.ParseIntB
import Derived.Lib.ItoaNum
namespace Go.Proofs.YtnnfhojhbbcbmaaGreatDoor
def isD(c:UInt8):Bool:=decide (48≤c.toNat)&&decide (c.toNat≤57)
def rv:Nat→List UInt8→Option Nat
 |a,[]=>some a
 |a,c::r=>if isD c=true then rv (10*a+(c.toNat-48)) r else none
def rfD(neg:Bool)(d:List UInt8):Option Int:=
 if d.length=0∨19<d.length∨(d.head?=some 48∧(1<d.length∨neg=true))then none
 else match rv 0 d with
  |none=>none
  |some n=>if neg=true then(if n≤9223372036854775808 then some (-(n:Int))else none)else(if n<9223372036854775808 then some (n:Int)else none)
def rfO(l:List UInt8):Option Int:=if l.head?=some 45 then rfD true l.tail else rfD false l
theorem ZmT {n:Nat}(h:n<10):isD (UInt8.ofNat (48+n))=true∧(UInt8.ofNat (48+n)).toNat-48=n:=by
 have:(UInt8.ofNat (48+n)).toNat=48+n:=by simp;omega
 constructor
 ·unfold isD;rw[this];simp;omega
 ·rw[this];omega
theorem ZfT {c:UInt8}(h:isD c=true):48≤c.toNat∧c.toNat≤57:=by simpa[isD]using h
theorem ZhD(c:UInt8):∀(l:List UInt8) (a:Nat),rv a (l++[c])=(rv a l).bind fun b=>if isD c=true then some (10*b+(c.toNat-48))else none
 | [],a=>by simp[rv]
 |d::l,a=>by
  simp only[List.cons_append,rv];split
  ·exact ZhD c l _
  ·rfl
theorem Zj7:∀(l:List UInt8) (a n:Nat),rv a l=some n→a≤n
 | [],a,n,h=>by simp[rv]at h;omega
 |c::l,a,n,h=>by
  unfold rv at h;split at h
  ·have:=Zj7 l _ _ h;omega
  ·cases h
theorem ZjM:∀(u:Nat),rv 0 (Lib.decDigits u)=some u:=by
 intro u
 induction u using Nat.strongRecOn with
 |_ u ih=>
  rw[Lib.decDigits];split
  ·rename_i h;have:=ZmT h;simp only[rv];rw[if_pos this.1,this.2];simp
  ·have h2:=ZmT (n:=u % 10) (by omega);rw[ZhD,ih (u / 10) (by omega)];simp only[Option.bind_some];rw[if_pos h2.1,h2.2];congr 1;omega
theorem ZiC:∀(u:Nat),1≤u→(Lib.decDigits u).head?≠some 48:=by
 intro u
 induction u using Nat.strongRecOn with
 |_ u ih=>
  intro h1;rw[Lib.decDigits];split
  ·rename_i h;simp only[List.head?_cons,ne_eq,Option.some.injEq];intro e;have:=congrArg UInt8.toNat e;simp at this;omega
  ·have:=ih (u / 10) (by omega) (by omega);have hl:=Lib.decDigits_length (u / 10);have hp:=Lib.nDigits_pos (u / 10);cases hd:Lib.decDigits (u / 10)with
   |nil=>rw[hd]at hl;simp at hl;omega
   |cons a b=>rw[hd]at this;simpa using this
theorem ZkS(u:Nat):∃a b,Lib.decDigits u=a::b∧isD a=true:=by
 have hv:=ZjM u;have hl:=Lib.decDigits_length u;have hp:=Lib.nDigits_pos u;cases hd:Lib.decDigits u with
 |nil=>rw[hd]at hl;simp at hl;omega
 |cons a b=>
  refine⟨a,b,rfl,?_⟩;rw[hd]at hv;unfold rv at hv;split at hv
  ·assumption
  ·cases hv
theorem ZjN:∀(k:Nat) (d:List UInt8) (n:Nat),d.length=k+1→d.head?≠some 48→rv 0 d=some n→1≤n∧Lib.decDigits n=d
 |0,d,n,hl,hh,hv=>by
  match d,hl with
  | [c],_=>
   unfold rv at hv;split at hv
   ·rename_i hc;have hc2:=ZfT hc;simp only[rv,Option.some.injEq]at hv;have hne:c.toNat≠48:=by intro e;apply hh;simp only[List.head?_cons,Option.some.injEq];exact UInt8.toNat_inj.1 e
    refine⟨by omega,?_⟩;rw[Lib.decDigits,dif_pos (by omega)];congr 1;apply UInt8.toNat_inj.1;simp;omega
   ·cases hv
 |k+1,d,n,hl,hh,hv=>by
  have hne:d≠ []:=by intro e;subst e;simp at hl
  obtain⟨d',c,rfl⟩:∃d' c,d=d'++[c]:=⟨d.dropLast,d.getLast hne,(List.dropLast_concat_getLast hne).symm⟩;have hl':d'.length=k+1:=by simp at hl;omega
  rw[ZhD]at hv;cases hm:rv 0 d' with
  |none=>rw[hm]at hv;cases hv
  |some m=>
   rw[hm]at hv;simp only[Option.bind_some]at hv;split at hv
   ·rename_i hc;have hc2:=ZfT hc;injection hv with hv
    have hh':d'.head?≠some 48:=by
     cases d' with
     |nil=>simp at hl'
     |cons a b=>simpa using hh
    obtain⟨h1,h2⟩:=ZjN k d' m hl' hh' hm;refine⟨by omega,?_⟩;rw[Lib.decDigits,dif_neg (by omega),show n / 10=m by omega,h2];congr 2;apply UInt8.toNat_inj.1;simp;omega
   ·cases hv
theorem ZgJ(M:Nat)(hM:M<18446744073709551616):∀(l:List UInt8) (a n:Nat),rv a l=some n→n≤M→Lib.parseUintM M a l= .ok n
 | [],a,n,h,_=>by simp[rv]at h;subst h;rfl
 |c::l,a,n,h,hn=>by
  unfold rv at h;split at h
  ·rename_i hc;have hc2:=ZfT hc;have h1:=Zj7 _ _ _ h;unfold Lib.parseUintM;rw[if_pos hc2,if_neg (by omega),if_neg (by omega)];rw[show a*10+(c.toNat-48)=10*a+(c.toNat-48) by omega];exact ZgJ M hM l _ n h hn
  ·cases h
theorem Zon:(2:Nat) ^ 63=9223372036854775808:=by decide
theorem Zps:(2:Nat) ^ 64=18446744073709551616:=by decide
theorem ZgK {l:List UInt8}{n:Nat}(h0:l≠ [])(h:rv 0 l=some n)(hn:n≤9223372036854775808):Lib.parseUintB 64 l= .ok n:=by unfold Lib.parseUintB;rw[if_neg h0];exact ZgJ _ (by decide) l 0 n h (by rw[Zps];omega)
theorem ZdN {u:Nat}(h:u≤9223372036854775808):Lib.nDigits u≤19:=by
 rcases Nat.lt_or_ge 19 (Lib.nDigits u)with h1|h1
 ·exfalso
  have hlen:∀(k u:Nat),k<Lib.nDigits u→k=0∨10 ^ k≤u:=by
   intro k
   induction k with
   |zero=>intro u _;exact .inl rfl
   |succ k ih=>
    intro u hk
    right
    by_cases hs:u<10
    ·rw[Lib.nDigits_small hs]at hk;omega
    ·rw[Lib.nDigits_big hs]at hk;rcases ih (u / 10) (by omega)with e|e
     ·subst e;simp;omega
     ·rw[Nat.pow_succ];omega
  rcases hlen 19 u h1 with e|e
  ·omega
  ·have:(10:Nat) ^ 19=10000000000000000000:=by decide
   omega
 ·exact h1
theorem ZiD:Lib.decDigits 0=[48]:=by rw[Lib.decDigits,dif_pos (by omega)];rfl
theorem Zl4 {v:Int}(h1: -9223372036854775808≤v)(h2:v<9223372036854775808):rfO (Lib.itoa v)=some v:=by
 unfold Lib.itoa rfO;by_cases hn:v<0
 ·rw[if_pos hn,if_pos (by rfl)];simp only[List.tail_cons];have hl:=Lib.decDigits_length v.natAbs;have hp:=Lib.nDigits_pos v.natAbs;have hle:=ZdN (u:=v.natAbs) (by omega);have hh:=ZiC v.natAbs (by omega);unfold rfD
  rw[if_neg (by
   rw[hl];rintro(h|h|⟨h,_⟩)
   ·omega
   ·omega
   ·exact hh h),ZjM]
  simp only[if_true];rw[if_pos (by omega)];congr 1;omega
 ·rw[if_neg hn];obtain⟨a,b,e,ha⟩:=ZkS v.toNat;have ha2:=ZfT ha
  rw[if_neg (by
   rw[e];simp only[List.head?_cons,Option.some.injEq]
   intro e2;subst e2;simp[isD]at ha)]
  have hl:=Lib.decDigits_length v.toNat;have hp:=Lib.nDigits_pos v.toNat;have hle:=ZdN (u:=v.toNat) (by omega);unfold rfD
  rw[if_neg (by
   rintro(h|h|⟨h,h3⟩)
   ·omega
   ·omega
   ·by_cases h0:v.toNat=0
    ·rw[h0,ZiD]at h3;simp at h3
    ·exact ZiC v.toNat (by omega) h),ZjM]
  simp only;rw[if_neg (by decide),if_pos (by omega)];congr 1;omega
theorem Zhc {l:List UInt8}{v:Int}(h:rfO l=some v):Lib.parseIntB 64 l= .ok v∧Lib.itoa v=l:=by
 unfold rfO at h;by_cases hh:l.head?=some 45
 ·rw[if_pos hh]at h;cases l with
  |nil=>cases hh
  |cons c d=>
   simp only[List.head?_cons,Option.some.injEq]at hh;subst hh;simp only[List.tail_cons]at h;unfold rfD at h;split at h
   ·cases h
   ·rename_i hd;split at h
    ·cases h
    ·rename_i n hv;rw[if_pos rfl]at h;split at h
     ·rename_i hle;injection h with h;have h0:d≠ []:=by intro e;subst e;simp at hd
      have hh2:d.head?≠some 48:=fun e=>hd (.inr (.inr ⟨e,.inr rfl⟩));obtain⟨h1,h2⟩:=ZjN (d.length-1) d n (by have:d.length≠0:=fun e=>hd (.inl e);omega) hh2 hv;constructor
      ·unfold Lib.parseIntB;simp only;have e45:(45:UInt8).toNat=45:=rfl;rw[if_pos (.inr e45),ZgK h0 hv hle];simp only;rw[if_neg (by rw[e45];simp),if_neg (by rw[e45];simp only[true_and];show ¬2 ^ 63<n;rw[Zon];omega),if_pos e45,h]
      ·unfold Lib.itoa;rw[if_pos (by omega),show v.natAbs=n by omega,h2]
     ·cases h
 ·rw[if_neg hh]at h;unfold rfD at h;split at h
  ·cases h
  ·rename_i hd;split at h
   ·cases h
   ·rename_i n hv;rw[if_neg (by decide)]at h;split at h
    ·rename_i hlt;injection h with h;have h0:l≠ []:=by intro e;subst e;simp at hd
     have hdig:Lib.decDigits n=l:=by
      by_cases hz:l.head?=some 48
      ·have hl1:l.length=1:=by
        have:¬1<l.length:=fun e=>hd (.inr (.inr ⟨hz,.inl e⟩));have:l.length≠0:=fun e=>hd (.inl e);omega
       match l,hl1,hz with
       | [c],_,hz=>
        simp only[List.head?_cons,Option.some.injEq]at hz;subst hz;simp[rv,isD]at hv;subst hv;exact ZiD
      ·exact(ZjN (l.length-1) l n (by have:l.length≠0:=fun e=>hd (.inl e);omega) hz hv).2
     constructor
     ·cases l with
      |nil=>exact absurd rfl h0
      |cons c d=>
       have hc:isD c=true:=by
        have hv2:=hv;unfold rv at hv2;split at hv2
        ·assumption
        ·cases hv2
       have hc2:=ZfT hc;unfold Lib.parseIntB;simp only;rw[if_neg (by omega),ZgK h0 hv (by omega)];simp only;rw[if_neg (by rintro⟨_,h3⟩;rw[show 64-1=63 from rfl,Zon]at h3;omega),if_neg (by omega),if_neg (by omega),h]
     ·unfold Lib.itoa;rw[if_neg (by omega),show v.toNat=n by omega,hdig]
    ·cases h
end Go.Proofs.YtnnfhojhbbcbmaaGreatDoor
