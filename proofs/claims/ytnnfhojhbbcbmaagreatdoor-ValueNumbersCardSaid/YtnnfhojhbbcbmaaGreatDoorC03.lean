/- value.right at rows of plain items. unicode/utf8's word: eight bytes as a number. unicode/utf8's ValidString at any text: what it answers hangs on the text alone. -/
import Derived.Test.YtnnfhojhbbcbmaaGreatDoorC02
import Derived.Deep.Cut
import Derived.Test.YtnnfhojhbbcbmaaGreatDoorC01
import Derived.Deep.QuietTactic
import Derived.BigQuiet
import Derived.Test.YtnnfhojhbbcbmaaGreatDoorC00
import Derived.Lib.LaidU8
namespace Go.Proofs.YtnnfhojhbbcbmaaGreatDoor
open Go.RowKit
theorem ZaD:(Tryz.prog.info? 24).map (fun i=>(i.zero,i.size,i.bytes))=some (some (.agg #[.int .u8 0,.int .i64 0,.string ⟨#[]⟩,.int .i64 0]),4,40):=by kernel_rfl
theorem ZeT:(Tryz.prog.info? 28).map (fun i=>(i.zero,i.size,i.bytes))=some (some (.slice none 0 0),1,24):=by kernel_rfl
theorem Zr(b off n c i:Nat)(hlt:i<n)(W:World):(Instr.indexAt 28 (.slice (some ⟨b,off,none⟩) n c) (.int .i64 (i:Int))).run Tryz.prog W= .ok (.pointer (some ⟨b,off+i*4,none⟩)) W:=by obtain⟨j0,hj,_,hj1,_⟩:=info_parts ZaD;exact ZfP Tryz.underlying28 hj hj1 b off n c i (i:Int) rfl hlt W
theorem ZP(b off n c i:Nat)(hlt:i<n)(W:World):(Instr.indexAt 34 (.slice (some ⟨b,off,none⟩) n c) (.int .i64 (i:Int))).run Tryz.prog W= .ok (.pointer (some ⟨b,off+i,none⟩)) W:=by obtain⟨j0,hj,_,hj1,_⟩:=info_parts ZeT;have:=ZfP Tryz.underlying34 hj hj1 b off n c i (i:Int) rfl hlt W;rwa[Nat.mul_one]at this
inductive Good:It→Prop
 |node (s:ByteArray) (d:Nat) (h:Ascii s) (hs:s.size≤8):Good ⟨1,0,s,d⟩
 |int (n:Int):Good ⟨2,n,⟨#[]⟩,0⟩
 |str (s:ByteArray) (h:Ascii s) (hs:s.size≤8):Good ⟨3,0,s,0⟩
structure Lst where
 a:Option Addr
 l:List It
 c:Nat
def Lst.v(x:Lst):Value:= .slice x.a x.l.length x.c
def OkL(w:World)(x:Lst):Prop:=RdI w x.a x.l∧(∀y∈x.l,Good y)∧x.l.length≤8
def OkLs(w:World)(ls:List Lst):Prop:=∀x∈ls,OkL w x
theorem OkLs.keep {w w':World}{ls:List Lst}(h:OkLs w ls)(hb:Below w.heap.size w w'):OkLs w' ls:=fun x hx=>⟨(h x hx).1.keep hb,(h x hx).2⟩
end Go.Proofs.YtnnfhojhbbcbmaaGreatDoor
namespace Go.Proofs.YtnnfhojhbbcbmaaGreatDoor
open Go.RowKit
def bt(s:ByteArray)(i:Nat):Int:=((s.data[i]?.getD 0).toNat:Int)
theorem ZQ(s:ByteArray)(i:Nat)(h:i<s.size):(((s[i]'h).toNat:Nat):Int)=bt s i:=by have h':i<s.data.size:=h;unfold bt;rw[Array.getElem?_eq_getElem h'];rfl
def Zm(z:Int):Prop:=bits .and .u64 z 9259542123273814144=0
instance (z:Int):Decidable (Zm z):=by unfold Zm;exact inferInstance
theorem Zdq(r:BitVec 64):IntKind.u64.wrap (r.toNat:Int)=(r.toNat:Int):=by rw[IntKind.wrap_u64];have:=r.isLt;omega
theorem Zj1(x y:Int):bits .and .u64 x y=((BitVec.ofInt 64 x &&& BitVec.ofInt 64 y).toNat:Int):=Zdq _
theorem ZoA(x y:Int):bits .or .u64 x y=((BitVec.ofInt 64 x ||| BitVec.ofInt 64 y).toNat:Int):=Zdq _
theorem Zdg {x y:Int}(h:Zm (bits .or .u64 x y)):Zm x∧Zm y:=by
 unfold Zm at*;rw[Zj1]at*;rw[ZoA]at h;rw[Zj1];have e:BitVec.ofInt 64 ((BitVec.ofInt 64 x ||| BitVec.ofInt 64 y).toNat:Int)=BitVec.ofInt 64 x ||| BitVec.ofInt 64 y:=by rw[BitVec.ofInt_natCast,BitVec.ofNat_toNat,BitVec.setWidth_eq]
 rw[e]at h;generalize BitVec.ofInt 64 x=a at*;generalize BitVec.ofInt 64 y=b at*;generalize BitVec.ofInt 64 9259542123273814144=m at*;have h0:(a ||| b) &&& m=0#64:=BitVec.eq_of_toNat_eq (by simpa using h);have hb:∀i,((a.getLsbD i||b.getLsbD i)&&m.getLsbD i)=false:=fun i=>by have:=congrArg (fun z=>z.getLsbD i) h0;simpa using this
 constructor
 ·have:a &&& m=0#64:=BitVec.eq_of_getLsbD_eq fun i _=>by
   have:=hb i;rw[BitVec.getLsbD_and,BitVec.getLsbD_zero]
   revert this
   cases a.getLsbD i<;>cases b.getLsbD i<;>cases m.getLsbD i<;>simp
  rw[this];rfl
 ·have:b &&& m=0#64:=BitVec.eq_of_getLsbD_eq fun i _=>by
   have:=hb i;rw[BitVec.getLsbD_and,BitVec.getLsbD_zero]
   revert this
   cases a.getLsbD i<;>cases b.getLsbD i<;>cases m.getLsbD i<;>simp
  rw[this];rfl
def Zna(b0 b1 b2 b3 b4 b5 b6 b7:Int):Int:=bits .or .u64 (bits .or .u64 (bits .or .u64 (bits .or .u64 (bits .or .u64 (bits .or .u64 (bits .or .u64 (IntKind.u64.wrap b0) (IntKind.u64.wrap (IntKind.u64.wrap b1*256))) (IntKind.u64.wrap (IntKind.u64.wrap b2*65536))) (IntKind.u64.wrap (IntKind.u64.wrap b3*16777216))) (IntKind.u64.wrap (IntKind.u64.wrap b4*4294967296))) (IntKind.u64.wrap (IntKind.u64.wrap b5*1099511627776))) (IntKind.u64.wrap (IntKind.u64.wrap b6*281474976710656))) (IntKind.u64.wrap (IntKind.u64.wrap b7*72057594037927936))
def wz(s:ByteArray):Int:=Zna (bt s 0) (bt s 1) (bt s 2) (bt s 3) (bt s 4) (bt s 5) (bt s 6) (bt s 7)
theorem zm0:∀b:Nat,b<256→Zm (IntKind.u64.wrap (b:Int))→b<128:=by decide+kernel
theorem zm1:∀b:Nat,b<256→Zm (IntKind.u64.wrap (IntKind.u64.wrap (b:Int)*256))→b<128:=by decide+kernel
theorem zm2:∀b:Nat,b<256→Zm (IntKind.u64.wrap (IntKind.u64.wrap (b:Int)*65536))→b<128:=by decide+kernel
theorem zm3:∀b:Nat,b<256→Zm (IntKind.u64.wrap (IntKind.u64.wrap (b:Int)*16777216))→b<128:=by decide+kernel
theorem zm4:∀b:Nat,b<256→Zm (IntKind.u64.wrap (IntKind.u64.wrap (b:Int)*4294967296))→b<128:=by decide+kernel
theorem zm5:∀b:Nat,b<256→Zm (IntKind.u64.wrap (IntKind.u64.wrap (b:Int)*1099511627776))→b<128:=by decide+kernel
theorem zm6:∀b:Nat,b<256→Zm (IntKind.u64.wrap (IntKind.u64.wrap (b:Int)*281474976710656))→b<128:=by decide+kernel
theorem zm7:∀b:Nat,b<256→Zm (IntKind.u64.wrap (IntKind.u64.wrap (b:Int)*72057594037927936))→b<128:=by decide+kernel
theorem Zae(s:ByteArray)(i:Nat):∃n:Nat,n<256∧bt s i=(n:Int):=⟨_,UInt8.toNat_lt _,rfl⟩
theorem Zdy(s:ByteArray)(h:Zm (wz s)):∀i,i<8→bt s i<128:=by
 unfold wz Zna at h;obtain⟨h,h7⟩:=Zdg h;obtain⟨h,h6⟩:=Zdg h;obtain⟨h,h5⟩:=Zdg h;obtain⟨h,h4⟩:=Zdg h;obtain⟨h,h3⟩:=Zdg h;obtain⟨h,h2⟩:=Zdg h;obtain⟨h0,h1⟩:=Zdg h;intro i hi
 match i,hi with
 |0,_=>obtain⟨n,hn,e⟩:=Zae s 0;rw[e]at h0⊢;have:=zm0 n hn h0;omega
 |1,_=>obtain⟨n,hn,e⟩:=Zae s 1;rw[e]at h1⊢;have:=zm1 n hn h1;omega
 |2,_=>obtain⟨n,hn,e⟩:=Zae s 2;rw[e]at h2⊢;have:=zm2 n hn h2;omega
 |3,_=>obtain⟨n,hn,e⟩:=Zae s 3;rw[e]at h3⊢;have:=zm3 n hn h3;omega
 |4,_=>obtain⟨n,hn,e⟩:=Zae s 4;rw[e]at h4⊢;have:=zm4 n hn h4;omega
 |5,_=>obtain⟨n,hn,e⟩:=Zae s 5;rw[e]at h5⊢;have:=zm5 n hn h5;omega
 |6,_=>obtain⟨n,hn,e⟩:=Zae s 6;rw[e]at h6⊢;have:=zm6 n hn h6;omega
 |7,_=>obtain⟨n,hn,e⟩:=Zae s 7;rw[e]at h7⊢;have:=zm7 n hn h7;omega
set_option maxRecDepth 100000 in
set_option maxHeartbeats 4000000 in
theorem Zfy(s:ByteArray)(w:World)(hs:8≤s.size):Calls Tryz.prog 195 #[.string s] w fun e w'=>e= .returned (.int .u64 (wz s))∧∃n,w'=w.drewN n:=by
 have h0:0<s.size:=by omega
 have i0:(0:Int)<(s.size:Int):=by omega
 have h1:1<s.size:=by omega
 have i1:(1:Int)<(s.size:Int):=by omega
 have h2:2<s.size:=by omega
 have i2:(2:Int)<(s.size:Int):=by omega
 have h3:3<s.size:=by omega
 have i3:(3:Int)<(s.size:Int):=by omega
 have h4:4<s.size:=by omega
 have i4:(4:Int)<(s.size:Int):=by omega
 have h5:5<s.size:=by omega
 have i5:(5:Int)<(s.size:Int):=by omega
 have h6:6<s.size:=by omega
 have i6:(6:Int)<(s.size:Int):=by omega
 have h7:7<s.size:=by omega
 have i7:(7:Int)<(s.size:Int):=by omega
 have hw:wz s=Zna (s[0]'h0).toNat (s[1]'h1).toNat (s[2]'h2).toNat (s[3]'h3).toNat (s[4]'h4).toNat (s[5]'h5).toNat (s[6]'h6).toNat (s[7]'h7).toNat:=by rw[ZQ,ZQ,ZQ,ZQ,ZQ,ZQ,ZQ,ZQ];rfl
 have Hw:=Za hw;clear hw;go_enter Tryz.func195,Tryz.ntmps195;go_wp2_with fail;go_quiet (fail);go_wp2;go_ret;exact⟨by rw[Hw.out];rfl,_,rfl⟩
end Go.Proofs.YtnnfhojhbbcbmaaGreatDoor
namespace Go.Proofs.YtnnfhojhbbcbmaaGreatDoor
open Go.RowKit
def Za3(t:ByteArray):Nat:=
 if bt t 0<128 then 1
 else if Lib.firstT (bt t 0).toNat % 8=2 then(if t.size<2∨bt t 1<Lib.accLo (Lib.firstT (bt t 0).toNat / 16)∨(Lib.accHi (Lib.firstT (bt t 0).toNat / 16):Int)<bt t 1 then 0 else 2)
 else if Lib.firstT (bt t 0).toNat % 8=3 then(if t.size<3∨bt t 1<Lib.accLo (Lib.firstT (bt t 0).toNat / 16)∨(Lib.accHi (Lib.firstT (bt t 0).toNat / 16):Int)<bt t 1∨bt t 2<128∨191<bt t 2 then 0 else 3)
 else if Lib.firstT (bt t 0).toNat % 8=4 then(if t.size<4∨bt t 1<Lib.accLo (Lib.firstT (bt t 0).toNat / 16)∨(Lib.accHi (Lib.firstT (bt t 0).toNat / 16):Int)<bt t 1∨bt t 2<128∨191<bt t 2∨bt t 3<128∨191<bt t 3 then 0 else 4)
 else 0
def vSf:Nat→ByteArray→Bool
 |0,_=>true
 |n+1,t=>if t.size=0 then true else if Za3 t=0 then false else vSf n (t.extract (Za3 t) t.size)
def vS(t:ByteArray):Bool:=vSf t.size t
theorem Zq(t:ByteArray)(k:Nat):(t.extract k t.size).size=t.size-k:=by simp[ByteArray.size_extract]
theorem Ziy:∀(n m:Nat) (t:ByteArray),t.size≤n→t.size≤m→vSf n t=vSf m t
 |0,0,_,_,_=>rfl
 |0,m+1,t,h,_=>by
  have:t.size=0:=by omega
  simp[vSf,this]
 |n+1,0,t,_,h=>by
  have:t.size=0:=by omega
  simp[vSf,this]
 |n+1,m+1,t,h1,h2=>by
  unfold vSf;by_cases h0:t.size=0
  ·rw[if_pos h0,if_pos h0]
  ·rw[if_neg h0,if_neg h0];by_cases hv:Za3 t=0
   ·rw[if_pos hv,if_pos hv]
   ·rw[if_neg hv,if_neg hv];have:=Zq t (Za3 t);exact Ziy n m _ (by omega) (by omega)
theorem ZoB {t:ByteArray}(h:t.size=0):vS t=true:=by unfold vS;rw[h];rfl
theorem ZU {t:ByteArray}(h:t.size≠0)(hv:Za3 t=0):vS t=false:=by unfold vS;obtain⟨n,hn⟩:∃n,t.size=n+1:=⟨t.size-1,by omega⟩;rw[hn];unfold vSf;rw[if_neg h,if_pos hv]
theorem Zc2 {t:ByteArray}{k:Nat}(h:t.size≠0)(hv:Za3 t=k)(hk:k≠0):vS (t.extract k t.size)=vS t:=by
 subst hv;have e:=Zq t (Za3 t);have:vS t=vSf (t.size) t:=rfl;rw[this];obtain⟨n,hn⟩:∃n,t.size=n+1:=⟨t.size-1,by omega⟩
 conv=>rhs;rw[hn]
 unfold vSf;rw[if_neg h,if_neg hk];exact Ziy _ _ _ (by omega) (by omega)
theorem ZeB(t:ByteArray)(k i:Nat):bt (t.extract k t.size) i=bt t (k+i):=by
 by_cases h:k+i<t.size
 ·have h1:i<(t.extract k t.size).size:=by rw[Zq];omega
  rw[←ZQ _ _ h1,←ZQ _ _ h,ByteArray.getElem_extract]
 ·have h1:¬i<(t.extract k t.size).size:=by rw[Zq];omega
  have h2:¬i<(t.extract k t.size).data.size:=h1;have h3:¬k+i<t.data.size:=h;unfold bt;rw[Array.getElem?_eq_none (by omega),Array.getElem?_eq_none (by omega)]
theorem Zj2(t:ByteArray)(a b:Nat):(t.extract a t.size).extract b (t.extract a t.size).size=t.extract (a+b) t.size:=by
 apply ByteArray.ext;apply Array.ext
 ·have h1:=Zq (t.extract a t.size) b;have h2:=Zq t a;have h3:=Zq t (a+b);show ByteArray.size _=ByteArray.size _;omega
 ·intro i h1 h2;have h1':i<((t.extract a t.size).extract b (t.extract a t.size).size).size:=h1;have h2':i<(t.extract (a+b) t.size).size:=h2;have e1:((t.extract a t.size).extract b (t.extract a t.size).size)[i]'h1'=t[a+(b+i)]'(by rw[Zq,Zq]at h1';omega):=by rw[ByteArray.getElem_extract,ByteArray.getElem_extract]
  have e2:(t.extract (a+b) t.size)[i]'h2'=t[(a+b)+i]'(by rw[Zq]at h2';omega):=by rw[ByteArray.getElem_extract]
  have e3:t[a+(b+i)]'(by rw[Zq,Zq]at h1';omega)=t[(a+b)+i]'(by rw[Zq]at h2';omega):=by congr 1;omega
  exact e1.trans (e3.trans e2.symm)
theorem Zi0 {t:ByteArray}(h:bt t 0<128):Za3 t=1:=by unfold Za3;rw[if_pos h]
theorem ZdL(t:ByteArray):∀k,k≤t.size→(∀i,i<k→bt t i<128)→vS (t.extract k t.size)=vS t
 |0,_,_=>by
  have:t.extract 0 t.size=t:=by simp
  rw[this]
 |k+1,hk,h=>by
  have ih:=ZdL t k (by omega) (fun i hi=>h i (by omega));rw[←ih];have h0:bt (t.extract k t.size) 0<128:=by rw[ZeB];exact h k (by omega)
  have hs:=Zq t k;have:=Zc2 (t:=t.extract k t.size) (by omega) (Zi0 h0) (by decide);rw[Zj2]at this;exact this
theorem ZeU(t:ByteArray)(k:Nat)(h:Zm (wz (t.extract k t.size))):∀i,k≤i→i<k+8→bt t i<128:=by intro i h1 h2;have:=Zdy _ h (i-k) (by omega);rw[ZeB]at this;rwa[show k+(i-k)=i by omega]at this
theorem ZkH(t:ByteArray)(h:16≤t.size)(h1:Zm (wz t))(h2:Zm (wz (t.extract 8 t.size))):vS (t.extract 16 t.size)=vS t:=
 ZdL t 16 h fun i hi=>by
  by_cases c:i<8
  ·exact Zdy t h1 i c
  ·exact ZeU t 8 h2 i (by omega) (by omega)
theorem ZkI(t:ByteArray)(h:32≤t.size)(h1:Zm (wz t))(h2:Zm (wz (t.extract 8 t.size)))(h3:Zm (wz (t.extract 16 t.size)))(h4:Zm (wz (t.extract 24 t.size))):vS (t.extract 32 t.size)=vS t:=
 ZdL t 32 h fun i hi=>by
  by_cases c:i<8
  ·exact Zdy t h1 i c
  ·by_cases c2:i<16
   ·exact ZeU t 8 h2 i (by omega) (by omega)
   ·by_cases c3:i<24
    ·exact ZeU t 16 h3 i (by omega) (by omega)
    ·exact ZeU t 24 h4 i (by omega) (by omega)
theorem Zfz {t:ByteArray}{x:Nat}(h0:¬bt t 0<128)(hx:Lib.firstT (bt t 0).toNat=x)(h2:x % 8=2)(h:t.size<2∨bt t 1<Lib.accLo (x / 16)∨(Lib.accHi (x / 16):Int)<bt t 1):Za3 t=0:=by unfold Za3;rw[if_neg h0,hx,if_pos h2,if_pos h]
theorem ZkJ {t:ByteArray}{x:Nat}(h0:¬bt t 0<128)(hx:Lib.firstT (bt t 0).toNat=x)(h2:x % 8=2)(h:¬(t.size<2∨bt t 1<Lib.accLo (x / 16)∨(Lib.accHi (x / 16):Int)<bt t 1)):Za3 t=2:=by unfold Za3;rw[if_neg h0,hx,if_pos h2,if_neg h]
theorem Z6 {t:ByteArray}{x:Nat}(h0:¬bt t 0<128)(hx:Lib.firstT (bt t 0).toNat=x)(h2:x % 8=3)(h:t.size<3∨bt t 1<Lib.accLo (x / 16)∨(Lib.accHi (x / 16):Int)<bt t 1∨bt t 2<128∨191<bt t 2):Za3 t=0:=by unfold Za3;rw[if_neg h0,hx,if_neg (by omega),if_pos h2,if_pos h]
theorem Zd3 {t:ByteArray}{x:Nat}(h0:¬bt t 0<128)(hx:Lib.firstT (bt t 0).toNat=x)(h2:x % 8=3)(h:¬(t.size<3∨bt t 1<Lib.accLo (x / 16)∨(Lib.accHi (x / 16):Int)<bt t 1∨bt t 2<128∨191<bt t 2)):Za3 t=3:=by unfold Za3;rw[if_neg h0,hx,if_neg (by omega),if_pos h2,if_neg h]
theorem ZK {t:ByteArray}{x:Nat}(h0:¬bt t 0<128)(hx:Lib.firstT (bt t 0).toNat=x)(h2:x % 8=4)(h:t.size<4∨bt t 1<Lib.accLo (x / 16)∨(Lib.accHi (x / 16):Int)<bt t 1∨bt t 2<128∨191<bt t 2∨bt t 3<128∨191<bt t 3):Za3 t=0:=by unfold Za3;rw[if_neg h0,hx,if_neg (by omega),if_neg (by omega),if_pos h2,if_pos h]
theorem Zd4 {t:ByteArray}{x:Nat}(h0:¬bt t 0<128)(hx:Lib.firstT (bt t 0).toNat=x)(h2:x % 8=4)(h:¬(t.size<4∨bt t 1<Lib.accLo (x / 16)∨(Lib.accHi (x / 16):Int)<bt t 1∨bt t 2<128∨191<bt t 2∨bt t 3<128∨191<bt t 3)):Za3 t=4:=by unfold Za3;rw[if_neg h0,hx,if_neg (by omega),if_neg (by omega),if_pos h2,if_neg h]
theorem ZlR {t:ByteArray}{x:Nat}(h0:¬bt t 0<128)(hx:Lib.firstT (bt t 0).toNat=x)(h2:x % 8≠2)(h3:x % 8≠3)(h4:x % 8≠4):Za3 t=0:=by unfold Za3;rw[if_neg h0,hx,if_neg h2,if_neg h3,if_neg h4]
def Tabs8(w:World):Prop:=Lib.Utf8Tabs 2 3 w
theorem Tabs8.keep {w w':World}(h:Tabs8 w)(hb:Below w.heap.size w w'):Tabs8 w':=
 ⟨fun c hc=>Zc hb (h.1 c hc),fun i hi=>⟨Zc hb (h.2 i hi).1,Zc hb (h.2 i hi).2⟩⟩
theorem Zf {B:Nat}{a w:World}(h:Below B a w)(n:Nat):Below B a (w.drewN n):=h.trans ⟨rfl,rfl,rfl,Nat.le_refl _,fun _ _=>rfl⟩
end Go.Proofs.YtnnfhojhbbcbmaaGreatDoor
