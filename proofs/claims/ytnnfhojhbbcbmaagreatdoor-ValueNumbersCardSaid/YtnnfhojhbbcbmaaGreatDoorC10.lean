/- Plain laws: the character of a text, told by hand (ref05.Next), as ValidString and Decode tell it. Plain laws: a text that is right, told by hand. Plain laws: what is told by hand of a text (ref05.Next, Texts) is what ValidString and the ranges over its runes tell. The reference on texts (ref05): Char, Next, Texts. -/
import Derived.Test.YtnnfhojhbbcbmaaGreatDoorC03
import Derived.Lib.DecodeN
import Derived.Test.YtnnfhojhbbcbmaaGreatDoorC05
namespace Go.Proofs.YtnnfhojhbbcbmaaGreatDoor
open Go.RowKit
def nxN(n b0 b1 b2 b3:Nat):Nat×Nat:=
 if b0<128 then(b0,1)
 else if 194≤b0∧b0≤223 then(if n<2∨b1<128∨191<b1 then(0,0)else((b0-192)*64+(b1-128),2))
 else if 224≤b0∧b0≤239 then
  (if n<3∨b1<128∨191<b1∨b2<128∨191<b2∨(b0-224)*4096+(b1-128)*64+(b2-128)<2048∨(55296≤(b0-224)*4096+(b1-128)*64+(b2-128)∧(b0-224)*4096+(b1-128)*64+(b2-128)≤57343)then(0,0)
   else((b0-224)*4096+(b1-128)*64+(b2-128),3))
 else if 240≤b0∧b0≤244 then
  (if n<4∨b1<128∨191<b1∨b2<128∨191<b2∨b3<128∨191<b3∨(b0-240)*262144+(b1-128)*4096+(b2-128)*64+(b3-128)<65536∨1114111<(b0-240)*262144+(b1-128)*4096+(b2-128)*64+(b3-128)then(0,0)
   else((b0-240)*262144+(b1-128)*4096+(b2-128)*64+(b3-128),4))
 else(0,0)
def vnN(n b0 b1 b2 b3:Nat):Nat:=
 if b0<128 then 1
 else if Lib.firstT b0 % 8=2 then(if n<2∨b1<Lib.accLo (Lib.firstT b0 / 16)∨Lib.accHi (Lib.firstT b0 / 16)<b1 then 0 else 2)
 else if Lib.firstT b0 % 8=3 then(if n<3∨b1<Lib.accLo (Lib.firstT b0 / 16)∨Lib.accHi (Lib.firstT b0 / 16)<b1∨b2<128∨191<b2 then 0 else 3)
 else if Lib.firstT b0 % 8=4 then(if n<4∨b1<Lib.accLo (Lib.firstT b0 / 16)∨Lib.accHi (Lib.firstT b0 / 16)<b1∨b2<128∨191<b2∨b3<128∨191<b3 then 0 else 4)
 else 0
theorem Znp(b:Nat):Lib.firstT b=240∧b<128∨Lib.firstT b=241∧128≤b∧b<194∨Lib.firstT b=2∧194≤b∧b<224∨Lib.firstT b=19∧b=224∨Lib.firstT b=3∧225≤b∧b<240∧b≠237∨Lib.firstT b=35∧b=237∨Lib.firstT b=52∧b=240∨Lib.firstT b=4∧241≤b∧b<244∨Lib.firstT b=68∧b=244∨Lib.firstT b=241∧245≤b:=by
 unfold Lib.firstT
 repeat' split
 all_goals omega
theorem Zc6 {α:Type}{p q:Prop} [Decidable p] [Decidable q](h:p↔q){a b:α}:(if p then a else b)=if q then a else b:=by
 by_cases hp:p
 ·rw[if_pos hp,if_pos (h.1 hp)]
 ·rw[if_neg hp,if_neg (fun hq=>hp (h.2 hq))]
theorem Zdx {p:Prop} [Decidable p]{r k:Nat}:(if p then((0,0):Nat×Nat)else(r,k)).2=if p then 0 else k:=by
 by_cases hp:p
 ·rw[if_pos hp,if_pos hp]
 ·rw[if_neg hp,if_neg hp]
theorem vn2 {n b0 b1 b2 b3 f lo hi:Nat}(e:Lib.firstT b0=f)(h0:¬b0<128)(h2:f % 8=2)(hl:Lib.accLo (f / 16)=lo)(hh:Lib.accHi (f / 16)=hi):
  vnN n b0 b1 b2 b3=if n<2∨b1<lo∨hi<b1 then 0 else 2:=by
 unfold vnN;rw[e,if_neg h0,if_pos h2,hl,hh]
theorem vn3 {n b0 b1 b2 b3 f lo hi:Nat}(e:Lib.firstT b0=f)(h0:¬b0<128)(h2:f % 8=3)(hl:Lib.accLo (f / 16)=lo)(hh:Lib.accHi (f / 16)=hi):
  vnN n b0 b1 b2 b3=if n<3∨b1<lo∨hi<b1∨b2<128∨191<b2 then 0 else 3:=by
 unfold vnN;rw[e,if_neg h0,if_neg (by omega),if_pos h2,hl,hh]
theorem vn4 {n b0 b1 b2 b3 f lo hi:Nat}(e:Lib.firstT b0=f)(h0:¬b0<128)(h2:f % 8=4)(hl:Lib.accLo (f / 16)=lo)(hh:Lib.accHi (f / 16)=hi):
  vnN n b0 b1 b2 b3=if n<4∨b1<lo∨hi<b1∨b2<128∨191<b2∨b3<128∨191<b3 then 0 else 4:=by
 unfold vnN;rw[e,if_neg h0,if_neg (by omega),if_neg (by omega),if_pos h2,hl,hh]
theorem vn0 {n b0 b1 b2 b3:Nat}(e:Lib.firstT b0=241)(h0:¬b0<128):vnN n b0 b1 b2 b3=0:=by unfold vnN;rw[e,if_neg h0,if_neg (by decide),if_neg (by decide),if_neg (by decide)]
theorem nx3 {n b0 b1 b2 b3:Nat}(h:224≤b0∧b0≤239):nxN n b0 b1 b2 b3=if n<3∨b1<128∨191<b1∨b2<128∨191<b2∨(b0-224)*4096+(b1-128)*64+(b2-128)<2048∨(55296≤(b0-224)*4096+(b1-128)*64+(b2-128)∧(b0-224)*4096+(b1-128)*64+(b2-128)≤57343)then(0,0)
     else((b0-224)*4096+(b1-128)*64+(b2-128),3):=by
 unfold nxN;rw[if_neg (by omega),if_neg (by omega),if_pos h]
theorem nx4 {n b0 b1 b2 b3:Nat}(h:240≤b0∧b0≤244):nxN n b0 b1 b2 b3=if n<4∨b1<128∨191<b1∨b2<128∨191<b2∨b3<128∨191<b3∨(b0-240)*262144+(b1-128)*4096+(b2-128)*64+(b3-128)<65536∨1114111<(b0-240)*262144+(b1-128)*4096+(b2-128)*64+(b3-128)then(0,0)
     else((b0-240)*262144+(b1-128)*4096+(b2-128)*64+(b3-128),4):=by
 unfold nxN;rw[if_neg (by omega),if_neg (by omega),if_neg (by omega),if_pos h]
theorem nx2 {n b0 b1 b2 b3:Nat}(h:194≤b0∧b0≤223):nxN n b0 b1 b2 b3=if n<2∨b1<128∨191<b1 then(0,0)else((b0-192)*64+(b1-128),2):=by unfold nxN;rw[if_neg (by omega),if_pos h]
theorem nx0 {n b0 b1 b2 b3:Nat}(h0:¬b0<128)(h:b0<194∨245≤b0):nxN n b0 b1 b2 b3=(0,0):=by unfold nxN;rw[if_neg h0,if_neg (by omega),if_neg (by omega),if_neg (by omega)]
theorem nx1 {n b0 b1 b2 b3:Nat}(h:b0<128):nxN n b0 b1 b2 b3=(b0,1):=by unfold nxN;rw[if_pos h]
theorem Zom(n b0 b1 b2 b3:Nat):(nxN n b0 b1 b2 b3).2=vnN n b0 b1 b2 b3:=by
 rcases Znp b0 with⟨e,h⟩|⟨e,h⟩|⟨e,h⟩|⟨e,h⟩|⟨e,h⟩|⟨e,h⟩|⟨e,h⟩|⟨e,h⟩|⟨e,h⟩|⟨e,h⟩
 ·rw[nx1 h];unfold vnN;rw[if_pos h]
 ·rw[nx0 (by omega) (by omega),vn0 e (by omega)]
 ·rw[nx2 (by omega),Zdx,vn2 e (by omega) (by decide) (lo:=128) (hi:=191) rfl rfl]
 ·rw[nx3 (by omega),Zdx,vn3 e (by omega) (by decide) (lo:=160) (hi:=191) rfl rfl];subst h;exact Zc6 (by omega)
 ·rw[nx3 (by omega),Zdx,vn3 e (by omega) (by decide) (lo:=128) (hi:=191) rfl rfl];exact Zc6 (by omega)
 ·rw[nx3 (by omega),Zdx,vn3 e (by omega) (by decide) (lo:=128) (hi:=159) rfl rfl];subst h;exact Zc6 (by omega)
 ·rw[nx4 (by omega),Zdx,vn4 e (by omega) (by decide) (lo:=144) (hi:=191) rfl rfl];subst h;exact Zc6 (by omega)
 ·rw[nx4 (by omega),Zdx,vn4 e (by omega) (by decide) (lo:=128) (hi:=191) rfl rfl];exact Zc6 (by omega)
 ·rw[nx4 (by omega),Zdx,vn4 e (by omega) (by decide) (lo:=128) (hi:=143) rfl rfl];subst h;exact Zc6 (by omega)
 ·rw[nx0 (by omega) (by omega),vn0 e (by omega)]
theorem ZjL {p:Prop} [Decidable p]{r k:Nat}(h:(if p then((0,0):Nat×Nat)else(r,k)).2≠0):¬p:=by intro hp;rw[if_pos hp]at h;exact h rfl
theorem ZoE(n b0 b1 b2 b3:Nat)(h:(nxN n b0 b1 b2 b3).2≠0):nxN n b0 b1 b2 b3=Lib.decodeN n b0 b1 b2 b3:=by
 by_cases c1:b0<128
 ·rw[nx1 c1];unfold Lib.decodeN;rw[if_pos c1]
 by_cases c0:b0<194∨245≤b0
 ·rw[nx0 c1 c0]at h;exact absurd rfl h
 by_cases c2:b0≤223
 ·rw[nx2 (by omega)]at h⊢;have hp:=ZjL h;clear h;rw[if_neg hp];unfold Lib.decodeN;rw[if_neg c1,if_pos (by omega),if_pos (by omega)];have e1:b0 % 32=b0-192:=by omega
  have e2:b1 % 64=b1-128:=by omega
  rw[e1,e2]
 by_cases c3:b0≤239
 ·rw[nx3 (by omega)]at h⊢;have hp:=ZjL h;clear h;rw[if_neg hp];have e1:b0 % 16=b0-224:=by omega
  have e2:b1 % 64=b1-128:=by omega
  have e3:b2 % 64=b2-128:=by omega
  have d1:b1 / 64=2:=by omega
  have d2:b2 / 64=2:=by omega
  unfold Lib.decodeN;rw[e1,e2,e3,if_neg c1,if_neg (by omega),if_pos (by omega),if_pos (by omega)]
 ·rw[nx4 (by omega)]at h⊢;have hp:=ZjL h;clear h;rw[if_neg hp];have e1:b0 % 8=b0-240:=by omega
  have e2:b1 % 64=b1-128:=by omega
  have e3:b2 % 64=b2-128:=by omega
  have e4:b3 % 64=b3-128:=by omega
  have d1:b1 / 64=2:=by omega
  have d2:b2 / 64=2:=by omega
  have d3:b3 / 64=2:=by omega
  unfold Lib.decodeN;rw[e2,e3,e4,e1,if_neg c1,if_neg (by omega),if_neg (by omega),if_pos (by omega),if_pos (by omega)]
def ZbL(r:Nat):Bool:=decide (r=9)||(decide (r=10)||(decide (r=13)||((decide (32≤r)&&decide (r≤55295))||((decide (57344≤r)&&decide (r≤65533))||(decide (65536≤r)&&decide (r≤1114111))))))
def nxt(s:ByteArray)(k:Nat):Nat×Nat:=nxN (s.size-k) (bt s k).toNat (bt s (k+1)).toNat (bt s (k+2)).toNat (bt s (k+3)).toNat
theorem ZhT(s:ByteArray)(k:Nat):(s.get! k).toNat=(bt s k).toNat:=by unfold bt;rw[Int.toNat_natCast];show(s.data[k]!).toNat=_;rw[getElem!_def];cases s.data[k]?<;>rfl
theorem ZhC(s:ByteArray)(k:Nat)(_hk:k<s.size)(h:(nxt s k).2≠0):nxt s k=Utf8.decode s k:=by rw[Lib.decode_at,ZhT,ZhT,ZhT,ZhT];exact ZoE _ _ _ _ _ h
theorem Znq(t:ByteArray):Za3 t=vnN t.size (bt t 0).toNat (bt t 1).toNat (bt t 2).toNat (bt t 3).toNat:=by
 obtain⟨n0,l0,e0⟩:=Zae t 0;obtain⟨n1,l1,e1⟩:=Zae t 1;obtain⟨n2,l2,e2⟩:=Zae t 2;obtain⟨n3,l3,e3⟩:=Zae t 3;unfold Za3 vnN;rw[e0,e1,e2,e3];simp only[Int.toNat_natCast]
 repeat' split
 all_goals first|rfl|omega
theorem Zl2(s:ByteArray)(k:Nat)(_hk:k<s.size):(nxt s k).2=Za3 (s.extract k s.size):=by rw[Znq,ZeB,ZeB,ZeB,ZeB,Zq];exact Zom _ _ _ _ _
end Go.Proofs.YtnnfhojhbbcbmaaGreatDoor
namespace Go.Proofs.YtnnfhojhbbcbmaaGreatDoor
open Go.RowKit
def rTf(s:ByteArray):Nat→Nat→Bool
 |0,_=>true
 |n+1,k=>if k<s.size then(if (nxt s k).2=0 then false else(ZbL (nxt s k).1&&rTf s n (k+(nxt s k).2)))else true
theorem ZiB(s:ByteArray):∀(n m k:Nat),s.size≤k+n→s.size≤k+m→rTf s n k=rTf s m k
 |0,0,_,_,_=>rfl
 |0,m+1,k,h,_=>by unfold rTf;rw[if_neg (by omega)]
 |n+1,0,k,_,h=>by unfold rTf;rw[if_neg (by omega)]
 |n+1,m+1,k,h1,h2=>by
  unfold rTf;by_cases hk:k<s.size
  ·rw[if_pos hk,if_pos hk];by_cases h0:(nxt s k).2=0
   ·rw[if_pos h0,if_pos h0]
   ·rw[if_neg h0,if_neg h0,ZiB s n m _ (by omega) (by omega)]
  ·rw[if_neg hk,if_neg hk]
theorem Zpr(s:ByteArray)(k:Nat)(hk:k<s.size)(h:(nxt s k).2=0):rTf s s.size k=false:=by
 obtain⟨n,hn⟩:∃n,n=s.size:=⟨_,rfl⟩;rw[←hn]
 match n with
 |0=>omega
 |n+1=>unfold rTf;rw[if_pos hk,if_pos h]
theorem Znr(s:ByteArray)(k:Nat)(hk:k<s.size)(h:(nxt s k).2≠0):rTf s s.size k=(ZbL (nxt s k).1&&rTf s s.size (k+(nxt s k).2)):=by
 rw[ZiB s s.size (s.size+1) k (by omega) (by omega)]
 conv=>lhs;unfold rTf
 rw[if_pos hk,if_neg h]
theorem ZoF(s:ByteArray)(k:Nat)(h:¬k<s.size):rTf s s.size k=true:=by
 obtain⟨n,hn⟩:∃n,n=s.size:=⟨_,rfl⟩;rw[←hn]
 match n with
 |0=>rfl
 |n+1=>unfold rTf;rw[if_neg h]
theorem ZoG(n b0 b1 b2 b3:Nat):vnN n b0 b1 b2 b3≤4:=by
 unfold vnN
 repeat' split
 all_goals omega
theorem ZoH(s:ByteArray)(k:Nat):(nxt s k).2≤4:=by unfold nxt;rw[Zom];exact ZoG _ _ _ _ _
end Go.Proofs.YtnnfhojhbbcbmaaGreatDoor
namespace Go.Proofs.YtnnfhojhbbcbmaaGreatDoor
open Go.RowKit
theorem Zns(r:Nat):ZbL r=chr (r:Int):=by unfold ZbL chr;rw[Bool.eq_iff_iff];simp only[Bool.or_eq_true,Bool.and_eq_true,decide_eq_true_eq,beq_iff_eq,Bool.not_eq_true',Bool.or_eq_false_iff,Bool.and_eq_false_iff,decide_eq_false_iff_not,bne_iff_ne,ne_eq];omega
theorem ZmS(s:ByteArray):∀(n k:Nat),rTf s n k=(Zdr s n k&&vSf n (s.extract k s.size))
 |0,k=>rfl
 |n+1,k=>by
  unfold rTf Zdr vSf;have hsz:=Zq s k;by_cases hk:k<s.size
  ·have hne:¬(s.extract k s.size).size=0:=by omega
   rw[if_pos hk,if_pos hk,if_neg hne];have hv:=Zl2 s k hk;by_cases h0:(nxt s k).2=0
   ·rw[if_pos h0,if_pos (by rw[←hv];exact h0),Bool.and_false]
   ·rw[if_neg h0,if_neg (by rw[←hv];exact h0),ZmS s n,Zns,←hv,Zj2];rw[ZhC s k hk h0,Bool.and_assoc]
  ·have he:(s.extract k s.size).size=0:=by omega
   rw[if_neg hk,if_neg hk,if_pos he];rfl
theorem Znb(s:ByteArray):rTf s s.size 0=tS s:=by
 rw[ZmS];unfold tS vS;have e:s.extract 0 s.size=s:=by apply ByteArray.ext;rw[ByteArray.data_extract];exact Array.extract_size
 rw[e]
end Go.Proofs.YtnnfhojhbbcbmaaGreatDoor
namespace Go.Proofs.YtnnfhojhbbcbmaaGreatDoor
set_option maxRecDepth 100000
set_option maxHeartbeats 8000000
open Go.RowKit
theorem Zal(s:ByteArray)(k:Nat)(hk:k<s.size)(z:Int)(hz:z=(k:Int))(W:World):(Instr.index 9 (.string s) (.int .i64 z)).run Tryz.prog W= .ok (.int .u8 (bt s k)) W:=by
 subst hz;rw[run_index_string W 9 s .i64 _ Tryz.underlying9,dif_pos ⟨by omega,by omega⟩];have e:((k:Int)).toNat=k:=by omega
 simp only[e];rw[ZQ]
def win(r a b:Int):Bool:=decide (a≤r)&&decide (r≤b)
theorem Znt {r a b:Int}(h:win r a b=true):a≤r∧r≤b:=by unfold win at h;simpa using h
theorem ZoI {r a b:Int}(h:win r a b=false):¬(a≤r∧r≤b):=by rintro⟨h1,h2⟩;unfold win at h;simp[h1,h2]at h
theorem Zaw(r a b:Int)(w:World):Calls Tryz.prog 193 #[.int .i32 r,.int .i32 a,.int .i32 b] w fun e w'=>e= .returned (.bool (win r a b))∧w=w':=by
 by_cases h1:a≤r
 ·by_cases h2:r≤b
  ·have H:Hid (win r a b=true):=by show _=_;simp[win,h1,h2]
   go_enter Tryz.func193,Tryz.ntmps193;go_wp2;go_ret;exact⟨by rw[H.out];rfl,rfl⟩
  ·have H:Hid (win r a b=false):=by show _=_;simp[win,h2]
   have h2d:decide (r≤b)=false:=by simpa using h2
   go_enter Tryz.func193,Tryz.ntmps193;go_wp2;go_ret;exact⟨by rw[H.out];rfl,rfl⟩
 ·have H:Hid (win r a b=false):=by show _=_;simp[win,h1]
  have h1d:decide (a≤r)=false:=by simpa using h1
  go_enter Tryz.func193,Tryz.ntmps193;go_wp2;go_ret;exact⟨by rw[H.out];rfl,rfl⟩
theorem Zl3(r:Nat):ZbL r=(decide ((r:Int)=9)||(decide ((r:Int)=10)||(decide ((r:Int)=13)||(win r 32 55295||(win r 57344 65533||win r 65536 1114111))))):=by unfold ZbL win;rw[Bool.eq_iff_iff];simp only[Bool.or_eq_true,Bool.and_eq_true,decide_eq_true_eq];omega
theorem ZgI(r:Nat)(w:World):Calls Tryz.prog 201 #[.int .i32 (r:Int)] w fun e w'=>e= .returned (.bool (ZbL r))∧w=w':=by
 have hw:=Zl3 r;generalize (r:Int)=z at*;by_cases h9:z=9
 ·have f:(z==9)=true:=by simpa using h9
  have H:Hid (ZbL r=true):=by show _=_;rw[hw];simp[h9]
  clear h9 hw;go_enter Tryz.func201,Tryz.ntmps201;go_wp2_with (go_at_call 193;refine(Zaw _ _ _ _).mono ?_;rintro e w' ⟨rfl,rfl⟩);go_ret;exact⟨by rw[H.out];rfl,rfl⟩
 have f9:(z==9)=false:=by simpa using h9
 by_cases h10:z=10
 ·have f:(z==10)=true:=by simpa using h10
  have H:Hid (ZbL r=true):=by show _=_;rw[hw];simp[h10]
  clear h9 h10 hw;go_enter Tryz.func201,Tryz.ntmps201;go_wp2_with (go_at_call 193;refine(Zaw _ _ _ _).mono ?_;rintro e w' ⟨rfl,rfl⟩);go_ret;exact⟨by rw[H.out];rfl,rfl⟩
 have f10:(z==10)=false:=by simpa using h10
 by_cases h13:z=13
 ·have f:(z==13)=true:=by simpa using h13
  have H:Hid (ZbL r=true):=by show _=_;rw[hw];simp[h13]
  clear h9 h10 h13 hw;go_enter Tryz.func201,Tryz.ntmps201;go_wp2_with (go_at_call 193;refine(Zaw _ _ _ _).mono ?_;rintro e w' ⟨rfl,rfl⟩);go_ret;exact⟨by rw[H.out];rfl,rfl⟩
 have f13:(z==13)=false:=by simpa using h13
 rcases Bool.eq_false_or_eq_true (win z 32 55295)with a1|a1
 ·have H:Hid (ZbL r=true):=by show _=_;rw[hw,a1];simp
  clear h9 h10 h13 hw;go_enter Tryz.func201,Tryz.ntmps201;go_wp2_with (go_at_call 193;refine(Zaw _ _ _ _).mono ?_;rintro e w' ⟨rfl,rfl⟩);go_ret;exact⟨by rw[H.out];rfl,rfl⟩
 rcases Bool.eq_false_or_eq_true (win z 57344 65533)with a2|a2
 ·have H:Hid (ZbL r=true):=by show _=_;rw[hw,a2];simp
  clear h9 h10 h13 hw;go_enter Tryz.func201,Tryz.ntmps201;go_wp2_with (go_at_call 193;refine(Zaw _ _ _ _).mono ?_;rintro e w' ⟨rfl,rfl⟩);go_ret;exact⟨by rw[H.out];rfl,rfl⟩
 have H:Hid (ZbL r=win z 65536 1114111):=by show _=_;rw[hw,a1,a2];simp[h9,h10,h13]
 clear h9 h10 h13 hw;go_enter Tryz.func201,Tryz.ntmps201;go_wp2_with (go_at_call 193;refine(Zaw _ _ _ _).mono ?_;rintro e w' ⟨rfl,rfl⟩);go_ret;exact⟨by rw[H.out];rfl,rfl⟩
theorem Zab {a m:Int}{c d:Nat}(h:a=(c:Int))(h2:m=(d:Int)):Ending.returned (.tuple #[.int .i32 a,.int .i64 m])= .returned (.tuple #[.int .i32 (c:Int),.int .i64 (d:Int)]):=by rw[h,h2]
theorem ZoJ {s:ByteArray}{k n0 n1 n2 n3:Nat}(e0:bt s k=n0)(e1:bt s (k+1)=n1)(e2:bt s (k+2)=n2)(e3:bt s (k+3)=n3):nxt s k=nxN (s.size-k) n0 n1 n2 n3:=by unfold nxt;rw[e0,e1,e2,e3];simp only[Int.toNat_natCast]
theorem ZcV(s:ByteArray)(k:Nat)(hk:k<s.size)(hs:s.size≤140737488355328)(w:World):
  Calls Tryz.prog 141 #[.string s,.int .i64 k] w fun e w'=>e= .returned (.tuple #[.int .i32 ((nxt s k).1:Nat),.int .i64 ((nxt s k).2:Nat)])∧w=w':=by
 obtain⟨n0,l0,e0⟩:=Zae s k;obtain⟨n1,l1,e1⟩:=Zae s (k+1);obtain⟨n2,l2,e2⟩:=Zae s (k+2);obtain⟨n3,l3,e3⟩:=Zae s (k+3);have hN:=ZoJ e0 e1 e2 e3;have hx0:=Zal s k hk k rfl;rw[e0]at hx0;by_cases c1:n0<128
 ·have HR:Hid (nxt s k=(n0,1)):=by show _=_;rw[hN,nx1 c1]
  have i1:(n0:Int)<128:=by omega
  clear hN e0 e1 e2 e3 c1;go_enter Tryz.func141,Tryz.ntmps141;go_wp2;go_ret2;exact⟨by rw[HR.out];rfl,rfl⟩
 have i1:decide ((n0:Int)<128)=false:=by simp;omega
 by_cases c0:n0<194
 ·have HR:Hid (nxt s k=(0,0)):=by show _=_;rw[hN,nx0 c1 (.inl c0)]
  have i2:decide (194≤(n0:Int))=false:=by simp;omega
  have i3:decide (224≤(n0:Int))=false:=by simp;omega
  have i4:decide (240≤(n0:Int))=false:=by simp;omega
  clear hN e0 e1 e2 e3 c1 c0;go_enter Tryz.func141,Tryz.ntmps141;go_wp2;go_ret2;exact⟨by rw[HR.out];rfl,rfl⟩
 have i2:194≤(n0:Int):=by omega
 by_cases c5:244<n0
 ·have HR:Hid (nxt s k=(0,0)):=by show _=_;rw[hN,nx0 c1 (.inr (by omega))]
  have i3:decide ((n0:Int)≤223)=false:=by simp;omega
  have i4:224≤(n0:Int):=by omega
  have i5:decide ((n0:Int)≤239)=false:=by simp;omega
  have i6:240≤(n0:Int):=by omega
  have i7:decide ((n0:Int)≤244)=false:=by simp;omega
  clear hN e0 e1 e2 e3 c1 c0;go_enter Tryz.func141,Tryz.ntmps141;go_wp2;go_ret2;exact⟨by rw[HR.out];rfl,rfl⟩
 have cc:=c5;by_cases c2:n0≤223
 ·have i3:(n0:Int)≤223:=by omega
  by_cases cs:s.size<k+2
  ·skip;have HR:Hid (nxt s k=(0,0)):=by show _=_;rw[hN,nx2 (by omega),if_pos (by omega)]
   have i9:(s.size:Int)<(k:Int)+2:=by omega
   clear hN e0 e1 e2 e3 c1 c0 cc;go_enter Tryz.func141,Tryz.ntmps141;go_wp2;go_ret2;exact⟨by rw[HR.out];exact Zab (by dsimp only;omega) rfl,rfl⟩
  have i9:decide ((s.size:Int)<(k:Int)+2)=false:=by simp;omega
  have hx1:=Zal s (k+1) (by omega) ((k:Int)+1) (by omega);rw[e1]at hx1;by_cases d1:n1<128
  ·skip;have HR:Hid (nxt s k=(0,0)):=by show _=_;rw[hN,nx2 (by omega),if_pos (by omega)]
   have j1:(n1:Int)<128:=by omega
   clear hN e0 e1 e2 e3 c1 c0 cc;go_enter Tryz.func141,Tryz.ntmps141;go_wp2_with fail;refine wp_loop_rounds 5 ?_;rw[rounds_succ];go_wp2;go_ret2;exact⟨by rw[HR.out];exact Zab (by dsimp only;omega) rfl,rfl⟩
  have j1:decide ((n1:Int)<128)=false:=by simp;omega
  by_cases g1:191<n1
  ·skip;have HR:Hid (nxt s k=(0,0)):=by show _=_;rw[hN,nx2 (by omega),if_pos (by omega)]
   have h1:191<(n1:Int):=by omega
   clear hN e0 e1 e2 e3 c1 c0 cc;go_enter Tryz.func141,Tryz.ntmps141;go_wp2_with fail;refine wp_loop_rounds 5 ?_;rw[rounds_succ];go_wp2;go_ret2;exact⟨by rw[HR.out];exact Zab (by dsimp only;omega) rfl,rfl⟩
  have h1:decide (191<(n1:Int))=false:=by simp;omega
  have HR:Hid (nxt s k=((n0-192)*64+(n1-128),2)):=by show _=_;rw[hN,nx2 (by omega),if_neg (by omega)]
  clear hN e0 e1 e2 e3 c1 c0 cc;go_enter Tryz.func141,Tryz.ntmps141;go_wp2_with fail;refine wp_loop_rounds 5 ?_;rw[rounds_succ];go_wp2_with fail;rw[rounds_succ];go_wp2;go_ret2;exact⟨by rw[HR.out];exact Zab (by dsimp only;omega) rfl,rfl⟩
 have i3:decide ((n0:Int)≤223)=false:=by simp;omega
 have i4:224≤(n0:Int):=by omega
 by_cases c3:n0≤239
 ·have i5:(n0:Int)≤239:=by omega
  by_cases cs:s.size<k+3
  ·skip;have HR:Hid (nxt s k=(0,0)):=by show _=_;rw[hN,nx3 (by omega),if_pos (by omega)]
   have i9:(s.size:Int)<(k:Int)+3:=by omega
   clear hN e0 e1 e2 e3 c1 c0 cc;go_enter Tryz.func141,Tryz.ntmps141;go_wp2;go_ret2;exact⟨by rw[HR.out];exact Zab (by dsimp only;omega) rfl,rfl⟩
  have i9:decide ((s.size:Int)<(k:Int)+3)=false:=by simp;omega
  have hx1:=Zal s (k+1) (by omega) ((k:Int)+1) (by omega);rw[e1]at hx1;have hx2:=Zal s (k+2) (by omega) ((k:Int)+2) (by omega);rw[e2]at hx2;by_cases d1:n1<128
  ·skip;have HR:Hid (nxt s k=(0,0)):=by show _=_;rw[hN,nx3 (by omega),if_pos (by omega)]
   have j1:(n1:Int)<128:=by omega
   clear hN e0 e1 e2 e3 c1 c0 cc;go_enter Tryz.func141,Tryz.ntmps141;go_wp2_with fail;refine wp_loop_rounds 5 ?_;rw[rounds_succ];go_wp2;go_ret2;exact⟨by rw[HR.out];exact Zab (by dsimp only;omega) rfl,rfl⟩
  have j1:decide ((n1:Int)<128)=false:=by simp;omega
  by_cases g1:191<n1
  ·skip;have HR:Hid (nxt s k=(0,0)):=by show _=_;rw[hN,nx3 (by omega),if_pos (by omega)]
   have h1:191<(n1:Int):=by omega
   clear hN e0 e1 e2 e3 c1 c0 cc;go_enter Tryz.func141,Tryz.ntmps141;go_wp2_with fail;refine wp_loop_rounds 5 ?_;rw[rounds_succ];go_wp2;go_ret2;exact⟨by rw[HR.out];exact Zab (by dsimp only;omega) rfl,rfl⟩
  have h1:decide (191<(n1:Int))=false:=by simp;omega
  by_cases d2:n2<128
  ·skip;have HR:Hid (nxt s k=(0,0)):=by show _=_;rw[hN,nx3 (by omega),if_pos (by omega)]
   have j2:(n2:Int)<128:=by omega
   clear hN e0 e1 e2 e3 c1 c0 cc;go_enter Tryz.func141,Tryz.ntmps141;go_wp2_with fail;refine wp_loop_rounds 5 ?_;rw[rounds_succ];go_wp2_with fail;rw[rounds_succ];go_wp2;go_ret2;exact⟨by rw[HR.out];exact Zab (by dsimp only;omega) rfl,rfl⟩
  have j2:decide ((n2:Int)<128)=false:=by simp;omega
  by_cases g2:191<n2
  ·skip;have HR:Hid (nxt s k=(0,0)):=by show _=_;rw[hN,nx3 (by omega),if_pos (by omega)]
   have h2:191<(n2:Int):=by omega
   clear hN e0 e1 e2 e3 c1 c0 cc;go_enter Tryz.func141,Tryz.ntmps141;go_wp2_with fail;refine wp_loop_rounds 5 ?_;rw[rounds_succ];go_wp2_with fail;rw[rounds_succ];go_wp2;go_ret2;exact⟨by rw[HR.out];exact Zab (by dsimp only;omega) rfl,rfl⟩
  have h2:decide (191<(n2:Int))=false:=by simp;omega
  by_cases r1:64*(64*((n0:Int)-224)+(n1:Int)-128)+(n2:Int)-128<2048
  ·skip;have HR:Hid (nxt s k=(0,0)):=by show _=_;rw[hN,nx3 (by omega),if_pos (by omega)]
   clear hN e0 e1 e2 e3 c1 c0 cc;go_enter Tryz.func141,Tryz.ntmps141;go_wp2_with fail;refine wp_loop_rounds 5 ?_;rw[rounds_succ];go_wp2_with fail;rw[rounds_succ];go_wp2_with fail;rw[rounds_succ];go_wp2;go_ret2;exact⟨by rw[HR.out];exact Zab (by dsimp only;omega) rfl,rfl⟩
  have r1d:decide (64*(64*((n0:Int)-224)+(n1:Int)-128)+(n2:Int)-128<2048)=false:=by simp;omega
  rcases Bool.eq_false_or_eq_true (win (64*(64*((n0:Int)-224)+(n1:Int)-128)+(n2:Int)-128) 55296 57343)with r2|r2
  ·have r3:55296≤64*(64*((n0:Int)-224)+(n1:Int)-128)+(n2:Int)-128∧64*(64*((n0:Int)-224)+(n1:Int)-128)+(n2:Int)-128≤57343:=Znt r2;have HR:Hid (nxt s k=(0,0)):=by show _=_;rw[hN,nx3 (by omega),if_pos (by omega)]
   clear r3;clear hN e0 e1 e2 e3 c1 c0 cc;go_enter Tryz.func141,Tryz.ntmps141;go_wp2_with fail;refine wp_loop_rounds 5 ?_;rw[rounds_succ];go_wp2_with fail;rw[rounds_succ];go_wp2_with fail;rw[rounds_succ];go_wp2_with (go_at_call 193;refine(Zaw _ _ _ _).mono ?_;rintro e w' ⟨rfl,rfl⟩);go_ret2;exact⟨by rw[HR.out];exact Zab (by dsimp only;omega) rfl,rfl⟩
  have r3:¬(55296≤64*(64*((n0:Int)-224)+(n1:Int)-128)+(n2:Int)-128∧64*(64*((n0:Int)-224)+(n1:Int)-128)+(n2:Int)-128≤57343):=ZoI r2;have HR:Hid (nxt s k=((n0-224)*4096+(n1-128)*64+(n2-128),3)):=by show _=_;rw[hN,nx3 (by omega),if_neg (by omega)]
  clear r3;clear hN e0 e1 e2 e3 c1 c0 cc;go_enter Tryz.func141,Tryz.ntmps141;go_wp2_with fail;refine wp_loop_rounds 5 ?_;rw[rounds_succ];go_wp2_with fail;rw[rounds_succ];go_wp2_with fail;rw[rounds_succ];go_wp2_with (go_at_call 193;refine(Zaw _ _ _ _).mono ?_;rintro e w' ⟨rfl,rfl⟩);go_ret2;exact⟨by rw[HR.out];exact Zab (by dsimp only;omega) rfl,rfl⟩
 have i5:decide ((n0:Int)≤239)=false:=by simp;omega
 have i6:240≤(n0:Int):=by omega
 have i7:(n0:Int)≤244:=by omega
 by_cases cs:s.size<k+4
 ·skip;have HR:Hid (nxt s k=(0,0)):=by show _=_;rw[hN,nx4 (by omega),if_pos (by omega)]
  have i9:(s.size:Int)<(k:Int)+4:=by omega
  clear hN e0 e1 e2 e3 c1 c0 cc;go_enter Tryz.func141,Tryz.ntmps141;go_wp2;go_ret2;exact⟨by rw[HR.out];exact Zab (by dsimp only;omega) rfl,rfl⟩
 have i9:decide ((s.size:Int)<(k:Int)+4)=false:=by simp;omega
 have hx1:=Zal s (k+1) (by omega) ((k:Int)+1) (by omega);rw[e1]at hx1;have hx2:=Zal s (k+2) (by omega) ((k:Int)+2) (by omega);rw[e2]at hx2;have hx3:=Zal s (k+3) (by omega) ((k:Int)+3) (by omega);rw[e3]at hx3;by_cases d1:n1<128
 ·skip;have HR:Hid (nxt s k=(0,0)):=by show _=_;rw[hN,nx4 (by omega),if_pos (by omega)]
  have j1:(n1:Int)<128:=by omega
  clear hN e0 e1 e2 e3 c1 c0 cc;go_enter Tryz.func141,Tryz.ntmps141;go_wp2_with fail;refine wp_loop_rounds 5 ?_;rw[rounds_succ];go_wp2;go_ret2;exact⟨by rw[HR.out];exact Zab (by dsimp only;omega) rfl,rfl⟩
 have j1:decide ((n1:Int)<128)=false:=by simp;omega
 by_cases g1:191<n1
 ·skip;have HR:Hid (nxt s k=(0,0)):=by show _=_;rw[hN,nx4 (by omega),if_pos (by omega)]
  have h1:191<(n1:Int):=by omega
  clear hN e0 e1 e2 e3 c1 c0 cc;go_enter Tryz.func141,Tryz.ntmps141;go_wp2_with fail;refine wp_loop_rounds 5 ?_;rw[rounds_succ];go_wp2;go_ret2;exact⟨by rw[HR.out];exact Zab (by dsimp only;omega) rfl,rfl⟩
 have h1:decide (191<(n1:Int))=false:=by simp;omega
 by_cases d2:n2<128
 ·skip;have HR:Hid (nxt s k=(0,0)):=by show _=_;rw[hN,nx4 (by omega),if_pos (by omega)]
  have j2:(n2:Int)<128:=by omega
  clear hN e0 e1 e2 e3 c1 c0 cc;go_enter Tryz.func141,Tryz.ntmps141;go_wp2_with fail;refine wp_loop_rounds 5 ?_;rw[rounds_succ];go_wp2_with fail;rw[rounds_succ];go_wp2;go_ret2;exact⟨by rw[HR.out];exact Zab (by dsimp only;omega) rfl,rfl⟩
 have j2:decide ((n2:Int)<128)=false:=by simp;omega
 by_cases g2:191<n2
 ·skip;have HR:Hid (nxt s k=(0,0)):=by show _=_;rw[hN,nx4 (by omega),if_pos (by omega)]
  have h2:191<(n2:Int):=by omega
  clear hN e0 e1 e2 e3 c1 c0 cc;go_enter Tryz.func141,Tryz.ntmps141;go_wp2_with fail;refine wp_loop_rounds 5 ?_;rw[rounds_succ];go_wp2_with fail;rw[rounds_succ];go_wp2;go_ret2;exact⟨by rw[HR.out];exact Zab (by dsimp only;omega) rfl,rfl⟩
 have h2:decide (191<(n2:Int))=false:=by simp;omega
 by_cases d3:n3<128
 ·skip;have HR:Hid (nxt s k=(0,0)):=by show _=_;rw[hN,nx4 (by omega),if_pos (by omega)]
  have j3:(n3:Int)<128:=by omega
  clear hN e0 e1 e2 e3 c1 c0 cc;go_enter Tryz.func141,Tryz.ntmps141;go_wp2_with fail;refine wp_loop_rounds 5 ?_;rw[rounds_succ];go_wp2_with fail;rw[rounds_succ];go_wp2_with fail;rw[rounds_succ];go_wp2;go_ret2;exact⟨by rw[HR.out];exact Zab (by dsimp only;omega) rfl,rfl⟩
 have j3:decide ((n3:Int)<128)=false:=by simp;omega
 by_cases g3:191<n3
 ·skip;have HR:Hid (nxt s k=(0,0)):=by show _=_;rw[hN,nx4 (by omega),if_pos (by omega)]
  have h3:191<(n3:Int):=by omega
  clear hN e0 e1 e2 e3 c1 c0 cc;go_enter Tryz.func141,Tryz.ntmps141;go_wp2_with fail;refine wp_loop_rounds 5 ?_;rw[rounds_succ];go_wp2_with fail;rw[rounds_succ];go_wp2_with fail;rw[rounds_succ];go_wp2;go_ret2;exact⟨by rw[HR.out];exact Zab (by dsimp only;omega) rfl,rfl⟩
 have h3:decide (191<(n3:Int))=false:=by simp;omega
 by_cases r1:64*(64*(64*((n0:Int)-240)+(n1:Int)-128)+(n2:Int)-128)+(n3:Int)-128<65536
 ·skip;have HR:Hid (nxt s k=(0,0)):=by show _=_;rw[hN,nx4 (by omega),if_pos (by omega)]
  clear hN e0 e1 e2 e3 c1 c0 cc;go_enter Tryz.func141,Tryz.ntmps141;go_wp2_with fail;refine wp_loop_rounds 5 ?_;rw[rounds_succ];go_wp2_with fail;rw[rounds_succ];go_wp2_with fail;rw[rounds_succ];go_wp2_with fail;rw[rounds_succ];go_wp2;go_ret2;exact⟨by rw[HR.out];exact Zab (by dsimp only;omega) rfl,rfl⟩
 have r1d:decide (64*(64*(64*((n0:Int)-240)+(n1:Int)-128)+(n2:Int)-128)+(n3:Int)-128<65536)=false:=by simp;omega
 by_cases r2:1114111<64*(64*(64*((n0:Int)-240)+(n1:Int)-128)+(n2:Int)-128)+(n3:Int)-128
 ·skip;have HR:Hid (nxt s k=(0,0)):=by show _=_;rw[hN,nx4 (by omega),if_pos (by omega)]
  clear hN e0 e1 e2 e3 c1 c0 cc;go_enter Tryz.func141,Tryz.ntmps141;go_wp2_with fail;refine wp_loop_rounds 5 ?_;rw[rounds_succ];go_wp2_with fail;rw[rounds_succ];go_wp2_with fail;rw[rounds_succ];go_wp2_with fail;rw[rounds_succ];go_wp2;go_ret2;exact⟨by rw[HR.out];exact Zab (by dsimp only;omega) rfl,rfl⟩
 have r2d:decide (1114111<64*(64*(64*((n0:Int)-240)+(n1:Int)-128)+(n2:Int)-128)+(n3:Int)-128)=false:=by simp;omega
 have HR:Hid (nxt s k=((n0-240)*262144+(n1-128)*4096+(n2-128)*64+(n3-128),4)):=by show _=_;rw[hN,nx4 (by omega),if_neg (by omega)]
 clear hN e0 e1 e2 e3 c1 c0 cc;go_enter Tryz.func141,Tryz.ntmps141;go_wp2_with fail;refine wp_loop_rounds 5 ?_;rw[rounds_succ];go_wp2_with fail;rw[rounds_succ];go_wp2_with fail;rw[rounds_succ];go_wp2_with fail;rw[rounds_succ];go_wp2;go_ret2;exact⟨by rw[HR.out];exact Zab (by dsimp only;omega) rfl,rfl⟩
end Go.Proofs.YtnnfhojhbbcbmaaGreatDoor
