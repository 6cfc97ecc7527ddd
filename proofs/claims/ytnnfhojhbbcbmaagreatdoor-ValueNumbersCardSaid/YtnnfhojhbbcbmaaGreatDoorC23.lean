/- The reference: Compare at the six signs. Two rows of items that are right; what Less answers; holds and Compare at what is no sign. The reference: Compare at what is no sign; both Compares at any sign. value.Less at any rows of items. The reference: Less at any rows of items. -/
import Derived.Test.YtnnfhojhbbcbmaaGreatDoorC22
import Derived.Test.YtnnfhojhbbcbmaaGreatDoorC14
import Derived.Test.YtnnfhojhbbcbmaaGreatDoorC21
namespace Go.Proofs.YtnnfhojhbbcbmaaGreatDoor
open Go.RowKit
set_option maxRecDepth 100000 in
set_option maxHeartbeats 8000000 in
theorem ZaB {op:ByteArray}(hop:op=⟨#[61]⟩∨op=⟨#[33,61]⟩∨op=⟨#[60]⟩∨op=⟨#[60,61]⟩∨op=⟨#[62]⟩∨op=⟨#[62,61]⟩)(hf:Int→Bool)(pa pb:Option Addr)(na nb ca cb:Nat)(la lb:List It)(w:World)(hh:Zgy op hf)(ha:OkA w ⟨pa,la,ca⟩)(hb:OkA w ⟨pb,lb,cb⟩)(hna:na=la.length)(hnb:nb=lb.length):
  Calls Tryz.prog 21 #[.string op,.slice pa na ca,.slice pb nb cb] w fun e w'=>e= .returned (.tuple #[.bool (ZbN hf ⟨pa,la,ca⟩ ⟨pb,lb,cb⟩).1,.int .i64 (ZbN hf ⟨pa,la,ca⟩ ⟨pb,lb,cb⟩).2])∧Below w.heap.size w w':=by
 have Hh:=Za hh;have Hr1:=Za (Zt pa na ca la w ha hna);have Hr2:Hid (∀W,Below w.heap.size w W→Calls Tryz.prog 61 #[.slice pb nb cb] W fun e w'=>e= .returned (.bool (lb.all okI))∧Below W.heap.size W w'):=fun W hW=>Zt pb nb cb lb W ⟨hb.1.keep hW,hb.2⟩ hnb;have Ha:=Za ha;have Hb:=Za hb;have Hna:=Za hna;have Hnb:=Za hnb;have hna2:na<9223372036854775807:=by rw[hna];exact ha.2.2
 have hnb2:nb<9223372036854775807:=by rw[hnb];exact hb.2.2
 have Hcmp:Hid (ZbN hf ⟨pa,la,ca⟩ ⟨pb,lb,cb⟩=if (la.all okI&&lb.all okI)=true then Zdt hf lb la else(false,2)):=by show _=_;unfold ZbN;simp[rightL]
 clear hh ha hb hna hnb;rcases hop with rfl|rfl|rfl|rfl|rfl|rfl
 all_goals
 ·skip;rcases Bool.eq_false_or_eq_true (la.all okI)with hqa|hqa
  ·rw[hqa]at Hr1;rcases Bool.eq_false_or_eq_true (lb.all okI)with hqb|hqb
   ·rw[hqb]at Hr2;have Hc:Hid (ZbN hf ⟨pa,la,ca⟩ ⟨pb,lb,cb⟩=Zdt hf lb la):=by show _=_;rw[Hcmp.out,hqa,hqb];rfl
    clear hqa hqb Hcmp;go_enter Tryz.func21,Tryz.ntmps21;go_wp2_with fail;refine Hr1.out.mono ?_;rintro e w0 ⟨rfl,hb0⟩;go_wp2_with fail;refine(Hr2.out w0 hb0).mono ?_;rintro e w1 ⟨rfl,hbb⟩;have hB1:=Zb hb0 hbb;clear hbb hb0;go_wp2_with fail;go_loopw[8] (fun i W=>∃k:Nat,k≤na∧i= .int .i64 k∧Hid (Zdt hf lb (la.drop k)=Zdt hf lb la)∧Below w.heap.size w W) (fun i _=>na-(intOf i).toNat)
    case atStart=>exact⟨0,Nat.zero_le _,rfl,Za rfl,hB1⟩
    case round=>
     clear hB1;obtain⟨k,hk,rfl,Hk,hB⟩:=hrel;by_cases hlt:k<na
     ·have hI:(k:Int)<(na:Int):=by omega
      obtain⟨x,hx⟩:∃x,la[k]? =some x:=⟨_,List.getElem?_eq_getElem (by have:=Hna.out;omega)⟩;have hs1:=Ha.out.2.1 x (List.mem_of_getElem? hx);have Hst:=Za (ZbU la k x hx);have Hx:=Za hx;obtain⟨b1,off1,hp1,_⟩:=Ha.out.1.at k x hx;dsimp only at hp1;subst hp1;have hix:=Zr b1 off1 na ca k hlt;clear hx;obtain⟨k1,a1,t1,d1⟩:=x;dsimp only at hs1;go_wp2_with fail;go_loopw[9] (fun i W=>∃j:Nat,j≤nb∧i= .int .i64 j∧Hid (cIn hf ⟨k1,a1,t1,d1⟩ (lb.drop j)=cIn hf ⟨k1,a1,t1,d1⟩ lb)∧Below w.heap.size w W) (fun i _=>nb-(intOf i).toNat)
      case atStart=>exact⟨0,Nat.zero_le _,rfl,Za rfl,hB⟩
      case round=>
       clear hB;obtain⟨j,hj,rfl,Hj,hB3⟩:=hrel;by_cases hlj:j<nb
       ·have hI2:(j:Int)<(nb:Int):=by omega
        obtain⟨y,hy⟩:∃y,lb[j]? =some y:=⟨_,List.getElem?_eq_getElem (by have:=Hnb.out;omega)⟩;obtain⟨b2,off2,e2,q0,q1,q2,q3⟩:=(Hb.out.1.keep hB3).at j y hy;dsimp only at e2;subst e2;obtain⟨b3,off3,e3,c0,c1,c2,c3⟩:=(Ha.out.1.keep hB3).at k _ Hx.out;injection e3 with e3;injection e3 with e3 e4;subst e3 e4;have hs2:=Hb.out.2.1 y (List.mem_of_getElem? hy);have hix2:=Zr b2 off2 nb cb j hlj;have Hsj:=Za (ZbU lb j y hy);clear hy;obtain⟨k2,a2,t2,d2⟩:=y;dsimp only at c0 c1 c2 c3 q0 q1 q2 q3 hs2;have l0:=Zo c0;have l1:=Zo c1;have l2:=Zo c2;have l3:=Zo c3;have r0:=Zo q0;have r1:=Zo q1;have r2:=Zo q2;have r3:=Zo q3;clear c0 c1 c2 c3 q0 q1 q2 q3;go_wp2_with fail;refine ZH (by kernel_rfl) (by kernel_rfl) ?_
        repeat (go_big_quiet_step ((go_at_call 62;exact Zb6 (Zfg k1 k2 a1 a2 d1 d2 t1 t2 _ hs1 hs2))))
        refine wpQuiet_nil ?_;intro _ hw';obtain⟨y,hw''⟩:=hw';subst hw'';have hB5:=Zb hB3 y.2;clear l0 l1 l2 l3 r0 r1 r2 r3 hix2;by_cases hE:oE ⟨k1,a1,t1,d1⟩ ⟨k2,a2,t2,d2⟩=0
        ·rw[hE];go_wp2_with fail;refine(Hh.out _ _).mono ?_;rintro e wx ⟨rfl,rfl⟩;rcases Bool.eq_false_or_eq_true (hf (oV ⟨k1,a1,t1,d1⟩ ⟨k2,a2,t2,d2⟩))with hv|hv
         ·have HR:Hid (ZbN hf ⟨some ⟨b1,off1,none⟩,la,ca⟩ ⟨some ⟨b2,off2,none⟩,lb,cb⟩=(true,0)):=by
           show _=_;rw[Hc.out,←Hk.out,Hst.out];refine ZcY ?_;rw[←Hj.out,Hsj.out];exact Zkj hE hv
          rw[hv];clear Hc Hk Hst Hj Hsj hE hv;go_wp2;go_ret2;exact⟨by rw[HR.out];rfl,hB5⟩
         ·have Hj2:Hid (cIn hf ⟨k1,a1,t1,d1⟩ (lb.drop (j+1))=cIn hf ⟨k1,a1,t1,d1⟩ lb):=by
           show _=_;rw[←Hj.out,Hsj.out];exact(ZmX hE hv).symm
          rw[hv];clear Hc Hk Hst Hj Hsj hE hv;go_wp2;go_roundw
          case rel=>exact⟨j+1,by omega,by simp,Hj2,hB5⟩
          case measure=>simp[intOf];omega
        ·have hE2:(oE ⟨k1,a1,t1,d1⟩ ⟨k2,a2,t2,d2⟩ != 0)=true:=by simpa using hE
         have HR:Hid (ZbN hf ⟨some ⟨b1,off1,none⟩,la,ca⟩ ⟨some ⟨b2,off2,none⟩,lb,cb⟩=(false,oE ⟨k1,a1,t1,d1⟩ ⟨k2,a2,t2,d2⟩)):=by show _=_;rw[Hc.out,←Hk.out,Hst.out];refine ZcY ?_;rw[←Hj.out,Hsj.out];exact Zki hE
         clear Hc Hk Hst Hj Hsj hE;go_wp2;go_ret2;exact⟨by rw[HR.out];rfl,hB5⟩
       ·have hI2:¬(j:Int)<(nb:Int):=by omega
        have Hk2:Hid (Zdt hf lb (la.drop (k+1))=Zdt hf lb la):=by show _=_;rw[←Hk.out,Hst.out];refine(ZgX ?_).symm;rw[←Hj.out,List.drop_eq_nil_of_le (by have:=Hnb.out;omega)];rfl
        clear Hk Hst Hj;go_wp2;go_roundw
        case rel=>exact⟨k+1,by omega,by simp,Hk2,hB3⟩
        case measure=>simp[intOf];omega
     ·have hI:¬(k:Int)<(na:Int):=by omega
      have HR:Hid (ZbN hf ⟨pa,la,ca⟩ ⟨pb,lb,cb⟩=(false,0)):=by show _=_;rw[Hc.out,←Hk.out,List.drop_eq_nil_of_le (by have:=Hna.out;omega)];rfl
      clear Hc Hk;go_wp2;go_ret2;exact⟨by rw[HR.out];rfl,hB⟩
   ·rw[hqb]at Hr2;have HR:Hid (ZbN hf ⟨pa,la,ca⟩ ⟨pb,lb,cb⟩=(false,2)):=by show _=_;rw[Hcmp.out,hqb,Bool.and_false];rfl
    clear hqa hqb Hcmp;go_enter Tryz.func21,Tryz.ntmps21;go_wp2_with fail;refine Hr1.out.mono ?_;rintro e w0 ⟨rfl,hb0⟩;go_wp2_with fail;refine(Hr2.out w0 hb0).mono ?_;rintro e w1 ⟨rfl,hbb⟩;have hB1:=Zb hb0 hbb;clear hbb hb0;go_wp2;go_ret2;exact⟨by rw[HR.out];rfl,hB1⟩
  ·rw[hqa]at Hr1;have HR:Hid (ZbN hf ⟨pa,la,ca⟩ ⟨pb,lb,cb⟩=(false,2)):=by show _=_;rw[Hcmp.out,hqa,Bool.false_and];rfl
   clear hqa Hcmp;go_enter Tryz.func21,Tryz.ntmps21;go_wp2_with fail;refine Hr1.out.mono ?_;rintro e w0 ⟨rfl,hb0⟩;go_wp2;go_ret2;exact⟨by rw[HR.out];rfl,hb0⟩
end Go.Proofs.YtnnfhojhbbcbmaaGreatDoor
namespace Go.Proofs.YtnnfhojhbbcbmaaGreatDoor
set_option maxRecDepth 100000
set_option maxHeartbeats 4000000
open Go.RowKit
theorem Zmm(p q:Option Addr)(n m c d:Nat)(A B:List It)(w:World)(ht8:Tabs8 w)(ha:OkA w ⟨p,A,c⟩)(hb:OkA w ⟨q,B,d⟩)(hn:n=A.length)(hm:m=B.length):
  Calls Tryz.prog 44 #[.slice (some ⟨w.heap.size,0,none⟩) 2 2] (w.alloc (.cells #[.slice p n c,.slice q m d] 28)) fun e w'=>e= .returned (.bool (A.all okI&&B.all okI))∧Below w.heap.size w w':=by
 subst hn hm;have hb0:Below w.heap.size w (w.alloc (.cells #[.slice p A.length c,.slice q B.length d] 28)):=(Below.refl _ _).alloc (Nat.le_refl _) _;have hrd:Rd (w.alloc (.cells #[.slice p A.length c,.slice q B.length d] 28)) (some ⟨w.heap.size,0,none⟩) (([⟨p,A,c⟩,⟨q,B,d⟩]:List Lst).map Lst.v):=Rd.new w 28 [.slice p A.length c,.slice q B.length d];refine(Z7 (some ⟨w.heap.size,0,none⟩) 2 2 [⟨p,A,c⟩,⟨q,B,d⟩] _ (ht8.keep hb0) rfl (by decide) hrd ?_).mono ?_
 ·intro x hx;simp only[List.mem_cons,List.not_mem_nil,or_false]at hx;rcases hx with rfl|rfl
  ·exact⟨ha.1.keep hb0,ha.2⟩
  ·exact⟨hb.1.keep hb0,hb.2⟩
 ·rintro e w' ⟨rfl,hb⟩;refine⟨by simp[rightL],Zb hb0 hb⟩
def lessV(A B:List It):Bool×Int:=
 if (A.all okI&&B.all okI)=true then
  match A,B with
  | [x],[y]=>(decide (oV x y<0),oE x y)
  | [],[]=>(false,0)
  | [],[_]=>(true,0)
  | [_],[]=>(false,0)
  |_,_=>(false,253)
 else(false,2)
theorem Zcm {A B:List It}(h:(A.all okI&&B.all okI)=true)(h2:1<A.length∨1<B.length):lessV A B=(false,253):=by
 unfold lessV;rw[if_pos h]
 match A,B,h2 with
 | [],[],h2=>simp at h2
 | [],[_],h2=>simp at h2
 | [_],[],h2=>simp at h2
 | [_],[_],h2=>simp at h2
 | [],_::_::_,_=>rfl
 | [_],_::_::_,_=>rfl
 |_::_::_,[],_=>rfl
 |_::_::_,_::_,_=>rfl
theorem ZcZ {A B:List It}(h:(A.all okI&&B.all okI)=true)(h1:A.length≤1)(h2:B.length≤1)(h3:A.length=0∨B.length=0):lessV A B=(decide (A.length<B.length),0):=by
 unfold lessV;rw[if_pos h]
 match A,B,h1,h2,h3 with
 | [],[],_,_,_=>rfl
 | [],[_],_,_,_=>rfl
 | [_],[],_,_,_=>rfl
 | [_],[_],_,_,h=>simp at h
 | [],_::_::_,_,h,_=>simp at h
 | [_],_::_::_,_,h,_=>simp at h
 |_::_::_,_,h,_,_=>simp at h
theorem ZgZ {x y:It}(h:([x].all okI&& [y].all okI)=true):lessV [x] [y]=(decide (oV x y<0),oE x y):=by unfold lessV;rw[if_pos h]
structure NoSign (op:ByteArray):Prop where
 e1:(op.toList== [61])=false
 e2:(op.toList== [33,61])=false
 e3:(op.toList== [60])=false
 e4:(op.toList== [60,61])=false
 e5:(op.toList== [62])=false
 e6:(op.toList== [62,61])=false
theorem Zic {op:ByteArray}(h:NoSign op)(n:Int)(w:World):Calls Tryz.prog 59 #[.string op,.int .i64 n] w fun e w'=>e= .returned (.tuple #[.bool false,.bool false])∧w=w':=by obtain⟨h1,h2,h3,h4,h5,h6⟩:=h;go_enter Tryz.func59,Tryz.ntmps59;go_wp2;go_ret2;exact⟨rfl,rfl⟩
theorem Zf3 {op:ByteArray}(h:NoSign op)(a b:Value)(w:World):
  Calls Tryz.prog 20 #[.string op,a,b] w fun e w'=>e= .returned (.tuple #[.bool false,.int .i64 2])∧Below w.heap.size w w':=by
 have H:=Za h;clear h;go_enter Tryz.func20,Tryz.ntmps20;go_wp2_with fail;refine(Zic H.out 0 _).mono ?_;rintro e wx ⟨rfl,rfl⟩;go_wp2;go_ret2;exact⟨rfl,Below.refl _ _⟩
end Go.Proofs.YtnnfhojhbbcbmaaGreatDoor
namespace Go.Proofs.YtnnfhojhbbcbmaaGreatDoor
open Go.RowKit
set_option maxRecDepth 100000 in
set_option maxHeartbeats 4000000 in
theorem ZeG {op:ByteArray}(h:NoSign op)(pa pb:Option Addr)(na nb ca cb:Nat)(la lb:List It)(w:World)(ha:OkA w ⟨pa,la,ca⟩)(hb:OkA w ⟨pb,lb,cb⟩)(hna:na=la.length)(hnb:nb=lb.length):
  Calls Tryz.prog 21 #[.string op,.slice pa na ca,.slice pb nb cb] w fun e w'=>e= .returned (.tuple #[.bool false,.int .i64 2])∧Below w.heap.size w w':=by
 have Hr1:=Za (Zt pa na ca la w ha hna);have Hr2:Hid (∀W,Below w.heap.size w W→Calls Tryz.prog 61 #[.slice pb nb cb] W fun e w'=>e= .returned (.bool (lb.all okI))∧Below W.heap.size W w'):=fun W hW=>Zt pb nb cb lb W ⟨hb.1.keep hW,hb.2⟩ hnb;obtain⟨h1,h2,h3,h4,h5,h6⟩:=h;clear ha hb hna hnb;generalize la.all okI=qa at*;generalize lb.all okI=qb at*;cases qa with
 |true=>
  cases qb with
  |true=>
   go_enter Tryz.func21,Tryz.ntmps21;go_wp2_with fail;refine Hr1.out.mono ?_;rintro e w0 ⟨rfl,hb0⟩;go_wp2_with fail;refine(Hr2.out w0 hb0).mono ?_;rintro e w1 ⟨rfl,hbb⟩;have hB1:=Zb hb0 hbb;clear hbb hb0;go_wp2;go_ret2;exact⟨rfl,hB1⟩
  |false=>
   go_enter Tryz.func21,Tryz.ntmps21;go_wp2_with fail;refine Hr1.out.mono ?_;rintro e w0 ⟨rfl,hb0⟩;go_wp2_with fail;refine(Hr2.out w0 hb0).mono ?_;rintro e w1 ⟨rfl,hbb⟩;have hB1:=Zb hb0 hbb;clear hbb hb0;go_wp2;go_ret2;exact⟨rfl,hB1⟩
 |false=>
  go_enter Tryz.func21,Tryz.ntmps21;go_wp2_with fail;refine Hr1.out.mono ?_;rintro e w0 ⟨rfl,hb0⟩;go_wp2;go_ret2;exact⟨rfl,hb0⟩
theorem ZhX {op:ByteArray}{l:List UInt8}(h:(op.toList==l)=true):op=⟨l.toArray⟩:=by
 have e:op.toList=l:=by simpa using h
 rw[ByteArray.toList_eq]at e;apply ByteArray.ext;apply Array.toList_inj.1;simpa using e
theorem Zmn(op:ByteArray):∃v:List It→List It→Bool×Int,
  (∀(pa pb:Option Addr) (na nb ca cb:Nat) (la lb:List It) (w:World),Env w→OkA w ⟨pa,la,ca⟩→OkA w ⟨pb,lb,cb⟩→na=la.length→nb=lb.length→
   Calls Tryz.prog 20 #[.string op,.slice pa na ca,.slice pb nb cb] w fun e w'=>e= .returned (.tuple #[.bool (v la lb).1,.int .i64 (v la lb).2])∧Below w.heap.size w w')∧
  (∀(pa pb:Option Addr) (na nb ca cb:Nat) (la lb:List It) (w:World),OkA w ⟨pa,la,ca⟩→OkA w ⟨pb,lb,cb⟩→na=la.length→nb=lb.length→
   Calls Tryz.prog 21 #[.string op,.slice pa na ca,.slice pb nb cb] w fun e w'=>e= .returned (.tuple #[.bool (v la lb).1,.int .i64 (v la lb).2])∧Below w.heap.size w w'):=by
 rcases Bool.eq_false_or_eq_true (op.toList== [61])with h1|h1
 ·obtain rfl:=ZhX h1;exact⟨fun la lb=>ZbN (fun n=>n==0) ⟨none,la,0⟩ ⟨none,lb,0⟩,fun pa pb na nb ca cb la lb w he ha hb hna hnb=>Zat _ _ pa pb na nb ca cb la lb w he sEq ha hb hna hnb,fun pa pb na nb ca cb la lb w ha hb hna hnb=>ZaB (.inl rfl) _ pa pb na nb ca cb la lb w rsEq ha hb hna hnb⟩
 rcases Bool.eq_false_or_eq_true (op.toList== [33,61])with h2|h2
 ·obtain rfl:=ZhX h2;exact⟨fun la lb=>ZbN (fun n=>n != 0) ⟨none,la,0⟩ ⟨none,lb,0⟩,fun pa pb na nb ca cb la lb w he ha hb hna hnb=>Zat _ _ pa pb na nb ca cb la lb w he sNe ha hb hna hnb,fun pa pb na nb ca cb la lb w ha hb hna hnb=>ZaB (.inr (.inl rfl)) _ pa pb na nb ca cb la lb w rsNe ha hb hna hnb⟩
 rcases Bool.eq_false_or_eq_true (op.toList== [60])with h3|h3
 ·obtain rfl:=ZhX h3;exact⟨fun la lb=>ZbN (fun n=>decide (n<0)) ⟨none,la,0⟩ ⟨none,lb,0⟩,fun pa pb na nb ca cb la lb w he ha hb hna hnb=>Zat _ _ pa pb na nb ca cb la lb w he sLt ha hb hna hnb,fun pa pb na nb ca cb la lb w ha hb hna hnb=>ZaB (.inr (.inr (.inl rfl))) _ pa pb na nb ca cb la lb w rsLt ha hb hna hnb⟩
 rcases Bool.eq_false_or_eq_true (op.toList== [60,61])with h4|h4
 ·obtain rfl:=ZhX h4;exact⟨fun la lb=>ZbN (fun n=>decide (n≤0)) ⟨none,la,0⟩ ⟨none,lb,0⟩,fun pa pb na nb ca cb la lb w he ha hb hna hnb=>Zat _ _ pa pb na nb ca cb la lb w he sLe ha hb hna hnb,fun pa pb na nb ca cb la lb w ha hb hna hnb=>ZaB (.inr (.inr (.inr (.inl rfl)))) _ pa pb na nb ca cb la lb w rsLe ha hb hna hnb⟩
 rcases Bool.eq_false_or_eq_true (op.toList== [62])with h5|h5
 ·obtain rfl:=ZhX h5;exact⟨fun la lb=>ZbN (fun n=>decide (0<n)) ⟨none,la,0⟩ ⟨none,lb,0⟩,fun pa pb na nb ca cb la lb w he ha hb hna hnb=>Zat _ _ pa pb na nb ca cb la lb w he sGt ha hb hna hnb,fun pa pb na nb ca cb la lb w ha hb hna hnb=>ZaB (.inr (.inr (.inr (.inr (.inl rfl))))) _ pa pb na nb ca cb la lb w rsGt ha hb hna hnb⟩
 rcases Bool.eq_false_or_eq_true (op.toList== [62,61])with h6|h6
 ·obtain rfl:=ZhX h6;exact⟨fun la lb=>ZbN (fun n=>decide (0≤n)) ⟨none,la,0⟩ ⟨none,lb,0⟩,fun pa pb na nb ca cb la lb w he ha hb hna hnb=>Zat _ _ pa pb na nb ca cb la lb w he sGe ha hb hna hnb,fun pa pb na nb ca cb la lb w ha hb hna hnb=>ZaB (.inr (.inr (.inr (.inr (.inr rfl))))) _ pa pb na nb ca cb la lb w rsGe ha hb hna hnb⟩
 exact⟨fun _ _=>(false,2),fun pa pb na nb ca cb la lb w he ha hb hna hnb=>Zf3 ⟨h1,h2,h3,h4,h5,h6⟩ _ _ w,fun pa pb na nb ca cb la lb w ha hb hna hnb=>ZeG ⟨h1,h2,h3,h4,h5,h6⟩ pa pb na nb ca cb la lb w ha hb hna hnb⟩
end Go.Proofs.YtnnfhojhbbcbmaaGreatDoor
namespace Go.Proofs.YtnnfhojhbbcbmaaGreatDoor
open Go.RowKit
set_option maxRecDepth 100000 in
set_option maxHeartbeats 4000000 in
theorem Zmo(p q:Option Addr)(n m c d:Nat)(A B:List It)(w:World)(he:Env w)(ha:OkA w ⟨p,A,c⟩)(hb:OkA w ⟨q,B,d⟩)(hn:n=A.length)(hm:m=B.length):
  Calls Tryz.prog 26 #[.slice p n c,.slice q m d] w fun e w'=>e= .returned (.tuple #[.bool (lessV A B).1,.int .i64 (lessV A B).2])∧Below w.heap.size w w':=by
 have Hr:=Za (Zmm p q n m c d A B w he.t8 ha hb hn hm);have Ha:=Za ha;have Hb:=Za hb;have He:=Za he;have hnl:n<9223372036854775807:=by rw[hn];exact ha.2.2
 have hml:m<9223372036854775807:=by rw[hm];exact hb.2.2
 clear ha hb he;rcases Bool.eq_false_or_eq_true (A.all okI&&B.all okI)with hq|hq
 ·rw[hq]at Hr;by_cases h1:1<n
  ·have HT:Hid (lessV A B=(false,253)):=Zcm hq (.inl (by omega));have h1i:(1:Int)<(n:Int):=by omega
   clear hq hn hm;go_enter Tryz.func26,Tryz.ntmps26;go_wp2_with fail;refine Hr.out.mono ?_;rintro e w1 ⟨rfl,hb1⟩;go_wp2;go_ret2;exact⟨by rw[HT.out];rfl,hb1⟩
  ·have h1i:¬(1:Int)<(n:Int):=by omega
   by_cases h2:1<m
   ·have HT:Hid (lessV A B=(false,253)):=Zcm hq (.inr (by omega));have h2i:(1:Int)<(m:Int):=by omega
    clear hq hn hm;go_enter Tryz.func26,Tryz.ntmps26;go_wp2_with fail;refine Hr.out.mono ?_;rintro e w1 ⟨rfl,hb1⟩;go_wp2;go_ret2;exact⟨by rw[HT.out];rfl,hb1⟩
   ·have h2i:¬(1:Int)<(m:Int):=by omega
    by_cases h3:n=0
    ·subst h3;have HT:Hid (lessV A B=(decide (0<m),0)):=by show _=_;rw[ZcZ hq (by omega) (by omega) (.inl (by omega))];congr 1;rw[Bool.eq_iff_iff,decide_eq_true_eq,decide_eq_true_eq];omega
     clear hq hn hm h1 h2 h1i;go_enter Tryz.func26,Tryz.ntmps26;go_wp2_with fail;refine Hr.out.mono ?_;rintro e w1 ⟨rfl,hb1⟩;go_wp2;go_ret2;exact⟨by rw[HT.out];rfl,hb1⟩
    ·have hn1:n=1:=by omega
     subst hn1;by_cases h4:m=0
     ·subst h4;have HT:Hid (lessV A B=(false,0)):=by show _=_;rw[ZcZ hq (by omega) (by omega) (.inr (by omega))];congr 1;rw[decide_eq_false_iff_not];omega
      clear hq hn hm h1 h2 h1i h2i h3;go_enter Tryz.func26,Tryz.ntmps26;go_wp2_with fail;refine Hr.out.mono ?_;rintro e w1 ⟨rfl,hb1⟩;go_wp2;go_ret2;exact⟨by rw[HT.out];rfl,hb1⟩
     ·have hm1:m=1:=by omega
      subst hm1;obtain⟨x,rfl⟩:∃x,A=[x]:=List.length_eq_one_iff.1 hn.symm;obtain⟨y,rfl⟩:∃y,B=[y]:=List.length_eq_one_iff.1 hm.symm;have HT:Hid (lessV [x] [y]=(decide (oV x y<0),oE x y)):=ZgZ hq;have Hs1:=Za (Ha.out.2.1 x (by simp));have Hs2:=Za (Hb.out.2.1 y (by simp));obtain⟨b,off,hp,_⟩:=at0 Ha.out.1;dsimp only at hp;subst hp;obtain⟨b2,off2,hp2,_⟩:=at0 Hb.out.1;dsimp only at hp2;subst hp2;have hix:=ZaP b off 1 c (by omega);have hix2:=ZaP b2 off2 1 d (by omega);obtain⟨k1,a1,t1,d1⟩:=x;obtain⟨k2,a2,t2,d2⟩:=y;clear hq hn hm h1 h2 h1i h2i h3 h4;go_enter Tryz.func26,Tryz.ntmps26;go_wp2_with fail;refine Hr.out.mono ?_;rintro e w1 ⟨rfl,hb1⟩;obtain⟨b3,off3,e3,c0,c1,c2,c3⟩:=at0 (Ha.out.1.keep hb1);injection e3 with e3;injection e3 with e3 e4;subst e3 e4;dsimp only at c0 c1 c2 c3;obtain⟨b3,off3,e3,q0,q1,q2,q3⟩:=at0 (Hb.out.1.keep hb1);injection e3 with e3;injection e3 with e3 e4;subst e3 e4;dsimp only at q0 q1 q2 q3;go_wp2_with fail;have l0:=Zo c0;have l1:=Zo c1;have l2:=Zo c2;have l3:=Zo c3;have r0:=Zo q0;have r1:=Zo q1;have r2:=Zo q2;have r3:=Zo q3;have HeL:Hid (∀x:ZeS w1,Env x.1):=fun x=>(He.out.keep hb1).keep x.2;clear c0 c1 c2 c3 q0 q1 q2 q3;refine ZH (by kernel_rfl) (by kernel_rfl) ?_
      repeat (go_big_quiet_step ((go_at_call 60;exact Zb6 (ZgW k1 k2 a1 a2 d1 d2 t1 t2 _ (HeL.out _) Hs1.out Hs2.out))))
      refine wpQuiet_nil ?_;intro _ hw';obtain⟨y,hw''⟩:=hw';subst hw'';have hB2:=Zb hb1 y.2;clear l0 l1 l2 l3 r0 r1 r2 r3 HeL;generalize oV ⟨k1,a1,t1,d1⟩ ⟨k2,a2,t2,d2⟩=ov at*;generalize oE ⟨k1,a1,t1,d1⟩ ⟨k2,a2,t2,d2⟩=oe at*;go_wp2;go_ret2;exact⟨by rw[HT.out];rfl,hB2⟩
 ·have HT:Hid (lessV A B=(false,2)):=by show _=_;unfold lessV;rw[if_neg (by rw[hq];decide)]
  rw[hq]at Hr;clear hq hn hm;go_enter Tryz.func26,Tryz.ntmps26;go_wp2_with fail;refine Hr.out.mono ?_;rintro e w1 ⟨rfl,hb1⟩;go_wp2;go_ret2;exact⟨by rw[HT.out];rfl,hb1⟩
end Go.Proofs.YtnnfhojhbbcbmaaGreatDoor
namespace Go.Proofs.YtnnfhojhbbcbmaaGreatDoor
open Go.RowKit
theorem ZnH {x y:It}(h:¬oE x y=0):oV x y=0:=by
 unfold oE at h;unfold oV;split at h
 ·rename_i h1;rw[if_pos h1]
 ·rename_i h1;rw[if_neg h1];split at h
  ·exact absurd rfl h
  ·rename_i h2;rw[if_neg h2];split at h
   ·exact absurd rfl h
   ·rename_i h3;rw[if_neg h3];split at h
    ·exact absurd rfl h
    ·rename_i h4;rw[if_neg h4]
set_option maxRecDepth 100000 in
set_option maxHeartbeats 4000000 in
theorem Zla(p q:Option Addr)(n m c d:Nat)(A B:List It)(w:World)(ha:OkA w ⟨p,A,c⟩)(hb:OkA w ⟨q,B,d⟩)(hn:n=A.length)(hm:m=B.length):
  Calls Tryz.prog 27 #[.slice p n c,.slice q m d] w fun e w'=>e= .returned (.tuple #[.bool (lessV A B).1,.int .i64 (lessV A B).2])∧Below w.heap.size w w':=by
 have Hr1:=Za (Zt p n c A w ha hn);have Hr2:Hid (∀W,Below w.heap.size w W→Calls Tryz.prog 61 #[.slice q m d] W fun e w'=>e= .returned (.bool (B.all okI))∧Below W.heap.size W w'):=fun W hW=>Zt q m d B W ⟨hb.1.keep hW,hb.2⟩ hm;have Ha:=Za ha;have Hb:=Za hb;have hnl:n<9223372036854775807:=by rw[hn];exact ha.2.2
 have hml:m<9223372036854775807:=by rw[hm];exact hb.2.2
 clear ha hb;rcases Bool.eq_false_or_eq_true (A.all okI&&B.all okI)with hq|hq
 ·rw[(Bool.and_eq_true_iff.1 hq).1]at Hr1;rw[(Bool.and_eq_true_iff.1 hq).2]at Hr2;by_cases h1:1<n
  ·have HT:Hid (lessV A B=(false,253)):=Zcm hq (.inl (by omega));have h1i:(1:Int)<(n:Int):=by omega
   clear hq hn hm;go_enter Tryz.func27,Tryz.ntmps27;go_wp2_with fail;refine Hr1.out.mono ?_;rintro e w0 ⟨rfl,hb0⟩;go_wp2_with fail;refine(Hr2.out w0 hb0).mono ?_;rintro e w1 ⟨rfl,hbb⟩;have hb1:=Zb hb0 hbb;clear hbb hb0;go_wp2;go_ret2;exact⟨by rw[HT.out];rfl,hb1⟩
  ·have h1i:¬(1:Int)<(n:Int):=by omega
   by_cases h2:1<m
   ·have HT:Hid (lessV A B=(false,253)):=Zcm hq (.inr (by omega));have h2i:(1:Int)<(m:Int):=by omega
    clear hq hn hm;go_enter Tryz.func27,Tryz.ntmps27;go_wp2_with fail;refine Hr1.out.mono ?_;rintro e w0 ⟨rfl,hb0⟩;go_wp2_with fail;refine(Hr2.out w0 hb0).mono ?_;rintro e w1 ⟨rfl,hbb⟩;have hb1:=Zb hb0 hbb;clear hbb hb0;go_wp2;go_ret2;exact⟨by rw[HT.out];rfl,hb1⟩
   ·have h2i:¬(1:Int)<(m:Int):=by omega
    by_cases h3:n=0
    ·subst h3;have HT:Hid (lessV A B=(decide (0<m),0)):=by show _=_;rw[ZcZ hq (by omega) (by omega) (.inl (by omega))];congr 1;rw[Bool.eq_iff_iff,decide_eq_true_eq,decide_eq_true_eq];omega
     clear hq hn hm h1 h2 h1i;go_enter Tryz.func27,Tryz.ntmps27;go_wp2_with fail;refine Hr1.out.mono ?_;rintro e w0 ⟨rfl,hb0⟩;go_wp2_with fail;refine(Hr2.out w0 hb0).mono ?_;rintro e w1 ⟨rfl,hbb⟩;have hb1:=Zb hb0 hbb;clear hbb hb0;go_wp2;go_ret2;exact⟨by rw[HT.out];rfl,hb1⟩
    ·have hn1:n=1:=by omega
     subst hn1;by_cases h4:m=0
     ·subst h4;have HT:Hid (lessV A B=(false,0)):=by show _=_;rw[ZcZ hq (by omega) (by omega) (.inr (by omega))];congr 1;rw[decide_eq_false_iff_not];omega
      clear hq hn hm h1 h2 h1i h2i h3;go_enter Tryz.func27,Tryz.ntmps27;go_wp2_with fail;refine Hr1.out.mono ?_;rintro e w0 ⟨rfl,hb0⟩;go_wp2_with fail;refine(Hr2.out w0 hb0).mono ?_;rintro e w1 ⟨rfl,hbb⟩;have hb1:=Zb hb0 hbb;clear hbb hb0;go_wp2;go_ret2;exact⟨by rw[HT.out];rfl,hb1⟩
     ·have hm1:m=1:=by omega
      subst hm1;obtain⟨x,rfl⟩:∃x,A=[x]:=List.length_eq_one_iff.1 hn.symm;obtain⟨y,rfl⟩:∃y,B=[y]:=List.length_eq_one_iff.1 hm.symm;have HT:Hid (lessV [x] [y]=(decide (oV x y<0),oE x y)):=ZgZ hq;have Hs1:=Za (Ha.out.2.1 x (by simp));have Hs2:=Za (Hb.out.2.1 y (by simp));obtain⟨b,off,hp,_⟩:=at0 Ha.out.1;dsimp only at hp;subst hp;obtain⟨b2,off2,hp2,_⟩:=at0 Hb.out.1;dsimp only at hp2;subst hp2;have hix:=ZaP b off 1 c (by omega);have hix2:=ZaP b2 off2 1 d (by omega);obtain⟨k1,a1,t1,d1⟩:=x;obtain⟨k2,a2,t2,d2⟩:=y;clear hq hn hm h1 h2 h1i h2i h3 h4;go_enter Tryz.func27,Tryz.ntmps27;go_wp2_with fail;refine Hr1.out.mono ?_;rintro e w0 ⟨rfl,hb0⟩;go_wp2_with fail;refine(Hr2.out w0 hb0).mono ?_;rintro e w1 ⟨rfl,hbb⟩;have hb1:=Zb hb0 hbb;clear hbb hb0;obtain⟨b3,off3,e3,c0,c1,c2,c3⟩:=at0 (Ha.out.1.keep hb1);injection e3 with e3;injection e3 with e3 e4;subst e3 e4;dsimp only at c0 c1 c2 c3;obtain⟨b3,off3,e3,q0,q1,q2,q3⟩:=at0 (Hb.out.1.keep hb1);injection e3 with e3;injection e3 with e3 e4;subst e3 e4;dsimp only at q0 q1 q2 q3;go_wp2_with fail;have l0:=Zo c0;have l1:=Zo c1;have l2:=Zo c2;have l3:=Zo c3;have r0:=Zo q0;have r1:=Zo q1;have r2:=Zo q2;have r3:=Zo q3;clear c0 c1 c2 c3 q0 q1 q2 q3;refine ZH (by kernel_rfl) (by kernel_rfl) ?_
      repeat (go_big_quiet_step ((go_at_call 62;exact Zb6 (Zfg k1 k2 a1 a2 d1 d2 t1 t2 _ Hs1.out Hs2.out))))
      refine wpQuiet_nil ?_;intro _ hw';obtain⟨y,hw''⟩:=hw';subst hw'';have hB2:=Zb hb1 y.2;clear l0 l1 l2 l3 r0 r1 r2 r3;have hno:=ZnH (x:=⟨k1,a1,t1,d1⟩) (y:=⟨k2,a2,t2,d2⟩);generalize oV ⟨k1,a1,t1,d1⟩ ⟨k2,a2,t2,d2⟩=ov at*;generalize oE ⟨k1,a1,t1,d1⟩ ⟨k2,a2,t2,d2⟩=oe at*;by_cases hoe:oe=0
      ·subst hoe;clear hno;by_cases hov:ov<0
       ·have HT2:Hid (lessV [⟨k1,a1,t1,d1⟩] [⟨k2,a2,t2,d2⟩]=(true,0)):=by show _=_;rw[HT.out];simp[hov]
        go_wp2;go_ret2;exact⟨by rw[HT2.out];rfl,hB2⟩
       ·have HT2:Hid (lessV [⟨k1,a1,t1,d1⟩] [⟨k2,a2,t2,d2⟩]=(false,0)):=by show _=_;rw[HT.out];simp[hov]
        go_wp2;go_ret2;exact⟨by rw[HT2.out];rfl,hB2⟩
      ·have hz:=hno hoe;subst hz;have HT2:Hid (lessV [⟨k1,a1,t1,d1⟩] [⟨k2,a2,t2,d2⟩]=(false,oe)):=by show _=_;rw[HT.out];rfl
       clear hno hoe;go_wp2;go_ret2;exact⟨by rw[HT2.out];rfl,hB2⟩
 ·have HT:Hid (lessV A B=(false,2)):=by show _=_;unfold lessV;rw[if_neg (by rw[hq];decide)]
  rcases Bool.eq_false_or_eq_true (A.all okI)with hqa|hqa
  ·have hqb:B.all okI=false:=by rw[hqa,Bool.true_and]at hq;exact hq
   rw[hqa]at Hr1;rw[hqb]at Hr2;clear hq hn hm hqa hqb;go_enter Tryz.func27,Tryz.ntmps27;go_wp2_with fail;refine Hr1.out.mono ?_;rintro e w0 ⟨rfl,hb0⟩;go_wp2_with fail;refine(Hr2.out w0 hb0).mono ?_;rintro e w1 ⟨rfl,hbb⟩;have hb1:=Zb hb0 hbb;clear hbb hb0;go_wp2;go_ret2;exact⟨by rw[HT.out];rfl,hb1⟩
  ·rw[hqa]at Hr1;clear hq hn hm hqa;go_enter Tryz.func27,Tryz.ntmps27;go_wp2_with fail;refine Hr1.out.mono ?_;rintro e w1 ⟨rfl,hb1⟩;go_wp2;go_ret2;exact⟨by rw[HT.out];rfl,hb1⟩
end Go.Proofs.YtnnfhojhbbcbmaaGreatDoor
