/- Plain laws: a right text is a row of runes; what is cut, turned and split of it. value.Call at substring. -/
import Derived.Test.YtnnfhojhbbcbmaaGreatDoorC10
import Derived.Test.YtnnfhojhbbcbmaaGreatDoorHp
import Derived.Test.YtnnfhojhbbcbmaaGreatDoorKf
import Derived.Test.YtnnfhojhbbcbmaaGreatDoorC15
import Derived.Lib.MapLaws
import Derived.Lib.TrimUEq
namespace Go.Proofs.YtnnfhojhbbcbmaaGreatDoor
open Go.RowKit
def enc:List Nat→List UInt8
 | []=>[]
 |r::t=>Lib.encodeRune (r:Int)++enc t
theorem ZbA:∀a b:List Nat,enc (a++b)=enc a++enc b
 | [],b=>rfl
 |r::a,b=>by simp only[List.cons_append,enc,ZbA a b,List.append_assoc]
def OkR(rs:List Nat):Prop:=∀r∈rs,ZbL r=true
theorem ZdR:OkR []:=by intro r hr;cases hr
theorem ZnA {r:Nat}(h:ZbL r=true):r≤55295∨(57344≤r∧r≤1114111):=by simp only[ZbL,Bool.or_eq_true,Bool.and_eq_true,decide_eq_true_eq]at h;omega
theorem Za8 {s:ByteArray}{k:Nat}{u:UInt8}{l:List UInt8}(h:s.data.toList.drop k=u::l):(bt s k).toNat=u.toNat∧k<s.size∧s.data.toList.drop (k+1)=l:=by
 have hk:k<s.size:=by have h1:=congrArg List.length h;rw[List.length_drop,Zcb]at h1;simp at h1;omega
 obtain⟨v,e1,e2⟩:=ZeZ s k hk;rw[e1]at h;injection h with h1 h2;subst h1;exact⟨by rw[e2,Int.toNat_natCast],hk,h2⟩
theorem u8z {z:Int}(h:0≤z)(h2:z<256):((z.toNat.toUInt8).toNat:Int)=z:=by
 have:z.toNat.toUInt8.toNat=z.toNat % 256:=by simp
 omega
theorem ZdB {s:ByteArray}{k:Nat}{l t:List UInt8}(h:s.data.toList.drop k=l++t)(h0:l≠ []):k<s.size∧l.length≤s.size-k∧s.data.toList.drop (k+l.length)=t:=by have h1:=congrArg List.length h;rw[List.length_drop,Zcb,List.length_append]at h1;have h2:l.length≠0:=fun e=>h0 (List.length_eq_zero_iff.1 e);refine⟨by omega,by omega,?_⟩;rw[←List.drop_drop,h,List.drop_left]
theorem Zcf {r:Nat}(h:r<128):Lib.encodeRune (r:Int)=[((r:Int)).toNat.toUInt8]:=by unfold Lib.encodeRune;rw[Lib.encodeRuneZ_one (by omega) (by omega)];rfl
theorem Zme {r:Nat}(h:128≤r)(h2:r<2048):Lib.encodeRune (r:Int)=[(192+(r:Int) / 64).toNat.toUInt8,(128+(r:Int) % 64).toNat.toUInt8]:=by unfold Lib.encodeRune;rw[Lib.encodeRuneZ_two (by omega) (by omega)];rfl
theorem Zjb {r:Nat}(h:2048≤r)(h2:r<65536)(h3:r≤55295∨57344≤r):Lib.encodeRune (r:Int)=[(224+(r:Int) / 4096).toNat.toUInt8,(128+(r:Int) / 64 % 64).toNat.toUInt8,(128+(r:Int) % 64).toNat.toUInt8]:=by unfold Lib.encodeRune;rw[Lib.encodeRuneZ_three (by omega)];rfl
theorem ZkZ {r:Nat}(h:65536≤r)(h2:r≤1114111):Lib.encodeRune (r:Int)=[(240+(r:Int) / 262144).toNat.toUInt8,(128+(r:Int) / 4096 % 64).toNat.toUInt8,(128+(r:Int) / 64 % 64).toNat.toUInt8,(128+(r:Int) % 64).toNat.toUInt8]:=by unfold Lib.encodeRune;rw[Lib.encodeRuneZ_four (by omega) (by omega)];rfl
theorem ZdS {s:ByteArray}{k r:Nat}{t:List UInt8}(hr:ZbL r=true)(h:s.data.toList.drop k=Lib.encodeRune (r:Int)++t):
  nxt s k=(r,(Lib.encodeRune (r:Int)).length):=by
 have hle:=ZnA hr;unfold nxt;by_cases c1:r<128
 ·rw[Zcf c1]at h⊢;obtain⟨b0,_,_⟩:=Za8 (show s.data.toList.drop k=((r:Int)).toNat.toUInt8::t from h);have e0:=u8z (z:=(r:Int)) (by omega) (by omega);rw[b0];unfold nxN;rw[if_pos (by omega)];exact Prod.ext (by show _=r;omega) rfl
 by_cases c2:r<2048
 ·rw[Zme (by omega) c2]at h⊢;obtain⟨b0,_,h1⟩:=Za8 (show s.data.toList.drop k=(192+(r:Int) / 64).toNat.toUInt8::(128+(r:Int) % 64).toNat.toUInt8::t from h);obtain⟨b1,hs1,h2⟩:=Za8 h1;have e0:=u8z (z:=192+(r:Int) / 64) (by omega) (by omega);have e1:=u8z (z:=128+(r:Int) % 64) (by omega) (by omega);rw[b0,b1];unfold nxN;rw[if_neg (by omega),if_pos (by omega),if_neg (by omega)];exact Prod.ext (by show _=r;omega) rfl
 by_cases c3:r<65536
 ·rw[Zjb (by omega) c3 (by omega)]at h⊢;obtain⟨b0,_,h1⟩:=Za8 (show s.data.toList.drop k=(224+(r:Int) / 4096).toNat.toUInt8::(128+(r:Int) / 64 % 64).toNat.toUInt8::(128+(r:Int) % 64).toNat.toUInt8::t from h);obtain⟨b1,_,h2⟩:=Za8 h1;obtain⟨b2,hs2,h3⟩:=Za8 h2;have e0:=u8z (z:=224+(r:Int) / 4096) (by omega) (by omega);have e1:=u8z (z:=128+(r:Int) / 64 % 64) (by omega) (by omega);have e2:=u8z (z:=128+(r:Int) % 64) (by omega) (by omega);rw[b0,b1,b2];generalize (224+(r:Int) / 4096).toNat.toUInt8.toNat=B0 at*;generalize (128+(r:Int) / 64 % 64).toNat.toUInt8.toNat=B1 at*;generalize (128+(r:Int) % 64).toNat.toUInt8.toNat=B2 at*;clear b0 b1 b2 h h1 h2 h3;unfold nxN;have hv:(B0-224)*4096+(B1-128)*64+(B2-128)=r:=by omega
  rw[if_neg (by omega),if_neg (by omega),if_pos (by omega),if_neg (by rw[hv];omega),hv];rfl
 ·rw[ZkZ (by omega) (by omega)]at h⊢;obtain⟨b0,_,h1⟩:=Za8 (show s.data.toList.drop k=(240+(r:Int) / 262144).toNat.toUInt8::(128+(r:Int) / 4096 % 64).toNat.toUInt8::(128+(r:Int) / 64 % 64).toNat.toUInt8::(128+(r:Int) % 64).toNat.toUInt8::t from h);obtain⟨b1,_,h2⟩:=Za8 h1;obtain⟨b2,_,h3⟩:=Za8 h2;obtain⟨b3,hs3,h4⟩:=Za8 h3;have e0:=u8z (z:=240+(r:Int) / 262144) (by omega) (by omega);have e1:=u8z (z:=128+(r:Int) / 4096 % 64) (by omega) (by omega);have e2:=u8z (z:=128+(r:Int) / 64 % 64) (by omega) (by omega);have e3:=u8z (z:=128+(r:Int) % 64) (by omega) (by omega);rw[b0,b1,b2,b3];generalize (240+(r:Int) / 262144).toNat.toUInt8.toNat=B0 at*;generalize (128+(r:Int) / 4096 % 64).toNat.toUInt8.toNat=B1 at*;generalize (128+(r:Int) / 64 % 64).toNat.toUInt8.toNat=B2 at*;generalize (128+(r:Int) % 64).toNat.toUInt8.toNat=B3 at*;clear b0 b1 b2 b3 h h1 h2 h3 h4;unfold nxN;have hv:(B0-240)*262144+(B1-128)*4096+(B2-128)*64+(B3-128)=r:=by omega
  rw[if_neg (by omega),if_neg (by omega),if_neg (by omega),if_pos (by omega),if_neg (by rw[hv];omega),hv];rfl
theorem ZbT(r:Int):Lib.encodeRune r≠ []:=by intro e;have:=(Lib.encodeRuneZ_length r).1;unfold Lib.encodeRune at e;have h2:=congrArg List.length e;rw[List.length_map,List.length_nil]at h2;omega
theorem Zan(r:Int):1≤(Lib.encodeRune r).length:=by
 have:=ZbT r;rcases Nat.eq_zero_or_pos (Lib.encodeRune r).length with h|h
 ·exact absurd (List.length_eq_zero_iff.1 h) this
 ·exact h
theorem ZbB {s:ByteArray}{k r:Nat}{t:List UInt8}(hr:ZbL r=true)(h:s.data.toList.drop k=Lib.encodeRune (r:Int)++t):
  Utf8.decode s k=(r,(Lib.encodeRune (r:Int)).length)∧k<s.size∧s.data.toList.drop (k+(Lib.encodeRune (r:Int)).length)=t:=by
 obtain⟨h1,h2,h3⟩:=ZdB h (ZbT _);have h4:=ZdS hr h;have h5:=Zan (r:Int);exact⟨by rw[←ZhC s k h1 (by rw[h4];show(Lib.encodeRune (r:Int)).length≠0;omega),h4],h1,h3⟩
theorem Zbn {s:ByteArray}{k:Nat}(h:s.data.toList.drop k=[]):¬k<s.size:=by have h1:=congrArg List.length h;rw[List.length_drop,Zcb]at h1;simp at h1;omega
theorem Zka(s:ByteArray):∀(rs:List Nat) (f k:Nat),OkR rs→s.data.toList.drop k=enc rs→s.size≤k+f→rTf s f k=true
 | [],0,k,_,_,_=>rfl
 | [],f+1,k,_,h,_=>by unfold rTf;rw[if_neg (Zbn h)]
 |r::t,0,k,ho,h,hf=>by
  have:=(ZbB (ho r (by simp)) (show _=Lib.encodeRune (r:Int)++enc t from h)).2.1;omega
 |r::t,f+1,k,ho,h,hf=>by
  have hr:=ho r (by simp);have h':s.data.toList.drop k=Lib.encodeRune (r:Int)++enc t:=h;obtain⟨_,h2,h3⟩:=ZbB hr h';have h4:=ZdS hr h';have h5:=Zan (r:Int);unfold rTf;rw[if_pos h2,h4];dsimp only;rw[if_neg (by omega),hr,Bool.true_and];exact Zka s t f _ (fun x hx=>ho x (by simp[hx])) h3 (by omega)
theorem ZoQ {n b0 b1 b2 b3:Nat}(h:(nxN n b0 b1 b2 b3).2=1):(nxN n b0 b1 b2 b3).1<128:=by
 unfold nxN at*
 repeat' split at h
 all_goals first|(simp at h)|skip
 rw[if_pos (by assumption)]
 assumption
theorem ZgP(s:ByteArray):∀(f k:Nat),s.size≤k+f→rTf s f k=true→∃rs,OkR rs∧s.data.toList.drop k=enc rs
 |0,k,hf,_=>⟨[],ZdR,List.drop_eq_nil_of_le (by rw[Zcb];omega)⟩
 |f+1,k,hf,h=>by
  by_cases hk:k<s.size
  ·unfold rTf at h;rw[if_pos hk]at h;by_cases h0:(nxt s k).2=0
   ·rw[if_pos h0]at h;cases h
   ·rw[if_neg h0,Bool.and_eq_true]at h;obtain⟨rs,ho,hrs⟩:=ZgP s f (k+(nxt s k).2) (by omega) h.2;have hd:=ZhC s k hk h0;have hdl:Lib.decodeL (s.data.toList.drop k)=nxt s k:=by rw[Lib.decodeL_drop,hd]
    have hne:s.data.toList.drop k≠ []:=fun e=>Zbn e hk
    have he:=Lib.encode_decode (s.data.toList.drop k) hne (by
     rw[hdl];rintro⟨h1,h2⟩;have:=ZoQ (show(nxN _ _ _ _ _).2=1 from h2);have h3:(nxN (s.size-k) (bt s k).toNat (bt s (k+1)).toNat (bt s (k+2)).toNat (bt s (k+3)).toNat).1=65533:=h1
     omega)
    rw[hdl]at he;refine⟨(nxt s k).1::rs,?_,?_⟩
    ·intro x hx;rcases List.mem_cons.1 hx with rfl|hx
     ·exact h.1
     ·exact ho x hx
    ·show _=Lib.encodeRune ((nxt s k).1:Int)++enc rs;rw[he,←hrs,←List.drop_drop,List.take_append_drop]
  ·exact⟨[],ZdR,List.drop_eq_nil_of_le (by rw[Zcb];omega)⟩
theorem Zmf {s:ByteArray}(h:tS s=true):∃rs,OkR rs∧s.data.toList=enc rs:=by rw[←Znb]at h;obtain⟨rs,h1,h2⟩:=ZgP s s.size 0 (by omega) h;exact⟨rs,h1,by rw[←h2,List.drop_zero]⟩
theorem ZoR {s:ByteArray}{rs:List Nat}(ho:OkR rs)(h:s.data.toList=enc rs):tS s=true:=by rw[←Znb];exact Zka s rs s.size 0 ho (by rw[List.drop_zero,h]) (by omega)
theorem ZgQ(s:ByteArray):∀(rs:List Nat) (f k:Nat),OkR rs→s.data.toList.drop k=enc rs→s.size≤k+f→Lib.runeCountFrom s f k=rs.length
 | [],f,k,_,h,_=>Lib.runeCountFrom_end s f k (Zbn h)
 |r::t,0,k,ho,h,hf=>by
  have:=(ZbB (ho r (by simp)) (show _=Lib.encodeRune (r:Int)++enc t from h)).2.1;omega
 |r::t,f+1,k,ho,h,hf=>by
  obtain⟨h1,h2,h3⟩:=ZbB (ho r (by simp)) (show _=Lib.encodeRune (r:Int)++enc t from h);have h5:=Zan (r:Int);unfold Lib.runeCountFrom;rw[if_pos h2,h1,ZgQ s t f _ (fun x hx=>ho x (by simp[hx])) h3 (by omega)];simp;omega
theorem Zh5 {s:ByteArray}{rs:List Nat}(ho:OkR rs)(h:s.data.toList=enc rs):Lib.runeCount s=rs.length:=
 ZgQ s rs s.size 0 ho (by rw[List.drop_zero,h]) (by omega)
def cutR(n e:Int):Int→List Nat→List Nat
 |_,[]=>[]
 |p,r::t=>(if n≤p+1∧p+1<e then [r]else [])++cutR n e (p+1) t
theorem Zkb(s:ByteArray)(n e:Int):∀(rs:List Nat) (f k:Nat) (p:Int),OkR rs→s.data.toList.drop k=enc rs→s.size≤k+f→Zar s n e f k p=enc (cutR n e p rs)
 | [],0,k,p,_,_,_=>rfl
 | [],f+1,k,p,_,h,_=>by unfold Zar;rw[if_neg (Zbn h)];rfl
 |r::t,0,k,p,ho,h,hf=>by
  have:=(ZbB (ho r (by simp)) (show _=Lib.encodeRune (r:Int)++enc t from h)).2.1;omega
 |r::t,f+1,k,p,ho,h,hf=>by
  obtain⟨h1,h2,h3⟩:=ZbB (ho r (by simp)) (show _=Lib.encodeRune (r:Int)++enc t from h);have h5:=Zan (r:Int);unfold Zar;rw[if_pos h2,h1];dsimp only;rw[Zkb s n e t f _ (p+1) (fun x hx=>ho x (by simp[hx])) h3 (by omega)];rw[show cutR n e p (r::t)=(if n≤p+1∧p+1<e then [r]else [])++cutR n e (p+1) t from rfl,ZbA];congr 1;split
  ·show _=Lib.encodeRune (r:Int)++[];rw[List.append_nil]
  ·rfl
theorem ZgR {s:ByteArray}{rs:List Nat}(n e:Int)(ho:OkR rs)(h:s.data.toList=enc rs):(cutB s n e).data.toList=enc (cutR n e 0 rs):=by show(Zar s n e s.size 0 0).toArray.toList=_;rw[List.toList_toArray];exact Zkb s n e rs s.size 0 0 ho (by rw[List.drop_zero,h]) (by omega)
theorem Zkc(f:Int→Int)(g:Nat→Nat)(hg:∀r,(g r:Int)=f r):∀(rs:List Nat) (n:Nat) (l:List UInt8),OkR rs→l=enc rs→l.length≤n→Lib.mapGoD f n l=enc (rs.map g)
 | [],n,l,_,h,_=>by subst h;exact Lib.mapGoD_nil f n
 |r::t,0,l,ho,h,hn=>by
  have h5:=Zan (r:Int);have:=congrArg List.length h;simp only[enc,List.length_append]at this;omega
 |r::t,n+1,l,ho,h,hn=>by
  have h5:=Zan (r:Int);have hl:=congrArg List.length h;simp only[enc,List.length_append]at hl;have hd:=ZbB (s:=⟨l.toArray⟩) (k:=0) (r:=r) (t:=enc t) (ho r (by simp)) (by rw[List.drop_zero];exact h);have hdl:Lib.decodeL l=(r,(Lib.encodeRune (r:Int)).length):=hd.1;have hdr:l.drop (Lib.encodeRune (r:Int)).length=enc t:=by rw[h];exact List.drop_left
  unfold Lib.mapGoD;rw[if_neg (by intro e;subst e;simp at hl;omega),hdl];dsimp only;rw[hdr,←hg r,if_pos (by omega),Zkc f g hg t n (enc t) (fun x hx=>ho x (by simp[hx])) rfl (by omega)];rfl
theorem ZgS {s:ByteArray}{rs:List Nat}(f:Int→Int)(g:Nat→Nat)(hg:∀r,(g r:Int)=f r)(ho:OkR rs)(h:s.data.toList=enc rs):(mapB f s).data.toList=enc (rs.map g):=by show(Lib.mapD f s.data.toList).toArray.toList=_;rw[List.toList_toArray];exact Zkc f g hg rs _ _ ho h (Nat.le_refl _)
def fR:Option (List Nat)→List Nat→List (List Nat)
 |none,[]=>[]
 |some g,[]=>[g]
 |none,r::t=>if isBl r=true then fR none t else fR (some [r]) t
 |some g,r::t=>if isBl r=true then g::fR none t else fR (some (g++[r])) t
def toB(rs:List Nat):ByteArray:=⟨(enc rs).toArray⟩
theorem ZcM(rs:List Nat):(toB rs).data.toList=enc rs:=by show(enc rs).toArray.toList=_;rw[List.toList_toArray]
theorem Ze9 {s:ByteArray}{a:Nat}{g:List Nat}{t:List UInt8}(h:s.data.toList.drop a=enc g++t):s.extract a (a+(enc g).length)=toB g:=by apply ByteArray.ext;apply Array.toList_inj.1;rw[ZcM,ByteArray.data_extract,Array.toList_extract,List.extract_eq_take_drop,h,Nat.add_sub_cancel_left,List.take_left]
theorem ZbC(s:ByteArray):∀(rs:List Nat) (f k:Nat) (st:Option Nat) (cur:Option (List Nat)) (acc:List (Nat×Nat)),OkR rs→s.data.toList.drop k=enc rs→s.size≤k+f→
  ((st=none∧cur=none)∨∃a g,st=some a∧cur=some g∧g≠ []∧s.data.toList.drop a=enc g++enc rs∧k=a+(enc g).length)→
  (Lib.closeSpans s (Lib.spansFromP isBl s f k st acc)).map (fun x=>s.extract x.1 x.2)=acc.map (fun x=>s.extract x.1 x.2)++(fR cur rs).map toB
 | [],f,k,st,cur,acc,_,h,_,hc=>by
  rw[Lib.spansFromP_end isBl s f k st acc (Zbn h)];rcases hc with⟨rfl,rfl⟩|⟨a,g,rfl,rfl,hg0,h1,h2⟩
  ·simp[Lib.closeSpans,fR]
  ·have hk:s.size=a+(enc g).length:=by
    have h3:=congrArg List.length h1;simp only[List.length_drop,Zcb,List.length_append]at h3;have h4:(enc []).length=0:=rfl;rw[h4]at h3;have h5:=Zbn h
    have h7:1≤(enc g).length:=by
     cases g with
     |nil=>exact absurd rfl hg0
     |cons x y=>
      have:=Zan (x:Int);simp only[enc,List.length_append];omega
    omega
   have h6:=Ze9 h1;simp only[Lib.closeSpans,fR,List.map_append,List.map_cons,List.map_nil];rw[hk,h6]
 |r::t,0,k,st,cur,acc,ho,h,hf,_=>by
  have:=(ZbB (ho r (by simp)) (show _=Lib.encodeRune (r:Int)++enc t from h)).2.1;omega
 |r::t,f+1,k,st,cur,acc,ho,h,hf,hc=>by
  obtain⟨h1,h2,h3⟩:=ZbB (ho r (by simp)) (show _=Lib.encodeRune (r:Int)++enc t from h);have h5:=Zan (r:Int);have ht:OkR t:=fun x hx=>ho x (by simp[hx]);unfold Lib.spansFromP;rw[if_pos h2,h1];dsimp only;rcases hc with⟨rfl,rfl⟩|⟨a,g,rfl,rfl,hg0,hg,hk⟩
  ·by_cases hb:isBl r=true
   ·rw[if_pos hb];dsimp only;rw[ZbC s t f _ none none acc ht h3 (by omega) (.inl ⟨rfl,rfl⟩)]
    conv=>rhs;unfold fR
    rw[if_pos hb]
   ·rw[if_neg hb];dsimp only;rw[ZbC s t f _ (some k) (some [r]) acc ht h3 (by omega) (.inr ⟨k,[r],rfl,rfl,by simp,by rw[h];simp[enc],by simp[enc]⟩)]
    conv=>rhs;unfold fR
    rw[if_neg hb]
  ·by_cases hb:isBl r=true
   ·rw[if_pos hb];dsimp only;rw[ZbC s t f _ none none (acc++[(a,k)]) ht h3 (by omega) (.inl ⟨rfl,rfl⟩)];have h6:=Ze9 hg
    conv=>rhs;unfold fR
    rw[if_pos hb,List.map_append,List.map_cons,List.map_nil,List.map_cons,hk,h6,List.append_assoc];rfl
   ·rw[if_neg hb];dsimp only;rw[ZbC s t f _ (some a) (some (g++[r])) acc ht h3 (by omega) (.inr ⟨a,g++[r],rfl,rfl,by simp,by rw[hg,ZbA];simp[enc],by rw[ZbA,List.length_append];simp[enc];omega⟩)]
    conv=>rhs;unfold fR
    rw[if_neg hb]
theorem Zhf {s:ByteArray}{rs:List Nat}(ho:OkR rs)(h:s.data.toList=enc rs):Lib.goFieldsP isBl s=(fR none rs).map toB:=by unfold Lib.goFieldsP Lib.spansOfP;have:=ZbC s rs s.size 0 none none [] ho (by rw[List.drop_zero,h]) (by omega) (.inl ⟨rfl,rfl⟩);simpa using this
end Go.Proofs.YtnnfhojhbbcbmaaGreatDoor
namespace Go.Proofs.YtnnfhojhbbcbmaaGreatDoor
set_option maxRecDepth 100000
set_option maxHeartbeats 4000000
open Go.RowKit
theorem Zhg(b off c:Nat)(la lb:Lst)(w:World)(he:Env w)(hr:Rd w (some ⟨b,off,none⟩) ([la,lb].map Lst.v))(hoka:OkA w la)(hokb:OkA w lb)(hRa:∀y∈la.l,R64 y.num)(hRb:∀y∈lb.l,R64 y.num)(hsa:∀y∈la.l,y.text.size≤100000):
  Calls Tryz.prog 46 #[.string ⟨#[115,117,98,115,116,114,105,110,103]⟩,.slice (some ⟨b,off,none⟩) 2 c] w fun e w'=>∃v,e= .returned (.tuple #[v,.int .i64 (subV [la,lb]).2,.bool true])∧OwI w' w.heap.size v (subV [la,lb]).1∧Below w.heap.size w w':=by
 have H:=Za (Zmc b off c la lb w he hr hoka hokb hRa hRb hsa);have hix:=Zp b off 2 c (by decide);obtain⟨b1,off1,e1,h0⟩:=hr.cellAt 0 _ rfl;injection e1 with e1;injection e1 with e1 e2;subst e1 e2;rw[Nat.add_zero]at h0;obtain⟨aa,al,ac⟩:=la;have h1:w.cell? ⟨b,off,none⟩=some (.slice aa al.length ac):=h0;clear h0 he hr hoka hokb hRa hRb hsa;generalize subV _=sv at*;obtain⟨s1,s2⟩:=sv;dsimp only at H⊢;go_enter Tryz.func46,Tryz.ntmps46;go_wp2_with fail;refine H.out.mono ?_;rintro e w1 ⟨v,rfl,ho,hb⟩;have Ho:=Za ho;clear ho h1;go_wp2;go_ret3;exact⟨v,rfl,Ho.out,hb⟩
theorem Zhh(b off c:Nat)(la lb lc:Lst)(w:World)(he:Env w)(hr:Rd w (some ⟨b,off,none⟩) ([la,lb,lc].map Lst.v))(hoka:OkA w la)(hokb:OkA w lb)(hokc:OkA w lc)(hRa:∀y∈la.l,R64 y.num)(hRb:∀y∈lb.l,R64 y.num)(hRc:∀y∈lc.l,R64 y.num)(hsa:∀y∈la.l,y.text.size≤100000):
  Calls Tryz.prog 46 #[.string ⟨#[115,117,98,115,116,114,105,110,103]⟩,.slice (some ⟨b,off,none⟩) 3 c] w fun e w'=>∃v,e= .returned (.tuple #[v,.int .i64 (subV [la,lb,lc]).2,.bool true])∧OwI w' w.heap.size v (subV [la,lb,lc]).1∧Below w.heap.size w w':=by
 have H:=Za (Zmd b off c la lb lc w he hr hoka hokb hokc hRa hRb hRc hsa);have hix:=Zp b off 3 c (by decide);obtain⟨b1,off1,e1,h0⟩:=hr.cellAt 0 _ rfl;injection e1 with e1;injection e1 with e1 e2;subst e1 e2;rw[Nat.add_zero]at h0;obtain⟨aa,al,ac⟩:=la;have h1:w.cell? ⟨b,off,none⟩=some (.slice aa al.length ac):=h0;clear h0 he hr hoka hokb hokc hRa hRb hRc hsa;generalize subV _=sv at*;obtain⟨s1,s2⟩:=sv;dsimp only at H⊢;go_enter Tryz.func46,Tryz.ntmps46;go_wp2_with fail;refine H.out.mono ?_;rintro e w1 ⟨v,rfl,ho,hb⟩;have Ho:=Za ho;clear ho h1;go_wp2;go_ret3;exact⟨v,rfl,Ho.out,hb⟩
def Zes(ls:List Lst):List It×Int:=if rightL ls=true then(if knV [115,117,98,115,116,114,105,110,103] ls.length=true then subV ls else([],241))else([],2)
theorem ZoS {α:Type}{l:List α}(h:l.length=2∨l.length=3):(∃a b,l=[a,b])∨∃a b c,l=[a,b,c]:=by
 match l,h with
 | [a,b],_=>exact .inl ⟨a,b,rfl⟩
 | [a,b,c],_=>exact .inr ⟨a,b,c,rfl⟩
theorem ZgT(p:Option Addr)(n c:Nat)(ls:List Lst)(m:Int)(w:World)(he:Env w)(hm:w.cell? ⟨1,0,none⟩=some (.int .i64 m))(hc:Counts w)(hr:Rd w p (ls.map Lst.v))(hok:OkAs w ls)
  (hR:∀x∈ls,∀y∈x.l,R64 y.num) (hsz:∀x∈ls,∀y∈x.l,y.text.size≤100000) (hn:n=ls.length) (hnm:n≤1000000):
  Calls Tryz.prog 14 #[.string ⟨#[115,117,98,115,116,114,105,110,103]⟩,.slice p n c] w (Res w (Zes ls).1 (Zes ls).2):=by
 obtain⟨i0,hi⟩:=info_parts (show(Tryz.prog.info? 9).map (fun i=>(i.zero,i.size,i.bytes))=some (some (.string ⟨#[]⟩),1,16) by kernel_rfl);have Hi:=Za hi;have He:=Za he;have Hm:=Za hm;have Hc:=Za hc;have Hr:=Za hr;have Hok:=Za hok;have HR:=Za hR;have Hsz:=Za hsz;have Hn:=Za hn;have Hnm:=Za hnm;have Hrt:=Za (Z7 p n c ls w he.t8 hn (by omega) hr hok);have Hkn:Hid (∀W,Below w.heap.size w W→Calls Tryz.prog 45 #[.string ⟨#[115,117,98,115,116,114,105,110,103]⟩,.int .i64 n] W fun e w'=>e= .returned (.bool (knV [115,117,98,115,116,114,105,110,103] n))∧Below W.heap.size W w'):=fun W hW=>ZI ⟨#[115,117,98,115,116,114,105,110,103]⟩ n m W (Zc hW hm) (hc.keep hW) (by decide);have hnl:n<9223372036854775807:=by omega
 have Hall:Hid (Zes ls=if rightL ls=true then(if knV [115,117,98,115,116,114,105,110,103] n=true then subV ls else([],241))else([],2)):=by show _=_;unfold Zes;rw[hn]
 clear he hm hc hr hok hR hsz hn hnm hi;rcases Bool.eq_false_or_eq_true (rightL ls)with hq|hq;rotate_left
 ·rw[hq]at Hrt;have HA:Hid (Zes ls=([],2)):=by show _=_;rw[Hall.out,hq];rfl
  clear hq Hall;go_enter Tryz.func14,Tryz.ntmps14;go_wp2_with fail;refine Hrt.out.mono ?_;rintro e w1 ⟨rfl,hb1⟩;go_wp2;go_ret2;exact⟨.slice none 0 0,by rw[HA.out];rfl,by rw[HA.out];exact OwI.nil _ _,hb1⟩
 rw[hq]at Hrt;rcases Bool.eq_false_or_eq_true (knV [115,117,98,115,116,114,105,110,103] n)with hk|hk;rotate_left
 ·rw[hk]at Hkn;have HA:Hid (Zes ls=([],241)):=by show _=_;rw[Hall.out,hq,hk];rfl
  clear hq hk Hall;go_enter Tryz.func14,Tryz.ntmps14;go_wp2_with fail;refine Hrt.out.mono ?_;rintro e w1 ⟨rfl,hb1⟩;go_wp2_with fail;refine(Hkn.out w1 hb1).mono ?_;rintro e w2 ⟨rfl,hb2⟩;have hB2:=Zb hb1 hb2;go_wp2;go_ret2;exact⟨.slice none 0 0,by rw[HA.out];rfl,by rw[HA.out];exact OwI.nil _ _,hB2⟩
 have HE:Hid (Zes ls=subV ls):=by show _=_;rw[Hall.out,hq,hk,if_pos rfl,if_pos rfl]
 rw[hk]at Hkn;have hn23:ls.length=2∨ls.length=3:=by rw[←Hn.out];unfold knV at hk;simp[wK0,wK1,wK2,wK3,wK4]at hk;omega
 clear hq hk Hall;rcases ZoS hn23 with⟨la,lb,rfl⟩|⟨la,lb,lc,rfl⟩
 ·have hn2:n=2:=Hn.out;subst hn2;obtain⟨b0,off0,rfl,hcz⟩:=Hr.out.cellAt 0 la.v rfl;clear hcz hn23;go_enter Tryz.func14,Tryz.ntmps14;go_wp2_with fail;refine Hrt.out.mono ?_;rintro e w1 ⟨rfl,hb1⟩;go_wp2_with fail;refine(Hkn.out w1 hb1).mono ?_;rintro e w2 ⟨rfl,hb2⟩;have hB2:=Zb hb1 hb2;clear hb1 hb2 Hkn Hrt;go_wp2_with fail;refine(Zhg b0 off0 c la lb _ (He.out.keep hB2) (Hr.out.keep hB2) ⟨(Hok.out la (by simp)).1.keep hB2,(Hok.out la (by simp)).2⟩ ⟨(Hok.out lb (by simp)).1.keep hB2,(Hok.out lb (by simp)).2⟩ (HR.out la (by simp)) (HR.out lb (by simp)) (Hsz.out la (by simp))).mono ?_;rintro e w3 ⟨v,rfl,ho,hb3⟩;have Ho:=Za (ho.mono hB2.size);have hB3:=Zb hB2 hb3;clear ho hb3;generalize subV _=sv at*;obtain⟨s1,s2⟩:=sv;go_wp2;go_ret2;exact⟨v,by rw[HE.out];rfl,by rw[HE.out];exact Ho.out,hB3⟩
 ·have hn2:n=3:=Hn.out;subst hn2;obtain⟨b0,off0,rfl,hcz⟩:=Hr.out.cellAt 0 la.v rfl;clear hcz hn23;go_enter Tryz.func14,Tryz.ntmps14;go_wp2_with fail;refine Hrt.out.mono ?_;rintro e w1 ⟨rfl,hb1⟩;go_wp2_with fail;refine(Hkn.out w1 hb1).mono ?_;rintro e w2 ⟨rfl,hb2⟩;have hB2:=Zb hb1 hb2;clear hb1 hb2 Hkn Hrt;go_wp2_with fail;refine(Zhh b0 off0 c la lb lc _ (He.out.keep hB2) (Hr.out.keep hB2) ⟨(Hok.out la (by simp)).1.keep hB2,(Hok.out la (by simp)).2⟩ ⟨(Hok.out lb (by simp)).1.keep hB2,(Hok.out lb (by simp)).2⟩ ⟨(Hok.out lc (by simp)).1.keep hB2,(Hok.out lc (by simp)).2⟩ (HR.out la (by simp)) (HR.out lb (by simp)) (HR.out lc (by simp)) (Hsz.out la (by simp))).mono ?_;rintro e w3 ⟨v,rfl,ho,hb3⟩;have Ho:=Za (ho.mono hB2.size);have hB3:=Zb hB2 hb3;clear ho hb3;generalize subV _=sv at*;obtain⟨s1,s2⟩:=sv;go_wp2;go_ret2;exact⟨v,by rw[HE.out];rfl,by rw[HE.out];exact Ho.out,hB3⟩
end Go.Proofs.YtnnfhojhbbcbmaaGreatDoor
