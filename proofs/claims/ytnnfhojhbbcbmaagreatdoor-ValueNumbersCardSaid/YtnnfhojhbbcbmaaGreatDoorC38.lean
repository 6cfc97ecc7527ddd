/- Plain: what the reference's loops over bytes make of right texts. The reference: one item; short; turned, spaced, length, stands; joined. Plain: the text of right items is a row of runes. The reference: Call (). -/
import Derived.Test.YtnnfhojhbbcbmaaGreatDoorC37
import Derived.Test.YtnnfhojhbbcbmaaGreatDoorC13
import Derived.Test.YtnnfhojhbbcbmaaGreatDoorC10
import Derived.Test.YtnnfhojhbbcbmaaGreatDoorC15
import Derived.Lib.AppendStr
import Derived.Test.YtnnfhojhbbcbmaaGreatDoorC14
import Derived.Test.YtnnfhojhbbcbmaaGreatDoorC18
import Derived.Test.YtnnfhojhbbcbmaaGreatDoorC22
namespace Go.Proofs.YtnnfhojhbbcbmaaGreatDoor
open Go.RowKit
def tuB(a b:Nat)(c:UInt8):UInt8:=if a≤c.toNat∧c.toNat≤a+25 then UInt8.ofNat (c.toNat-a+b)else c
theorem Zlt {r:Nat}(h:128≤r)(b:UInt8)(hb:b∈Lib.encodeRune (r:Int)):128≤b.toNat:=by
 rcases Nat.lt_or_ge b.toNat 128 with h2|h2
 ·have:=ZiR r b hb h2;omega
 ·exact h2
theorem ZjX(a b:Nat)(g:Nat→Nat)(ha:a+25<128)(hb:b+25<128)(hg:∀r,g r=if a≤r∧r≤a+25 then r-a+b else r):∀rs,(enc rs).map (tuB a b)=enc (rs.map g)
 | []=>rfl
 |r::t=>by
  simp only[enc,List.map_append,List.map_cons,ZjX a b g ha hb hg t];congr 1;rcases Nat.lt_or_ge r 128 with h|h
  ·have hgr:g r<128:=by rw[hg];split<;>omega
   rw[Zcf h,Zcf hgr];have h1:((r:Int)).toNat.toUInt8.toNat=r:=by rw[Int.toNat_natCast];show(UInt8.ofNat r).toNat=r;rw[UInt8.toNat_ofNat'];omega
   simp only[List.map_cons,List.map_nil,List.cons.injEq,and_true,tuB,h1,hg];split
   ·rfl
   ·rfl
  ·have hgr:g r=r:=by rw[hg,if_neg (by omega)]
   rw[hgr]
   conv=>rhs;rw[←List.map_id (Lib.encodeRune (r:Int))]
   apply List.map_congr_left;intro c hc;have:=Zlt h c hc;unfold tuB;rw[if_neg (by omega)];rfl
def turnB(a b:Nat)(s:ByteArray):ByteArray:=⟨(s.data.toList.map (tuB a b)).toArray⟩
theorem ZnY {s:ByteArray}{rs:List Nat}(ho:OkR rs)(h:s.data.toList=enc rs):turnB 97 65 s=mapB upF s:=by apply Zda;rw[ZgS upF upR Zo2 ho h,←ZjX 97 65 upR (by decide) (by decide) (fun r=>by unfold upR;split<;>omega),←h];show(List.toArray _).toList=_;rw[List.toList_toArray]
theorem ZnZ {s:ByteArray}{rs:List Nat}(ho:OkR rs)(h:s.data.toList=enc rs):turnB 65 97 s=mapB loF s:=by apply Zda;rw[ZgS loF loR Zo3 ho h,←ZjX 65 97 loR (by decide) (by decide) (fun r=>by unfold loR;split<;>omega),←h];show(List.toArray _).toList=_;rw[List.toList_toArray]
def isW(b:UInt8):Bool:=b==32||b==9||b==10||b==13
def Zjw(out:List UInt8)(gap:Bool):List UInt8:=if gap=true∧out≠ []then out++[32]else out
def spB:List UInt8→Bool→List UInt8→List UInt8
 |out,_,[]=>out
 |out,gap,b::r=>if isW b=true then spB out true r else spB (Zjw out gap++[b]) false r
theorem Zdj(out:List UInt8):Zjw out false=out:=by unfold Zjw;rw[if_neg (by simp)]
theorem ZhN:∀(l:List UInt8) (out:List UInt8) (gap:Bool) (t:List UInt8),(∀b∈l,isW b=false)→l≠ []→spB out gap (l++t)=spB (Zjw out gap++l) false t
 | [],_,_,_,_,h=>absurd rfl h
 |b::l,out,gap,t,hl,_=>by
  have hb:=hl b (by simp);rw[List.cons_append,spB,if_neg (by rw[hb];decide)];cases l with
  |nil=>rfl
  |cons c l=>
   rw[ZhN (c::l) _ false t (fun x hx=>hl x (by simp[hx])) (by simp),Zdj,List.append_assoc];rfl
theorem Zn0 {b:UInt8}(h:isW b=true):b.toNat<128∧isBl b.toNat=true:=by unfold isW at h;simp only[Bool.or_eq_true,beq_iff_eq]at h;rcases h with((h|h)|h)|h<;>subst h<;>decide
theorem ZiS {r:Nat}(h:isBl r=false):∀b∈Lib.encodeRune (r:Int),isW b=false:=by
 intro b hb;rcases Bool.eq_false_or_eq_true (isW b)with h2|h2
 ·have h3:=Zn0 h2;have:=ZiR r b hb h3.1;rw[this,h3.2]at h;cases h
 ·exact h2
theorem Zo4 {r:Nat}(h:isBl r=true):∃b,Lib.encodeRune (r:Int)=[b]∧isW b=true:=by unfold isBl at h;simp only[Bool.or_eq_true,beq_iff_eq]at h;rcases h with((h|h)|h)|h<;>subst h<;>exact⟨_,rfl,by decide⟩
theorem Zcn:∀(G:List (List Nat)) (h:List Nat),G≠ []→ZaU (G++[h])=ZaU G++32::h
 | [],_,h=>absurd rfl h
 | [g],h,_=>rfl
 |g::g2::t,h,_=>by
  show g++32::ZaU ((g2::t)++[h])=_;rw[Zcn (g2::t) h (by simp)];show _=(g++32::ZaU (g2::t))++32::h;simp
theorem Zjx(G:List (List Nat))(g h:List Nat):ZaU (G++[g++h])=ZaU (G++[g])++h:=by
 by_cases e:G=[]
 ·subst e;rfl
 ·rw[Zcn G _ e,Zcn G _ e];simp
theorem Zo5 {rs:List Nat}(h:rs≠ []):enc rs≠ []:=by
 cases rs with
 |nil=>exact absurd rfl h
 |cons r t=>
  intro e;have:=ZbT (r:Int);rw[enc,List.append_eq_nil_iff]at e;exact this e.1
theorem ZmF:∀G:List (List Nat),Zne G→G≠ []→ZaU G≠ []
 | [],_,h=>absurd rfl h
 | [g],hG,_=>(hG g (by simp)).1
 |g::h::t,_,_=>by simp[ZaU]
theorem Zbb(r:Nat):enc [r]=Lib.encodeRune (r:Int):=by simp[enc]
theorem Zgs:∀(rs:List Nat) (G:List (List Nat)),Zne G→spB (enc (ZaU G)) true (enc rs)=enc (ZaU (G++fR none rs))∧∀g,g≠ []→(∀x∈g,isBl x=false)→spB (enc (ZaU (G++[g]))) false (enc rs)=enc (ZaU (G++fR (some g) rs))
 | [],G,_=>⟨by simp[enc,spB,fR],fun g _ _=>by simp[enc,spB,fR]⟩
 |r::t,G,hG=>by
  have hgood:∀g,g≠ []→(∀x∈g,isBl x=false)→Zne (G++[g]):=fun g h1 h2 k hk=>by
   rcases List.mem_append.1 hk with h|h
   ·exact hG k h
   ·rw[List.mem_singleton]at h;subst h;exact⟨h1,h2⟩
  rcases Bool.eq_false_or_eq_true (isBl r)with hb|hb
  ·obtain⟨b,e,hW⟩:=Zo4 hb;refine⟨?_,fun g h1 h2=>?_⟩
   ·rw[enc,e,List.singleton_append,spB,if_pos hW,(Zgs t G hG).1,Zky,if_pos hb]
   ·rw[enc,e,List.singleton_append,spB,if_pos hW,(Zgs t (G++[g]) (hgood g h1 h2)).1,Zkx,if_pos hb];simp
  ·have hnb:¬isBl r=true:=by rw[hb];decide
   refine⟨?_,fun g h1 h2=>?_⟩
   ·rw[enc,ZhN _ _ _ _ (ZiS hb) (ZbT _),Zky,if_neg hnb,←(Zgs t G hG).2 [r] (by simp) (by simpa using hb)];congr 1;by_cases e:G=[]
    ·subst e;simp[Zjw,ZaU,enc]
    ·unfold Zjw;rw[if_pos ⟨rfl,Zo5 (ZmF G hG e)⟩,Zcn G _ e,ZbA];show _=enc (ZaU G)++(Lib.encodeRune ((32:Nat):Int)++enc [r]);rw[Zbb,show Lib.encodeRune ((32:Nat):Int)=[32]from rfl];simp
   ·rw[enc,ZhN _ _ _ _ (ZiS hb) (ZbT _),Zdj,Zkx,if_neg hnb,←(Zgs t G hG).2 (g++[r]) (by simp) (by
     intro x hx;rcases List.mem_append.1 hx with h|h
     ·exact h2 x h
     ·rw[List.mem_singleton]at h;subst h;exact hb)]
    congr 1;rw[Zjx,ZbA,Zbb]
theorem Zlu(l:List UInt8):spB [] false l=spB [] true l:=by
 cases l with
 |nil=>rfl
 |cons b r=>simp only[spB,Zjw,ne_eq,not_true_eq_false,and_false,if_false]
def spaceB(s:ByteArray):ByteArray:=⟨(spB [] false s.data.toList).toArray⟩
theorem Zjy {s:ByteArray}{rs:List Nat}(ho:OkR rs)(h:s.data.toList=enc rs):spaceB s=ZlL s:=by apply Zda;rw[Zjv ho h];show(spB [] false s.data.toList).toArray.toList=_;rw[List.toList_toArray,Zlu,h];have:=(Zgs rs [] (fun g hg=>by cases hg)).1;simpa[ZaU,enc,nR]using this
theorem ZeC(s t:ByteArray)(i:Nat)(_h:i+t.size≤s.size):(s.extract i (i+t.size)=t)↔List.isPrefixOf t.data.toList (s.data.toList.drop i)=true:=by
 have e:(s.extract i (i+t.size)).data.toList=(s.data.toList.drop i).take t.size:=by simp[ByteArray.data_extract,List.take_drop]
 have ht:t.data.toList.length=t.size:=Array.length_toList;rw[List.isPrefixOf_iff_prefix];constructor
 ·intro h2;rw[h2]at e;rw[e];exact List.take_prefix _ _
 ·intro h2;apply Zda;rw[e,←ht];exact(List.prefix_iff_eq_take.1 h2).symm
theorem Zn1 {s t:ByteArray}{i:Nat}(h:i+t.size≤s.size)(h2:s.extract i (i+t.size)=t):Lib.contains s.data.toList t.data.toList=true:=by rw[Zbf];have hs:s.data.toList.length=s.size:=Array.length_toList;exact⟨i,by omega,(ZeC s t i h).1 h2⟩
theorem Zo6 {s t:ByteArray}(h:∀i,i+t.size≤s.size→s.extract i (i+t.size)≠t):Lib.contains s.data.toList t.data.toList=false:=by
 rcases Bool.eq_false_or_eq_true (Lib.contains s.data.toList t.data.toList)with h2|h2
 ·obtain⟨i,hi,ho⟩:=(Zbf _ _).1 h2;have hs:s.data.toList.length=s.size:=Array.length_toList;have ht:t.data.toList.length=t.size:=Array.length_toList;have ho2:List.isPrefixOf t.data.toList (s.data.toList.drop i)=true:=ho;have hle:=(List.isPrefixOf_iff_prefix.1 ho2).length_le;rw[List.length_drop]at hle;exact absurd ((ZeC s t i (by omega)).2 ho2) (h i (by omega))
 ·exact h2
theorem pre_iff {s t:ByteArray}:Lib.hasPrefix s.data.toList t.data.toList=true↔t.size≤s.size∧s.extract 0 t.size=t:=by
 have hs:s.data.toList.length=s.size:=Array.length_toList;have ht:t.data.toList.length=t.size:=Array.length_toList;unfold Lib.hasPrefix;constructor
 ·intro h;have hle:=(List.isPrefixOf_iff_prefix.1 h).length_le;refine⟨by omega,?_⟩;have:=(ZeC s t 0 (by omega)).2 (by simpa using h);simpa using this
 ·rintro⟨h1,h2⟩;have:=(ZeC s t 0 (by omega)).1 (by simpa using h2);simpa using this
theorem suf_iff {s t:ByteArray}:Lib.hasSuffix s.data.toList t.data.toList=true↔t.size≤s.size∧s.extract (s.size-t.size) (s.size-t.size+t.size)=t:=by
 have hs:s.data.toList.length=s.size:=Array.length_toList;have ht:t.data.toList.length=t.size:=Array.length_toList;unfold Lib.hasSuffix;rw[List.isSuffixOf_iff_suffix];constructor
 ·intro h;have hle:=h.length_le;refine⟨by omega,(ZeC s t _ (by omega)).2 ?_⟩;rw[List.isPrefixOf_iff_prefix];have:=List.suffix_iff_eq_drop.1 h;rw[hs,ht]at this;rw[←this];exact List.prefix_refl _
 ·rintro⟨h1,h2⟩;have h3:=List.isPrefixOf_iff_prefix.1 ((ZeC s t _ (by omega)).1 h2);have h4:t.data.toList=s.data.toList.drop (s.size-t.size):=h3.eq_of_length (by rw[List.length_drop];omega);rw[h4];exact List.drop_suffix _ _
theorem ZhO(n m:Int)(hn:R64 n)(hm:R64 m)(p:Int)(hp:0≤p)(hp2:p≤100000):(n≤p+1∧p+1<endV n m)↔(n≤p+1∧0<m∧p+1-n<m):=by
 unfold endV;unfold R64 at hn hm;unfold i64max;split
 ·omega
 ·rename_i h;have h2:fit (n+m)=false:=by simpa using h
  unfold fit at h2;simp only[decide_eq_false_iff_not]at h2;split<;>omega
end Go.Proofs.YtnnfhojhbbcbmaaGreatDoor
namespace Go.Proofs.YtnnfhojhbbcbmaaGreatDoor
set_option maxRecDepth 100000
set_option maxHeartbeats 4000000
open Go.RowKit
theorem Za5 {w:World}{ops:Array Oper}{rest:List Oper}{o:Oper}{ac:Act}{Q:Exit→Act→World→Prop}(hgd:o.guard=none)(sl x:Operand)
  (ho:o.op= .call {callee:= .builtin .append,args:=#[sl,x],argTypes:=#[61,9]})
  (B:Nat) (v:Value) (xs:List UInt8) (s:ByteArray) (hs:ac.eval sl=v) (hx:ac.eval x= .string s) (hown:OwB w B v xs) (hle:xs.length+s.size≤140737488355328) (hB:B≤w.heap.size)
  (K:∀v' w',OwB w' B v' (xs++s.data.toList)→w.grownBy w' v.ownBlock→wpList Tryz.prog ops Q rest (ac.put o.dst v') w'):
  wpList Tryz.prog ops Q (o::rest) ac w:=by
 obtain⟨i0,hi,hz0,hz1,hz2⟩:=info_parts Ziu;refine Lib.wpList_append_own_string w hgd sl x 61 9 ho B 5 i0 Tryz.underlying61 Tryz.underlying9 hi hz0 hz1 hz2 v xs.length (Lib.byteCells xs) hs hown s hx (by unfold maxLen;omega) hle hB fun v' w' h1 h2 _=>K v' w' ?_ h2;unfold OwB;have hsz:s.data.toList.length=s.size:=Array.length_toList;rw[List.length_append,hsz,show Lib.byteCells (xs++s.data.toList)=Lib.byteCells xs++Lib.strCells s from by simp[Lib.byteCells,Lib.strCells]];exact h1
theorem Z8(n:Int)(w:World):Calls Tryz.prog 70 #[.int .i64 n] w fun e w'=>∃v,e= .returned v∧OwI w' w.heap.size v [⟨2,n,⟨#[]⟩,0⟩]∧Below w.heap.size w w':=by have hk:=(Below.refl w.heap.size w).alloc (Nat.le_refl _) (.cells #[.int .u8 2,.int .i64 n,.string ⟨#[]⟩,.int .i64 0] 24);have hr:=OwI.one w w.heap.size (Nat.le_refl _) ⟨2,n,⟨#[]⟩,0⟩;go_enter Tryz.func70,Tryz.ntmps70;go_wp2;go_ret;exact⟨_,rfl,hr,hk⟩
theorem ZiT(s:ByteArray)(w:World):Calls Tryz.prog 192 #[.string s] w fun e w'=>∃v,e= .returned v∧OwI w' w.heap.size v [⟨3,0,s,0⟩]∧Below w.heap.size w w':=by have hk:=(Below.refl w.heap.size w).alloc (Nat.le_refl _) (.cells #[.int .u8 3,.int .i64 0,.string s,.int .i64 0] 24);have hr:=OwI.one w w.heap.size (Nat.le_refl _) ⟨3,0,s,0⟩;go_enter Tryz.func192,Tryz.ntmps192;go_wp2;go_ret;exact⟨_,rfl,hr,hk⟩
theorem ZT(b:Bool)(w:World):Calls Tryz.prog 80 #[.bool b] w fun e w'=>∃v,e= .returned v∧OwI w' w.heap.size v [⟨4,bN b,⟨#[]⟩,0⟩]∧Below w.heap.size w w':=by
 cases b with
 |true=>
  have hk:=(Below.refl w.heap.size w).alloc (Nat.le_refl _) (.cells #[.int .u8 4,.int .i64 1,.string ⟨#[]⟩,.int .i64 0] 24);have hr:=OwI.one w w.heap.size (Nat.le_refl _) ⟨4,1,⟨#[]⟩,0⟩;go_enter Tryz.func80,Tryz.ntmps80;go_wp2;go_ret;exact⟨_,rfl,hr,hk⟩
 |false=>
  have hk:=(Below.refl w.heap.size w).alloc (Nat.le_refl _) (.cells #[.int .u8 4,.int .i64 0,.string ⟨#[]⟩,.int .i64 0] 24);have hr:=OwI.one w w.heap.size (Nat.le_refl _) ⟨4,0,⟨#[]⟩,0⟩;go_enter Tryz.func80,Tryz.ntmps80;go_wp2;go_ret;exact⟨_,rfl,hr,hk⟩
theorem Zlv(s:ByteArray):joinB ⟨#[]⟩ [s]=s:=by show(⟨(List.intercalate [] [s.data.toList]).toArray⟩:ByteArray)=s;simp[List.intercalate]
theorem Zg7(s:ByteArray):joinR ⟨#[]⟩ [s]=if 65536<s.size then([],3)else([⟨3,0,s,0⟩],0):=by unfold joinR;rw[Zlv]
theorem Za0(s:ByteArray)(w:World):Calls Tryz.prog 142 #[.string s] w (Res w (joinR ⟨#[]⟩ [s]).1 (joinR ⟨#[]⟩ [s]).2):=by
 rw[Zg7];by_cases h:65536<s.size
 ·rw[if_pos h];have h1:(65536:Int)<(s.size:Int):=by omega
  clear h;go_enter Tryz.func142,Tryz.ntmps142;go_wp2;go_ret2;exact⟨.slice none 0 0,rfl,OwI.nil _ _,Below.refl _ _⟩
 ·rw[if_neg h];have h1:¬(65536:Int)<(s.size:Int):=by omega
  clear h;go_enter Tryz.func142,Tryz.ntmps142;go_wp2_with fail;refine(ZiT s _).mono ?_;rintro e w1 ⟨v,rfl,ho,hb⟩;have Ho:=Za ho;clear ho;go_wp2;go_ret2;exact⟨v,rfl,Ho.out,hb⟩
theorem Zip(s:ByteArray)(rs:List Nat)(w:World)(ho:OkR rs)(h:s.data.toList=enc rs)(hs:s.size≤140737488355328):Calls Tryz.prog 143 #[.string s] w fun e w'=>e= .returned (.int .i64 (rs.length:Int))∧w=w':=by
 have Ho:=Za ho;have Hs:=Za hs
 have hr:rs.length≤s.size:=by
  have h1:∀rs:List Nat,rs.length≤(enc rs).length:=by
   intro rs
   induction rs with
   |nil=>exact Nat.le_refl _
   |cons r t ih=>simp only[enc,List.length_append,List.length_cons];have:=Zan (r:Int);omega
  have h2:=h1 rs;rw[←h,show s.data.toList.length=s.size from Array.length_toList]at h2;exact h2
 have h0:s.data.toList.drop 0=enc rs:=by rw[List.drop_zero];exact h
 have H0:=Za h0;clear ho h h0 hs;go_enter Tryz.func143,Tryz.ntmps143;go_wp2_with fail;go_loopw[3,4] (fun nv av W=>∃(k m:Nat) (pre suf:List Nat),nv= .int .i64 m∧av= .int .i64 k∧m=pre.length∧Hid (rs=pre++suf)∧Hid (s.data.toList.drop k=enc suf)∧k≤s.size∧w=W) (fun _ av _=>s.size-(intOf av).toNat)
 case atStart=>exact⟨0,0,[],rs,rfl,rfl,rfl,Za rfl,H0,Nat.zero_le _,rfl⟩
 case round=>
  obtain⟨k,m,pre,suf,rfl,rfl,hm,Hp,Hd,hks,rfl⟩:=hrel;cases suf with
  |nil=>
   have hk:¬k<s.size:=by intro hk;have:=congrArg List.length Hd.out;rw[List.length_drop,show s.data.toList.length=s.size from Array.length_toList]at this;simp[enc]at this;omega
   have hI:¬(k:Int)<(s.size:Int):=by omega
   have hml:m=rs.length:=by rw[hm,Hp.out];simp
   have Hml:=Za hml;clear hk hm hml Hp Hd hr;go_wp2;go_ret;exact⟨by rw[←Hml.out];rfl,rfl⟩
  |cons r t=>
   have hok:ZbL r=true:=Ho.out r (by rw[Hp.out];simp);have hd1:s.data.toList.drop k=Lib.encodeRune (r:Int)++enc t:=Hd.out;obtain⟨hk,hle,hd2⟩:=ZdB hd1 (ZbT _);have hnx:=ZdS hok hd1;have hz:=Zan (r:Int);obtain⟨z,hzz⟩:∃z,z=(Lib.encodeRune (r:Int)).length:=⟨_,rfl⟩;rw[←hzz]at hle hd2 hnx hz;have hI:(k:Int)<(s.size:Int):=by omega
   have hN:=ZcV s k hk Hs.out w;rw[hnx]at hN;have HN:=Za hN;have Hd2:=Za hd2;have Hp2:Hid (rs=(pre++[r])++t):=by show _=_;rw[Hp.out];simp
   have hms:m<s.size:=by have:=congrArg List.length Hp.out;simp at this;omega
   have Hm:=Za hm;have hs:=Hs.out;clear hok hd1 hnx hN hd2 hzz Hp Hd hm hk hr;go_wp2_with fail;refine HN.out.mono ?_;rintro e w1 ⟨rfl,rfl⟩;go_wp2;go_roundw
   case rel=>exact⟨k+z,m+1,pre++[r],t,by simp,by simp,by rw[List.length_append,←Hm.out];rfl,Hp2,Hd2,by omega,by trivial⟩
   case measure=>simp[intOf];omega
theorem ZmG(s:ByteArray)(k:Nat)(h:k<s.size):bt s k=((s.data.toList[k]'(by rw[Array.length_toList];exact h)).toNat:Int):=by unfold bt;have h':k<s.data.size:=h;rw[Array.getElem?_eq_getElem h'];simp
theorem ZhP(s:ByteArray)(k:Nat)(h:k<s.size):∃b:UInt8,s.data.toList.drop k=b::s.data.toList.drop (k+1)∧bt s k=(b.toNat:Int):=by
 have hl:k<s.data.toList.length:=by rw[Array.length_toList];exact h
 exact⟨s.data.toList[k],List.drop_eq_getElem_cons hl,ZmG s k h⟩
theorem Zjz(s:ByteArray)(w:World)(hs:s.size≤140737488355328):Calls Tryz.prog 145 #[.string s,.int .u8 97,.int .u8 65] w fun e w'=>e= .returned (.string (turnB 97 65 s))∧Below w.heap.size w w':=by
 have HF:Hid (turnB 97 65 s=⟨(s.data.toList.map (tuB 97 65)).toArray⟩):=by show _=_;rfl
 go_enter Tryz.func145,Tryz.ntmps145;go_wp2_with fail;go_loopw[7,8] (fun ov iv W=>∃(k:Nat) (out:List UInt8),k≤s.size∧iv= .int .i64 k∧OwB W w.heap.size ov out∧Hid (out++(s.data.toList.drop k).map (tuB 97 65)=s.data.toList.map (tuB 97 65))∧out.length=k∧Below w.heap.size w W) (fun _ iv _=>s.size-(intOf iv).toNat)
 case atStart=>exact⟨0,[],Nat.zero_le _,rfl,OwB.nil _ _,Za (by simp),rfl,Below.refl _ _⟩
 case round=>
  obtain⟨k,out,hk,rfl,ho,HT,hol,hB⟩:=hrel;obtain⟨av,cv,hv⟩:=ho.forms;subst hv;have Ho:=Za ho;clear ho;obtain⟨m,hm⟩:∃m,m=out.length:=⟨_,rfl⟩;rw[←hm]at Ho hol⊢;have Hm:=Za hm;have Hol:=Za hol;clear hm hol;by_cases hlt:k<s.size
  ·have hI:(k:Int)<(s.size:Int):=by omega
   obtain⟨b,hd,hbt⟩:=ZhP s k hlt;have hrx:=Zal s k hlt k rfl;have HT2:Hid ((out++[tuB 97 65 b])++(s.data.toList.drop (k+1)).map (tuB 97 65)=s.data.toList.map (tuB 97 65)):=by show _=_;rw[←HT.out,hd];simp
   have hb256:b.toNat<256:=UInt8.toNat_lt b;obtain⟨z,hz⟩:∃z:Nat,z=b.toNat:=⟨_,rfl⟩;rw[←hz]at hbt hb256;rw[hbt]at hrx;have Hz:=Za hz;clear hd hbt HT hz;by_cases h1:97≤z∧z≤122
   ·have hV:((tuB 97 65 b).toNat:Int)=((z-97+65:Nat):Int):=by
     have hz2:=Hz.out;unfold tuB;rw[if_pos (by omega),UInt8.toNat_ofNat'];omega
    obtain⟨y,hy⟩:∃y:Nat,y=z-97+65:=⟨_,rfl⟩;rw[←hy]at hV;have HV:=Za hV;have g1:(97:Int)≤(z:Int):=by omega
    have g2:(z:Int)≤122:=by omega
    have g3:IntKind.u8.wrap ((z:Int)-97)=((z-97:Nat):Int):=by rw[IntKind.wrap_u8];omega
    have g4:IntKind.u8.wrap (((z-97:Nat):Int)+65)=(y:Int):=by rw[IntKind.wrap_u8];omega
    clear hV h1 hy;have hka:=(Below.refl wr.heap.size wr).alloc (Nat.le_refl _) (.cells #[.int .u8 ((tuB 97 65 b).toNat:Int)] 5);have HO2:=Za (OwB.keep Ho.out hka);have Hrd:=Za (Zbl wr ((tuB 97 65 b).toNat:Int) (tuB 97 65 b) rfl);have hbs:=hB.size;have hB0:=hB.alloc hB.size (.cells #[.int .u8 ((tuB 97 65 b).toNat:Int)] 5);rw[HV.out]at HO2 Hrd hB0;clear hka hB;go_wp2_with (at_builtin;refine Z4 rfl _ _ rfl w.heap.size (.slice av m cv) out (some ⟨wr.heap.size,0,none⟩) 1 1 [tuB 97 65 b] rfl rfl HO2.out Hrd.out rfl ?e3 ?e4 ?_)
    case e3=>have:=Hm.out;have:=Hol.out;simp;omega
    case e4=>first|exact hB0.size|omega
    intro v3 W3 own3 hg3 _;have hB3:Below w.heap.size w W3:=hB0.grown hg3 (by simp;omega) fun b hb=>(OwB.lt Ho.out b hb).1;have Hown3:=Za own3;clear own3 hg3 HO2 Hrd hB0 HV;go_wp2;go_roundw
    case rel=>exact⟨k+1,out++[tuB 97 65 b],by omega,by simp,Hown3.out,HT2,by have:=Hm.out;have:=Hol.out;simp;omega,hB3⟩
    case measure=>simp[intOf];omega
   ·have hV:((tuB 97 65 b).toNat:Int)=(z:Int):=by
     have hz2:=Hz.out;unfold tuB;rw[if_neg (by omega)];omega
    have HV:=Za hV;have g0:¬((97:Int)≤(z:Int)∧(z:Int)≤122):=by omega
    clear hV;by_cases g1:(97:Int)≤(z:Int)
    ·have g2:¬(z:Int)≤122:=by omega
     clear h1 g0;have hka:=(Below.refl wr.heap.size wr).alloc (Nat.le_refl _) (.cells #[.int .u8 ((tuB 97 65 b).toNat:Int)] 5);have HO2:=Za (OwB.keep Ho.out hka);have Hrd:=Za (Zbl wr ((tuB 97 65 b).toNat:Int) (tuB 97 65 b) rfl);have hbs:=hB.size;have hB0:=hB.alloc hB.size (.cells #[.int .u8 ((tuB 97 65 b).toNat:Int)] 5);rw[HV.out]at HO2 Hrd hB0;clear hka hB;go_wp2_with (at_builtin;refine Z4 rfl _ _ rfl w.heap.size (.slice av m cv) out (some ⟨wr.heap.size,0,none⟩) 1 1 [tuB 97 65 b] rfl rfl HO2.out Hrd.out rfl ?e3 ?e4 ?_)
     case e3=>have:=Hm.out;have:=Hol.out;simp;omega
     case e4=>first|exact hB0.size|omega
     intro v3 W3 own3 hg3 _;have hB3:Below w.heap.size w W3:=hB0.grown hg3 (by simp;omega) fun b hb=>(OwB.lt Ho.out b hb).1;have Hown3:=Za own3;clear own3 hg3 HO2 Hrd hB0 HV;go_wp2;go_roundw
     case rel=>exact⟨k+1,out++[tuB 97 65 b],by omega,by simp,Hown3.out,HT2,by have:=Hm.out;have:=Hol.out;simp;omega,hB3⟩
     case measure=>simp[intOf];omega
    ·clear h1 g0;have hka:=(Below.refl wr.heap.size wr).alloc (Nat.le_refl _) (.cells #[.int .u8 ((tuB 97 65 b).toNat:Int)] 5);have HO2:=Za (OwB.keep Ho.out hka);have Hrd:=Za (Zbl wr ((tuB 97 65 b).toNat:Int) (tuB 97 65 b) rfl);have hbs:=hB.size;have hB0:=hB.alloc hB.size (.cells #[.int .u8 ((tuB 97 65 b).toNat:Int)] 5);rw[HV.out]at HO2 Hrd hB0;clear hka hB;go_wp2_with (at_builtin;refine Z4 rfl _ _ rfl w.heap.size (.slice av m cv) out (some ⟨wr.heap.size,0,none⟩) 1 1 [tuB 97 65 b] rfl rfl HO2.out Hrd.out rfl ?e3 ?e4 ?_)
     case e3=>have:=Hm.out;have:=Hol.out;simp;omega
     case e4=>first|exact hB0.size|omega
     intro v3 W3 own3 hg3 _;have hB3:Below w.heap.size w W3:=hB0.grown hg3 (by simp;omega) fun b hb=>(OwB.lt Ho.out b hb).1;have Hown3:=Za own3;clear own3 hg3 HO2 Hrd hB0 HV;go_wp2;go_roundw
     case rel=>exact⟨k+1,out++[tuB 97 65 b],by omega,by simp,Hown3.out,HT2,by have:=Hm.out;have:=Hol.out;simp;omega,hB3⟩
     case measure=>simp[intOf];omega
  ·have hI:¬(k:Int)<(s.size:Int):=by omega
   have hx:out=s.data.toList.map (tuB 97 65):=by rw[←HT.out,List.drop_eq_nil_of_le (by rw[show s.data.toList.length=s.size from Array.length_toList];omega)];simp
   have hcv:=(OwB.rd Ho.out).str m cv Hm.out;have Hx:=Za hx;clear hx HT Ho;go_wp2;go_ret;exact⟨by rw[HF.out,←Hx.out];rfl,hB⟩
theorem Ziq(s:ByteArray)(w:World)(hs:s.size≤140737488355328):Calls Tryz.prog 145 #[.string s,.int .u8 65,.int .u8 97] w fun e w'=>e= .returned (.string (turnB 65 97 s))∧Below w.heap.size w w':=by
 have HF:Hid (turnB 65 97 s=⟨(s.data.toList.map (tuB 65 97)).toArray⟩):=by show _=_;rfl
 go_enter Tryz.func145,Tryz.ntmps145;go_wp2_with fail;go_loopw[7,8] (fun ov iv W=>∃(k:Nat) (out:List UInt8),k≤s.size∧iv= .int .i64 k∧OwB W w.heap.size ov out∧Hid (out++(s.data.toList.drop k).map (tuB 65 97)=s.data.toList.map (tuB 65 97))∧out.length=k∧Below w.heap.size w W) (fun _ iv _=>s.size-(intOf iv).toNat)
 case atStart=>exact⟨0,[],Nat.zero_le _,rfl,OwB.nil _ _,Za (by simp),rfl,Below.refl _ _⟩
 case round=>
  obtain⟨k,out,hk,rfl,ho,HT,hol,hB⟩:=hrel;obtain⟨av,cv,hv⟩:=ho.forms;subst hv;have Ho:=Za ho;clear ho;obtain⟨m,hm⟩:∃m,m=out.length:=⟨_,rfl⟩;rw[←hm]at Ho hol⊢;have Hm:=Za hm;have Hol:=Za hol;clear hm hol;by_cases hlt:k<s.size
  ·have hI:(k:Int)<(s.size:Int):=by omega
   obtain⟨b,hd,hbt⟩:=ZhP s k hlt;have hrx:=Zal s k hlt k rfl;have HT2:Hid ((out++[tuB 65 97 b])++(s.data.toList.drop (k+1)).map (tuB 65 97)=s.data.toList.map (tuB 65 97)):=by show _=_;rw[←HT.out,hd];simp
   have hb256:b.toNat<256:=UInt8.toNat_lt b;obtain⟨z,hz⟩:∃z:Nat,z=b.toNat:=⟨_,rfl⟩;rw[←hz]at hbt hb256;rw[hbt]at hrx;have Hz:=Za hz;clear hd hbt HT hz;by_cases h1:65≤z∧z≤90
   ·have hV:((tuB 65 97 b).toNat:Int)=((z-65+97:Nat):Int):=by
     have hz2:=Hz.out;unfold tuB;rw[if_pos (by omega),UInt8.toNat_ofNat'];omega
    obtain⟨y,hy⟩:∃y:Nat,y=z-65+97:=⟨_,rfl⟩;rw[←hy]at hV;have HV:=Za hV;have g1:(65:Int)≤(z:Int):=by omega
    have g2:(z:Int)≤90:=by omega
    have g3:IntKind.u8.wrap ((z:Int)-65)=((z-65:Nat):Int):=by rw[IntKind.wrap_u8];omega
    have g4:IntKind.u8.wrap (((z-65:Nat):Int)+97)=(y:Int):=by rw[IntKind.wrap_u8];omega
    clear hV h1 hy;have hka:=(Below.refl wr.heap.size wr).alloc (Nat.le_refl _) (.cells #[.int .u8 ((tuB 65 97 b).toNat:Int)] 5);have HO2:=Za (OwB.keep Ho.out hka);have Hrd:=Za (Zbl wr ((tuB 65 97 b).toNat:Int) (tuB 65 97 b) rfl);have hbs:=hB.size;have hB0:=hB.alloc hB.size (.cells #[.int .u8 ((tuB 65 97 b).toNat:Int)] 5);rw[HV.out]at HO2 Hrd hB0;clear hka hB;go_wp2_with (at_builtin;refine Z4 rfl _ _ rfl w.heap.size (.slice av m cv) out (some ⟨wr.heap.size,0,none⟩) 1 1 [tuB 65 97 b] rfl rfl HO2.out Hrd.out rfl ?e3 ?e4 ?_)
    case e3=>have:=Hm.out;have:=Hol.out;simp;omega
    case e4=>first|exact hB0.size|omega
    intro v3 W3 own3 hg3 _;have hB3:Below w.heap.size w W3:=hB0.grown hg3 (by simp;omega) fun b hb=>(OwB.lt Ho.out b hb).1;have Hown3:=Za own3;clear own3 hg3 HO2 Hrd hB0 HV;go_wp2;go_roundw
    case rel=>exact⟨k+1,out++[tuB 65 97 b],by omega,by simp,Hown3.out,HT2,by have:=Hm.out;have:=Hol.out;simp;omega,hB3⟩
    case measure=>simp[intOf];omega
   ·have hV:((tuB 65 97 b).toNat:Int)=(z:Int):=by
     have hz2:=Hz.out;unfold tuB;rw[if_neg (by omega)];omega
    have HV:=Za hV;have g0:¬((65:Int)≤(z:Int)∧(z:Int)≤90):=by omega
    clear hV;by_cases g1:(65:Int)≤(z:Int)
    ·have g2:¬(z:Int)≤90:=by omega
     clear h1 g0;have hka:=(Below.refl wr.heap.size wr).alloc (Nat.le_refl _) (.cells #[.int .u8 ((tuB 65 97 b).toNat:Int)] 5);have HO2:=Za (OwB.keep Ho.out hka);have Hrd:=Za (Zbl wr ((tuB 65 97 b).toNat:Int) (tuB 65 97 b) rfl);have hbs:=hB.size;have hB0:=hB.alloc hB.size (.cells #[.int .u8 ((tuB 65 97 b).toNat:Int)] 5);rw[HV.out]at HO2 Hrd hB0;clear hka hB;go_wp2_with (at_builtin;refine Z4 rfl _ _ rfl w.heap.size (.slice av m cv) out (some ⟨wr.heap.size,0,none⟩) 1 1 [tuB 65 97 b] rfl rfl HO2.out Hrd.out rfl ?e3 ?e4 ?_)
     case e3=>have:=Hm.out;have:=Hol.out;simp;omega
     case e4=>first|exact hB0.size|omega
     intro v3 W3 own3 hg3 _;have hB3:Below w.heap.size w W3:=hB0.grown hg3 (by simp;omega) fun b hb=>(OwB.lt Ho.out b hb).1;have Hown3:=Za own3;clear own3 hg3 HO2 Hrd hB0 HV;go_wp2;go_roundw
     case rel=>exact⟨k+1,out++[tuB 65 97 b],by omega,by simp,Hown3.out,HT2,by have:=Hm.out;have:=Hol.out;simp;omega,hB3⟩
     case measure=>simp[intOf];omega
    ·clear h1 g0;have hka:=(Below.refl wr.heap.size wr).alloc (Nat.le_refl _) (.cells #[.int .u8 ((tuB 65 97 b).toNat:Int)] 5);have HO2:=Za (OwB.keep Ho.out hka);have Hrd:=Za (Zbl wr ((tuB 65 97 b).toNat:Int) (tuB 65 97 b) rfl);have hbs:=hB.size;have hB0:=hB.alloc hB.size (.cells #[.int .u8 ((tuB 65 97 b).toNat:Int)] 5);rw[HV.out]at HO2 Hrd hB0;clear hka hB;go_wp2_with (at_builtin;refine Z4 rfl _ _ rfl w.heap.size (.slice av m cv) out (some ⟨wr.heap.size,0,none⟩) 1 1 [tuB 65 97 b] rfl rfl HO2.out Hrd.out rfl ?e3 ?e4 ?_)
     case e3=>have:=Hm.out;have:=Hol.out;simp;omega
     case e4=>first|exact hB0.size|omega
     intro v3 W3 own3 hg3 _;have hB3:Below w.heap.size w W3:=hB0.grown hg3 (by simp;omega) fun b hb=>(OwB.lt Ho.out b hb).1;have Hown3:=Za own3;clear own3 hg3 HO2 Hrd hB0 HV;go_wp2;go_roundw
     case rel=>exact⟨k+1,out++[tuB 65 97 b],by omega,by simp,Hown3.out,HT2,by have:=Hm.out;have:=Hol.out;simp;omega,hB3⟩
     case measure=>simp[intOf];omega
  ·have hI:¬(k:Int)<(s.size:Int):=by omega
   have hx:out=s.data.toList.map (tuB 65 97):=by rw[←HT.out,List.drop_eq_nil_of_le (by rw[show s.data.toList.length=s.size from Array.length_toList];omega)];simp
   have hcv:=(OwB.rd Ho.out).str m cv Hm.out;have Hx:=Za hx;clear hx HT Ho;go_wp2;go_ret;exact⟨by rw[HF.out,←Hx.out];rfl,hB⟩
end Go.Proofs.YtnnfhojhbbcbmaaGreatDoor
namespace Go.Proofs.YtnnfhojhbbcbmaaGreatDoor
open Go.RowKit
def Zdb(b:UInt8):Prop:=32≤b.toNat∧b.toNat<127
theorem ZbI:∀l:List UInt8,(∀b∈l,Zdb b)→∃rs,OkR rs∧l=enc rs
 | [],_=>⟨[],ZdR,rfl⟩
 |b::l,h=>by
  obtain⟨rs,h1,h2⟩:=ZbI l fun c hc=>h c (by simp[hc]);obtain⟨h3,h4⟩:=h b (by simp);refine⟨b.toNat::rs,?_,?_⟩
  ·intro r hr;rcases List.mem_cons.1 hr with rfl|hr
   ·exact ZmE h3 (by omega)
   ·exact h1 r hr
  ·rw[enc,Zcf (by omega),←h2];have:((b.toNat:Int)).toNat.toUInt8=b:=by simp
   rw[this];rfl
theorem Zg8:∀u:Nat,∀b∈Lib.decDigits u,Zdb b:=by
 intro u
 induction u using Nat.strongRecOn with
 |_ u ih=>
  intro b hb;rw[Lib.decDigits]at hb;split at hb
  ·rw[List.mem_singleton]at hb;subst hb;unfold Zdb;rw[UInt8.toNat_ofNat'];omega
  ·rcases List.mem_append.1 hb with hb|hb
   ·exact ih (u / 10) (by omega) b hb
   ·rw[List.mem_singleton]at hb;subst hb;unfold Zdb;rw[UInt8.toNat_ofNat'];omega
theorem ZjA(n:Int):∀b∈Lib.itoa n,Zdb b:=by
 intro b hb;unfold Lib.itoa at hb;split at hb
 ·rcases List.mem_cons.1 hb with rfl|hb
  ·unfold Zdb;decide
  ·exact Zg8 _ b hb
 ·exact Zg8 _ b hb
theorem Zlw {x:It}(h:okI x=true):∃rs,OkR rs∧(txt x).data.toList=enc rs:=by
 unfold txt;split
 ·exact ZbI _ (by
   intro b hb;have:b∈Lib.itoa x.num:=by simpa using hb
   exact ZjA _ b this)
 ·split
  ·split
   ·exact ZbI _ (by unfold Zdb;decide)
   ·exact ZbI _ (by unfold Zdb;decide)
  ·unfold okI at h;rw[Bool.and_eq_true]at h;exact Zmf h.2
theorem Zfv {l:List It}(h:l.all okI=true):∃rs,OkR rs∧(strV l).1.data.toList=enc rs:=by
 unfold strV;rw[if_pos h]
 match l,h with
 | [],_=>exact⟨[],ZdR,rfl⟩
 |x::r,h=>
  dsimp only;have hx:okI x=true:=by rw[List.all_eq_true]at h;exact h x (by simp)
  split
  ·exact Zlw hx
  ·exact⟨[],ZdR,rfl⟩
theorem Zaf {x:It}(h:okI x=true)(h4:x.kind=4):x.text=⟨#[]⟩:=by unfold okI at h;rw[h4]at h;simp at h;exact Zai (h.1.2.1)
end Go.Proofs.YtnnfhojhbbcbmaaGreatDoor
namespace Go.Proofs.YtnnfhojhbbcbmaaGreatDoor
open Go.RowKit
def cR(nm:List UInt8)(body:List Lst→List It×Int)(ls:List Lst):List It×Int:=if rightL ls=true then(if knV nm ls.length=true then body ls else([],241))else([],2)
end Go.Proofs.YtnnfhojhbbcbmaaGreatDoor
