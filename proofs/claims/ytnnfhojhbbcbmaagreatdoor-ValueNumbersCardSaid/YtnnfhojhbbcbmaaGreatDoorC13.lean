/- value.known at 'substring' of three. Plain law: a word stands in a row of words, blanks between them, just if it is one of them. value.known at any name. value.number and value.order at any items. -/
import Derived.Test.YtnnfhojhbbcbmaaGreatDoorC00
import Derived.Test.YtnnfhojhbbcbmaaGreatDoorC01
import Derived.Lib.IndexMore
import Derived.Test.YtnnfhojhbbcbmaaGreatDoorC05
import Derived.Test.YtnnfhojhbbcbmaaGreatDoorC07
import Derived.Test.YtnnfhojhbbcbmaaGreatDoorC06
import Derived.Lib.AppendIntMem
namespace Go.Proofs.YtnnfhojhbbcbmaaGreatDoor
open Go.RowKit
def cntS0:ByteArray:=⟨#[32,116,114,117,101,32,102,97,108,115,101,32]⟩
def cntS1:ByteArray:=⟨#[32,99,111,117,110,116,32,101,109,112,116,121,32,101,120,105,115,116,115,32,110,111,116,32,98,111,111,108,101,97,110,32,115,116,114,105,110,103,32,115,116,114,105,110,103,45,108,101,110,103,116,104,32,110,111,114,109,97,108,105,122,101,45,115,112,97,99,101,32,117,112,112,101,114,45,99,97,115,101,32,108,111,119,101,114,45,99,97,115,101,32,110,117,109,98,101,114,32,115,117,109,32,109,105,110,32,109,97,120,32,97,98,115,32,100,105,115,116,105,110,99,116,45,118,97,108,117,101,115,32,114,101,118,101,114,115,101,32]⟩
def cntS2:ByteArray:=⟨#[32,99,111,110,116,97,105,110,115,32,115,116,97,114,116,115,45,119,105,116,104,32,101,110,100,115,45,119,105,116,104,32]⟩
def cntS3:ByteArray:=⟨#[32,115,116,114,105,110,103,45,106,111,105,110,32]⟩
def cntS4:ByteArray:=⟨#[32,115,117,98,115,116,114,105,110,103,32]⟩
def cntS5:ByteArray:=⟨#[32,99,111,110,99,97,116,32]⟩
def cntC:List Value:=[.int .i64 0,.int .i64 0,.string cntS0,.int .i64 1,.int .i64 1,.string cntS1,.int .i64 2,.int .i64 2,.string cntS2,.int .i64 1,.int .i64 2,.string cntS3,.int .i64 2,.int .i64 3,.string cntS4,.int .i64 2,.int .i64 60,.string cntS5]
def Counts(w:World):Prop:=∀(j:Nat) v,cntC[j]? =some v→w.cell? ⟨0,j,none⟩=some v
theorem Counts.keep {w w':World}(h:Counts w)(hb:Below w.heap.size w w'):Counts w':=fun j v hv=>Zc hb (h j v hv)
theorem ZE(s sub:ByteArray)(b:Bool)(m:Int)(w:World)(hb:Lib.contains s.data.toList sub.data.toList=b)(hs:s.size<4294967281)(hm:w.cell? ⟨1,0,none⟩=some (.int .i64 m)):
  Calls Tryz.prog 52 #[.string s,.string sub] w fun e w'=>e= .returned (.bool b)∧Below w.heap.size w w':=by
 refine(Tryz.strings_Contains s sub m w hs hm).mono ?_;rintro e w' ⟨rfl,rfl⟩;exact⟨by rw[hb],Below.refl _ _⟩
end Go.Proofs.YtnnfhojhbbcbmaaGreatDoor
namespace Go.Proofs.YtnnfhojhbbcbmaaGreatDoor
theorem Zbf(s sub:List UInt8):Lib.contains s sub=true↔∃i,i≤s.length∧Lib.occAt s sub i=true:=by
 unfold Lib.contains;rw[decide_eq_true_eq];rcases Lib.index_spec s sub with⟨h1,h2⟩|⟨i,h1,h2,h3,_⟩
 ·rw[h1];constructor
  ·intro h;omega
  ·rintro⟨i,hi,ho⟩;rw[h2 i hi]at ho;cases ho
 ·rw[h1];exact⟨fun _=>⟨i,h2,h3⟩,fun _=>by omega⟩
def spW:List (List UInt8)→List UInt8
 | []=>[]
 |w::r=>w++32::spW r
def noB(w:List UInt8):Prop:=∀c∈w,c≠32
theorem ZhF:∀(x w t:List UInt8),noB x→noB w→(List.isPrefixOf (x++[32]) (w++32::t)=true↔x=w)
 | [],[],t,_,_=>by simp[List.isPrefixOf]
 | [],c::w,t,_,hw=>by
  have:=hw c (by simp);simp[List.isPrefixOf];exact fun e=>this e.symm
 |c::x,[],t,hx,_=>by
  have:=hx c (by simp);simp[List.isPrefixOf,this]
 |c::x,d::w,t,hx,hw=>by
  have ih:=ZhF x w t (fun e he=>hx e (by simp[he])) (fun e he=>hw e (by simp[he]));simp only[List.cons_append,List.isPrefixOf,Bool.and_eq_true,beq_iff_eq,List.cons.injEq,ih]
theorem ZgL(x:List UInt8)(hx:noB x):∀(W:List (List UInt8)),(∀w∈W,noB w)→((∃i,List.isPrefixOf (32::x++[32]) ((32::spW W).drop i)=true)↔x∈W)
 | [],_=>by
  constructor
  ·rintro⟨i,h⟩;exfalso
   match i with
   |0=>
    simp only[spW,List.drop_zero,List.cons_append,List.isPrefixOf,Bool.and_eq_true]at h;have:=h.2;cases x<;>simp at this
   |1=>simp[spW]at h
   |i+2=>simp[spW]at h
  ·intro h;cases h
 |w::r,hW=>by
  have ih:=ZgL x hx r (fun v hv=>hW v (by simp[hv]));have hw:=hW w (by simp);have hd:∀j,(32::spW (w::r)).drop (w.length+1+j)=(32::spW r).drop j:=by intro j;show(32::(w++32::spW r)).drop (w.length+1+j)=_;rw[show w.length+1+j=(w.length+j)+1 by omega,List.drop_succ_cons,List.drop_append,List.drop_eq_nil_of_le (by omega),List.nil_append];congr 1;omega
  constructor
  ·rintro⟨i,h⟩;rcases Nat.lt_or_ge w.length i with hi|hi
   ·obtain⟨j,rfl⟩:∃j,i=w.length+1+j:=⟨i-(w.length+1),by omega⟩;rw[hd]at h;exact List.mem_cons_of_mem _ (ih.1 ⟨j,h⟩)
   ·match i,hi,h with
    |0,_,h=>
     simp only[spW,List.drop_zero,List.cons_append,List.isPrefixOf,Bool.and_eq_true,beq_self_eq_true,true_and]at h;rw[(ZhF x w (spW r) hx hw).1 h];simp
    |i+1,hi,h=>
     exfalso;simp only[spW,List.drop_succ_cons]at h;rw[List.drop_append_of_le_length (by omega)]at h
     obtain⟨c,t,hct⟩:∃c t,w.drop i=c::t:=by
      cases hc:w.drop i with
      |nil=>have:=congrArg List.length hc;simp at this;omega
      |cons c t=>exact⟨c,t,rfl⟩
     rw[hct]at h;have hcm:c∈w:=List.mem_of_mem_drop (by rw[hct];simp);simp only[List.cons_append,List.isPrefixOf,Bool.and_eq_true,beq_iff_eq]at h;exact hw c hcm h.1.symm
  ·intro h;rcases List.mem_cons.1 h with rfl|h
   ·refine⟨0,?_⟩;simp only[spW,List.drop_zero,List.cons_append,List.isPrefixOf,Bool.and_eq_true,beq_self_eq_true,true_and];exact(ZhF x x (spW r) hx hx).2 rfl
   ·obtain⟨j,hj⟩:=ih.2 h;exact⟨w.length+1+j,by rw[hd];exact hj⟩
theorem ZeD(x:List UInt8)(hx:noB x)(W:List (List UInt8))(hW:∀w∈W,noB w):Lib.contains (32::spW W) (32::x++[32])=decide (x∈W):=by
 rw[Bool.eq_iff_iff,Zbf,decide_eq_true_eq,←ZgL x hx W hW];constructor
 ·rintro⟨i,_,h⟩;exact⟨i,by simpa[Lib.occAt]using h⟩
 ·rintro⟨i,h⟩;refine⟨i,?_,by simpa[Lib.occAt]using h⟩;rcases Nat.lt_or_ge (32::spW W).length i with hi|hi
  ·rw[List.drop_eq_nil_of_le (by omega)]at h;simp at h
  ·exact hi
theorem ZcC(x:List UInt8):Lib.contains x [32]=true↔¬noB x:=by
 rw[Zbf];unfold noB;constructor
 ·rintro⟨i,hi,h⟩ hn;have h:List.isPrefixOf [32] (x.drop i)=true:=by simpa[Lib.occAt]using h
  cases hd:x.drop i with
  |nil=>rw[hd]at h;simp[List.isPrefixOf]at h
  |cons c t=>
   rw[hd]at h;simp[List.isPrefixOf]at h;exact hn c (List.mem_of_mem_drop (by rw[hd];simp)) h.symm
 ·intro hn;have:∃c∈x,c=32:=by apply Classical.byContradiction;intro h;exact hn fun c hc e=>h ⟨c,hc,e⟩
  obtain⟨c,hc,rfl⟩:=this;obtain⟨a,b,rfl⟩:=List.append_of_mem hc;refine⟨a.length,by simp,?_⟩;simp[Lib.occAt,List.isPrefixOf]
end Go.Proofs.YtnnfhojhbbcbmaaGreatDoor
namespace Go.Proofs.YtnnfhojhbbcbmaaGreatDoor
open Go.RowKit
def wK0:List (List UInt8):=[[116,114,117,101],[102,97,108,115,101]]
def wK1:List (List UInt8):=[[99,111,117,110,116],[101,109,112,116,121],[101,120,105,115,116,115],[110,111,116],[98,111,111,108,101,97,110],[115,116,114,105,110,103],[115,116,114,105,110,103,45,108,101,110,103,116,104],[110,111,114,109,97,108,105,122,101,45,115,112,97,99,101],[117,112,112,101,114,45,99,97,115,101],[108,111,119,101,114,45,99,97,115,101],[110,117,109,98,101,114],[115,117,109],[109,105,110],[109,97,120],[97,98,115],[100,105,115,116,105,110,99,116,45,118,97,108,117,101,115],[114,101,118,101,114,115,101]]
def wK2:List (List UInt8):=[[99,111,110,116,97,105,110,115],[115,116,97,114,116,115,45,119,105,116,104],[101,110,100,115,45,119,105,116,104]]
def wK3:List (List UInt8):=[[115,116,114,105,110,103,45,106,111,105,110]]
def wK4:List (List UInt8):=[[115,117,98,115,116,114,105,110,103]]
def wK5:List (List UInt8):=[[99,111,110,99,97,116]]
def knV(name:List UInt8)(n:Nat):Bool:=
 if name∈wK0 then decide (0≤n)&&decide (n≤0)
 else if name∈wK1 then decide (1≤n)&&decide (n≤1)
 else if name∈wK2 then decide (2≤n)&&decide (n≤2)
 else if name∈wK3 then decide (1≤n)&&decide (n≤2)
 else if name∈wK4 then decide (2≤n)&&decide (n≤3)
 else if name∈wK5 then decide (2≤n)&&decide (n≤60)
 else false
theorem ZjR:∀w∈wK0,noB w:=by unfold noB;decide
theorem ZjS:∀w∈wK1,noB w:=by unfold noB;decide
theorem ZjT:∀w∈wK2,noB w:=by unfold noB;decide
theorem ZjU:∀w∈wK3,noB w:=by unfold noB;decide
theorem ZjV:∀w∈wK4,noB w:=by unfold noB;decide
theorem ZjW:∀w∈wK5,noB w:=by unfold noB;decide
theorem ZoK:cntS0.data.toList=32::spW wK0:=by kernel_rfl
theorem ZoL:cntS1.data.toList=32::spW wK1:=by kernel_rfl
theorem ZoM:cntS2.data.toList=32::spW wK2:=by kernel_rfl
theorem ZoN:cntS3.data.toList=32::spW wK3:=by kernel_rfl
theorem ZoO:cntS4.data.toList=32::spW wK4:=by kernel_rfl
theorem ZoP:cntS5.data.toList=32::spW wK5:=by kernel_rfl
theorem Ze1 {S:ByteArray}(h:S.data.toList=32::spW wK0):S.size<4294967281:=by rw[show S.size=S.data.toList.length from Array.length_toList.symm,h];decide+kernel
theorem Ze2 {S:ByteArray}(h:S.data.toList=32::spW wK1):S.size<4294967281:=by rw[show S.size=S.data.toList.length from Array.length_toList.symm,h];decide+kernel
theorem Ze3 {S:ByteArray}(h:S.data.toList=32::spW wK2):S.size<4294967281:=by rw[show S.size=S.data.toList.length from Array.length_toList.symm,h];decide+kernel
theorem Ze4 {S:ByteArray}(h:S.data.toList=32::spW wK3):S.size<4294967281:=by rw[show S.size=S.data.toList.length from Array.length_toList.symm,h];decide+kernel
theorem Ze5 {S:ByteArray}(h:S.data.toList=32::spW wK4):S.size<4294967281:=by rw[show S.size=S.data.toList.length from Array.length_toList.symm,h];decide+kernel
theorem Ze6 {S:ByteArray}(h:S.data.toList=32::spW wK5):S.size<4294967281:=by rw[show S.size=S.data.toList.length from Array.length_toList.symm,h];decide+kernel
theorem Zl7(name:ByteArray):((⟨#[32]⟩:ByteArray)++name++⟨#[32]⟩).data.toList=32::name.data.toList++[32]:=by simp[ByteArray.data_append]
theorem Zbm(name:ByteArray)(hn:noB name.data.toList)(S:ByteArray)(W:List (List UInt8))(hS:S.data.toList=32::spW W)(hW:∀w∈W,noB w)(b:Bool)(hb:decide (name.data.toList∈W)=b):
  Lib.contains S.data.toList ((⟨#[32]⟩:ByteArray)++name++⟨#[32]⟩).data.toList=b:=by
 rw[Zl7,hS,ZeD _ hn W hW,hb]
theorem Zj9 {name:List UInt8}{n:Nat}(h:¬noB name∨name=[]):knV name n=false:=by
 unfold knV
 have h0:∀W:List (List UInt8),(∀w∈W,noB w)→[]∉W→name∉W:=by
  intro W hW h2 hm;rcases h with h|h
  ·exact h (hW name hm)
  ·subst h;exact h2 hm
 rw[if_neg (h0 wK0 ZjR (by decide)),if_neg (h0 wK1 ZjS (by decide)),if_neg (h0 wK2 ZjT (by decide)),if_neg (h0 wK3 ZjU (by decide)),if_neg (h0 wK4 ZjV (by decide)),if_neg (h0 wK5 ZjW (by decide))]
theorem Zi8 {name:List UInt8}{n:Nat}(q:name∈wK0):knV name n=(decide (0≤n)&&decide (n≤0)):=by unfold knV;rw[if_pos q]
theorem Zbg {name:List UInt8}{n:Nat}(q0:name∉wK0)(q:name∈wK1):knV name n=(decide (1≤n)&&decide (n≤1)):=by unfold knV;rw[if_neg q0,if_pos q]
theorem ZlJ {name:List UInt8}{n:Nat}(q0:name∉wK0)(q1:name∉wK1)(q:name∈wK2):knV name n=(decide (2≤n)&&decide (n≤2)):=by unfold knV;rw[if_neg q0,if_neg q1,if_pos q]
theorem Zoo {name:List UInt8}{n:Nat}(q0:name∉wK0)(q1:name∉wK1)(q2:name∉wK2)(q:name∈wK3):knV name n=(decide (1≤n)&&decide (n≤2)):=by unfold knV;rw[if_neg q0,if_neg q1,if_neg q2,if_pos q]
theorem Zop {name:List UInt8}{n:Nat}(q0:name∉wK0)(q1:name∉wK1)(q2:name∉wK2)(q3:name∉wK3)(q:name∈wK4):knV name n=(decide (2≤n)&&decide (n≤3)):=by unfold knV;rw[if_neg q0,if_neg q1,if_neg q2,if_neg q3,if_pos q]
theorem Zoq {name:List UInt8}{n:Nat}(q0:name∉wK0)(q1:name∉wK1)(q2:name∉wK2)(q3:name∉wK3)(q4:name∉wK4)(q:name∈wK5):knV name n=(decide (2≤n)&&decide (n≤60)):=by unfold knV;rw[if_neg q0,if_neg q1,if_neg q2,if_neg q3,if_neg q4,if_pos q]
theorem ZmU {name:List UInt8}{n:Nat}(q0:name∉wK0)(q1:name∉wK1)(q2:name∉wK2)(q3:name∉wK3)(q4:name∉wK4)(q5:name∉wK5):knV name n=false:=by unfold knV;rw[if_neg q0,if_neg q1,if_neg q2,if_neg q3,if_neg q4,if_neg q5]
set_option maxRecDepth 100000 in
set_option maxHeartbeats 8000000 in
theorem ZI(name:ByteArray)(n:Nat)(m:Int)(w:World)(hm:w.cell? ⟨1,0,none⟩=some (.int .i64 m))(hc:Counts w)(hs:name.size<4294967281):
  Calls Tryz.prog 45 #[.string name,.int .i64 n] w fun e w'=>e= .returned (.bool (knV name.data.toList n))∧Below w.heap.size w w':=by
 have Hm:=Za hm;have Hc:=Za hc;have Hs:=Za hs;clear hm hc hs;by_cases he:name.data.toList=[]
 ·have h1:name.toList=[]:=by rw[ByteArray.toList_eq];exact he
  have h2:(name.toList== [])=true:=by rw[h1];rfl
  have h3:name.toList.isEmpty=true:=by rw[h1];rfl
  have HK:Hid (knV name.data.toList n=false):=Zj9 (.inr he);clear he h1;go_enter Tryz.func45,Tryz.ntmps45;go_wp2;go_ret;exact⟨by rw[HK.out];rfl,Below.refl _ _⟩
 have h1:name.toList≠ []:=by rw[ByteArray.toList_eq];exact he
 have h2:(name.toList== [])=false:=by simpa using h1
 have h3:name.toList.isEmpty=false:=by cases hl:name.toList with|nil=>exact absurd hl h1|cons _ _=>rfl
 clear he h1;by_cases hn:noB name.data.toList;rotate_left
 ·have HK:Hid (knV name.data.toList n=false):=Zj9 (.inl hn);have HB:Hid (Lib.contains name.data.toList (⟨#[32]⟩:ByteArray).data.toList=true):=(ZcC _).2 hn;clear hn;go_enter Tryz.func45,Tryz.ntmps45;go_wp2_with fail;refine(ZE _ _ true m _ HB.out Hs.out Hm.out).mono ?_;rintro e w1 ⟨rfl,hb1⟩;go_wp2;go_ret;exact⟨by rw[HK.out];rfl,hb1⟩
 have HB:Hid (Lib.contains name.data.toList (⟨#[32]⟩:ByteArray).data.toList=false):=by
  show _=_;rcases Bool.eq_false_or_eq_true (Lib.contains name.data.toList (⟨#[32]⟩:ByteArray).data.toList)with h|h
  ·exact absurd hn ((ZcC _).1 h)
  ·exact h
 have Hn:=Za hn;clear hn;go_enter Tryz.func45,Tryz.ntmps45;go_wp2_with fail;refine(ZE _ _ false m _ HB.out Hs.out Hm.out).mono ?_;rintro e w1 ⟨rfl,hb1⟩;have hns:name.size<4294967281:=Hs.out;have h32:(ByteArray.mk #[32]).size=1:=rfl;have h33:(ByteArray.mk #[32]++name).size=1+name.size:=by rw[ByteArray.size_append];rfl
 clear h2 h3;have c0:=Hc.out.keep hb1 0 _ rfl;have c1:=Hc.out.keep hb1 1 _ rfl;have c2:=Hc.out.keep hb1 2 _ rfl;have c3:=Hc.out.keep hb1 3 _ rfl;have c4:=Hc.out.keep hb1 4 _ rfl;have c5:=Hc.out.keep hb1 5 _ rfl;have c6:=Hc.out.keep hb1 6 _ rfl;have c7:=Hc.out.keep hb1 7 _ rfl;have c8:=Hc.out.keep hb1 8 _ rfl;have c9:=Hc.out.keep hb1 9 _ rfl;have c10:=Hc.out.keep hb1 10 _ rfl;have c11:=Hc.out.keep hb1 11 _ rfl;have c12:=Hc.out.keep hb1 12 _ rfl;have c13:=Hc.out.keep hb1 13 _ rfl;have c14:=Hc.out.keep hb1 14 _ rfl;have c15:=Hc.out.keep hb1 15 _ rfl;have c16:=Hc.out.keep hb1 16 _ rfl;have c17:=Hc.out.keep hb1 17 _ rfl;have ix0:∀W:World,(Instr.index 132 (.agg #[.int .i64 0,.int .i64 0,.string cntS0,.int .i64 1,.int .i64 1,.string cntS1,.int .i64 2,.int .i64 2,.string cntS2,.int .i64 1,.int .i64 2,.string cntS3,.int .i64 2,.int .i64 3,.string cntS4,.int .i64 2,.int .i64 60,.string cntS5]) (.int .i64 0)).run Tryz.prog W= .ok (.agg #[.int .i64 0,.int .i64 0,.string cntS0]) W:=fun _=>by kernel_rfl
 have ix1:∀W:World,(Instr.index 132 (.agg #[.int .i64 0,.int .i64 0,.string cntS0,.int .i64 1,.int .i64 1,.string cntS1,.int .i64 2,.int .i64 2,.string cntS2,.int .i64 1,.int .i64 2,.string cntS3,.int .i64 2,.int .i64 3,.string cntS4,.int .i64 2,.int .i64 60,.string cntS5]) (.int .i64 1)).run Tryz.prog W= .ok (.agg #[.int .i64 1,.int .i64 1,.string cntS1]) W:=fun _=>by kernel_rfl
 have ix2:∀W:World,(Instr.index 132 (.agg #[.int .i64 0,.int .i64 0,.string cntS0,.int .i64 1,.int .i64 1,.string cntS1,.int .i64 2,.int .i64 2,.string cntS2,.int .i64 1,.int .i64 2,.string cntS3,.int .i64 2,.int .i64 3,.string cntS4,.int .i64 2,.int .i64 60,.string cntS5]) (.int .i64 2)).run Tryz.prog W= .ok (.agg #[.int .i64 2,.int .i64 2,.string cntS2]) W:=fun _=>by kernel_rfl
 have ix3:∀W:World,(Instr.index 132 (.agg #[.int .i64 0,.int .i64 0,.string cntS0,.int .i64 1,.int .i64 1,.string cntS1,.int .i64 2,.int .i64 2,.string cntS2,.int .i64 1,.int .i64 2,.string cntS3,.int .i64 2,.int .i64 3,.string cntS4,.int .i64 2,.int .i64 60,.string cntS5]) (.int .i64 3)).run Tryz.prog W= .ok (.agg #[.int .i64 1,.int .i64 2,.string cntS3]) W:=fun _=>by kernel_rfl
 have ix4:∀W:World,(Instr.index 132 (.agg #[.int .i64 0,.int .i64 0,.string cntS0,.int .i64 1,.int .i64 1,.string cntS1,.int .i64 2,.int .i64 2,.string cntS2,.int .i64 1,.int .i64 2,.string cntS3,.int .i64 2,.int .i64 3,.string cntS4,.int .i64 2,.int .i64 60,.string cntS5]) (.int .i64 4)).run Tryz.prog W= .ok (.agg #[.int .i64 2,.int .i64 3,.string cntS4]) W:=fun _=>by kernel_rfl
 have ix5:∀W:World,(Instr.index 132 (.agg #[.int .i64 0,.int .i64 0,.string cntS0,.int .i64 1,.int .i64 1,.string cntS1,.int .i64 2,.int .i64 2,.string cntS2,.int .i64 1,.int .i64 2,.string cntS3,.int .i64 2,.int .i64 3,.string cntS4,.int .i64 2,.int .i64 60,.string cntS5]) (.int .i64 5)).run Tryz.prog W= .ok (.agg #[.int .i64 2,.int .i64 60,.string cntS5]) W:=fun _=>by kernel_rfl
 have Hw0:=Za ZoK;have Hw1:=Za ZoL;have Hw2:=Za ZoM;have Hw3:=Za ZoN;have Hw4:=Za ZoO;have Hw5:=Za ZoP;generalize cntS0=S0 at*;generalize cntS1=S1 at*;generalize cntS2=S2 at*;generalize cntS3=S3 at*;generalize cntS4=S4 at*;generalize cntS5=S5 at*;go_wp2_with fail;refine wp_loop_rounds 8 ?_;rw[rounds_succ];go_wp2_with fail;by_cases q0:name.data.toList∈wK0
 ·refine(ZE _ _ true m _ (Zbm name Hn.out _ wK0 Hw0.out ZjR _ (decide_eq_true q0)) ?s0 (Zc ((Below.refl _ _).alloc (by exact Nat.le_refl _) _) (Zc hb1 Hm.out))).mono ?_
  case s0=>exact Ze1 Hw0.out
  rintro e w2 ⟨rfl,hc2⟩;have hb2:=Zu hb1 hc2;have HK:=Za (Zi8 (n:=n) q0);have hk:=Blk.keep (Blk.new _ _ _) hc2;have d0:=hk.cell 0;have d1:=hk.cell 1;simp only[List.getElem?_toArray,List.getElem?_cons_zero,List.getElem?_cons_succ]at d0 d1;clear hk hc2;clear ix0 ix1 ix2 ix3 ix4 ix5 c0 c1 c2 c3 c4 c5 c6 c7 c8 c9 c10 c11 c12 c13 c14 c15 c16 c17;by_cases hz:n=0
  ·subst hz;go_wp2;go_ret;exact⟨by rw[HK.out];rfl,hb2⟩
  ·have g1:¬(n:Int)≤0:=by omega
   have g2:decide ((n:Int)≤0)=false:=decide_eq_false g1;have g3:decide (n=0)=false:=decide_eq_false hz;go_wp2;go_ret;exact⟨by rw[HK.out,show(decide (0≤n)&&decide (n≤0))=false from by simp;omega];rfl,hb2⟩
 refine(ZE _ _ false m _ (Zbm name Hn.out _ wK0 Hw0.out ZjR _ (decide_eq_false q0)) ?s0 (Zc ((Below.refl _ _).alloc (by exact Nat.le_refl _) _) (Zc hb1 Hm.out))).mono ?_
 case s0=>exact Ze1 Hw0.out
 rintro e w2 ⟨rfl,hc2⟩;have hb2:=Zu hb1 hc2;clear hc2;go_wp2_with fail;rw[rounds_succ];go_wp2_with fail;by_cases q1:name.data.toList∈wK1
 ·refine(ZE _ _ true m _ (Zbm name Hn.out _ wK1 Hw1.out ZjS _ (decide_eq_true q1)) ?s1 (Zc ((Below.refl _ _).alloc (by exact Nat.le_refl _) _) (Zc hb2 Hm.out))).mono ?_
  case s1=>exact Ze2 Hw1.out
  rintro e w3 ⟨rfl,hc3⟩;have hb3:=Zu hb2 hc3;have HK:=Za (Zbg q0 (n:=n) q1);have hk:=Blk.keep (Blk.new _ _ _) hc3;have d0:=hk.cell 0;have d1:=hk.cell 1;simp only[List.getElem?_toArray,List.getElem?_cons_zero,List.getElem?_cons_succ]at d0 d1;clear hk hc3;clear ix0 ix1 ix2 ix3 ix4 ix5 c0 c1 c2 c3 c4 c5 c6 c7 c8 c9 c10 c11 c12 c13 c14 c15 c16 c17;by_cases ha:1≤n
  ·have g1:(1:Int)≤(n:Int):=by omega
   by_cases hb:n≤1
   ·have g2:(n:Int)≤1:=by omega
    go_wp2;go_ret;exact⟨by rw[HK.out,show(decide (1≤n)&&decide (n≤1))=true from by simp;omega];rfl,hb3⟩
   ·have g2:decide ((n:Int)≤1)=false:=by simp;omega
    have g3:decide (n≤1)=false:=decide_eq_false hb;go_wp2;go_ret;exact⟨by rw[HK.out,show(decide (1≤n)&&decide (n≤1))=false from by simp;omega];rfl,hb3⟩
  ·have g1:decide ((1:Int)≤(n:Int))=false:=by simp;omega
   have g3:decide (1≤n)=false:=decide_eq_false ha;go_wp2;go_ret;exact⟨by rw[HK.out,show(decide (1≤n)&&decide (n≤1))=false from by simp;omega];rfl,hb3⟩
 refine(ZE _ _ false m _ (Zbm name Hn.out _ wK1 Hw1.out ZjS _ (decide_eq_false q1)) ?s1 (Zc ((Below.refl _ _).alloc (by exact Nat.le_refl _) _) (Zc hb2 Hm.out))).mono ?_
 case s1=>exact Ze2 Hw1.out
 rintro e w3 ⟨rfl,hc3⟩;have hb3:=Zu hb2 hc3;clear hc3;go_wp2_with fail;rw[rounds_succ];go_wp2_with fail;by_cases q2:name.data.toList∈wK2
 ·refine(ZE _ _ true m _ (Zbm name Hn.out _ wK2 Hw2.out ZjT _ (decide_eq_true q2)) ?s2 (Zc ((Below.refl _ _).alloc (by exact Nat.le_refl _) _) (Zc hb3 Hm.out))).mono ?_
  case s2=>exact Ze3 Hw2.out
  rintro e w4 ⟨rfl,hc4⟩;have hb4:=Zu hb3 hc4;have HK:=Za (ZlJ q0 q1 (n:=n) q2);have hk:=Blk.keep (Blk.new _ _ _) hc4;have d0:=hk.cell 0;have d1:=hk.cell 1;simp only[List.getElem?_toArray,List.getElem?_cons_zero,List.getElem?_cons_succ]at d0 d1;clear hk hc4;clear ix0 ix1 ix2 ix3 ix4 ix5 c0 c1 c2 c3 c4 c5 c6 c7 c8 c9 c10 c11 c12 c13 c14 c15 c16 c17;by_cases ha:2≤n
  ·have g1:(2:Int)≤(n:Int):=by omega
   by_cases hb:n≤2
   ·have g2:(n:Int)≤2:=by omega
    go_wp2;go_ret;exact⟨by rw[HK.out,show(decide (2≤n)&&decide (n≤2))=true from by simp;omega];rfl,hb4⟩
   ·have g2:decide ((n:Int)≤2)=false:=by simp;omega
    have g3:decide (n≤2)=false:=decide_eq_false hb;go_wp2;go_ret;exact⟨by rw[HK.out,show(decide (2≤n)&&decide (n≤2))=false from by simp;omega];rfl,hb4⟩
  ·have g1:decide ((2:Int)≤(n:Int))=false:=by simp;omega
   have g3:decide (2≤n)=false:=decide_eq_false ha;go_wp2;go_ret;exact⟨by rw[HK.out,show(decide (2≤n)&&decide (n≤2))=false from by simp;omega];rfl,hb4⟩
 refine(ZE _ _ false m _ (Zbm name Hn.out _ wK2 Hw2.out ZjT _ (decide_eq_false q2)) ?s2 (Zc ((Below.refl _ _).alloc (by exact Nat.le_refl _) _) (Zc hb3 Hm.out))).mono ?_
 case s2=>exact Ze3 Hw2.out
 rintro e w4 ⟨rfl,hc4⟩;have hb4:=Zu hb3 hc4;clear hc4;go_wp2_with fail;rw[rounds_succ];go_wp2_with fail;by_cases q3:name.data.toList∈wK3
 ·refine(ZE _ _ true m _ (Zbm name Hn.out _ wK3 Hw3.out ZjU _ (decide_eq_true q3)) ?s3 (Zc ((Below.refl _ _).alloc (by exact Nat.le_refl _) _) (Zc hb4 Hm.out))).mono ?_
  case s3=>exact Ze4 Hw3.out
  rintro e w5 ⟨rfl,hc5⟩;have hb5:=Zu hb4 hc5;have HK:=Za (Zoo q0 q1 q2 (n:=n) q3);have hk:=Blk.keep (Blk.new _ _ _) hc5;have d0:=hk.cell 0;have d1:=hk.cell 1;simp only[List.getElem?_toArray,List.getElem?_cons_zero,List.getElem?_cons_succ]at d0 d1;clear hk hc5;clear ix0 ix1 ix2 ix3 ix4 ix5 c0 c1 c2 c3 c4 c5 c6 c7 c8 c9 c10 c11 c12 c13 c14 c15 c16 c17;by_cases ha:1≤n
  ·have g1:(1:Int)≤(n:Int):=by omega
   by_cases hb:n≤2
   ·have g2:(n:Int)≤2:=by omega
    go_wp2;go_ret;exact⟨by rw[HK.out,show(decide (1≤n)&&decide (n≤2))=true from by simp;omega];rfl,hb5⟩
   ·have g2:decide ((n:Int)≤2)=false:=by simp;omega
    have g3:decide (n≤2)=false:=decide_eq_false hb;go_wp2;go_ret;exact⟨by rw[HK.out,show(decide (1≤n)&&decide (n≤2))=false from by simp;omega];rfl,hb5⟩
  ·have g1:decide ((1:Int)≤(n:Int))=false:=by simp;omega
   have g3:decide (1≤n)=false:=decide_eq_false ha;go_wp2;go_ret;exact⟨by rw[HK.out,show(decide (1≤n)&&decide (n≤2))=false from by simp;omega];rfl,hb5⟩
 refine(ZE _ _ false m _ (Zbm name Hn.out _ wK3 Hw3.out ZjU _ (decide_eq_false q3)) ?s3 (Zc ((Below.refl _ _).alloc (by exact Nat.le_refl _) _) (Zc hb4 Hm.out))).mono ?_
 case s3=>exact Ze4 Hw3.out
 rintro e w5 ⟨rfl,hc5⟩;have hb5:=Zu hb4 hc5;clear hc5;go_wp2_with fail;rw[rounds_succ];go_wp2_with fail;by_cases q4:name.data.toList∈wK4
 ·refine(ZE _ _ true m _ (Zbm name Hn.out _ wK4 Hw4.out ZjV _ (decide_eq_true q4)) ?s4 (Zc ((Below.refl _ _).alloc (by exact Nat.le_refl _) _) (Zc hb5 Hm.out))).mono ?_
  case s4=>exact Ze5 Hw4.out
  rintro e w6 ⟨rfl,hc6⟩;have hb6:=Zu hb5 hc6;have HK:=Za (Zop q0 q1 q2 q3 (n:=n) q4);have hk:=Blk.keep (Blk.new _ _ _) hc6;have d0:=hk.cell 0;have d1:=hk.cell 1;simp only[List.getElem?_toArray,List.getElem?_cons_zero,List.getElem?_cons_succ]at d0 d1;clear hk hc6;clear ix0 ix1 ix2 ix3 ix4 ix5 c0 c1 c2 c3 c4 c5 c6 c7 c8 c9 c10 c11 c12 c13 c14 c15 c16 c17;by_cases ha:2≤n
  ·have g1:(2:Int)≤(n:Int):=by omega
   by_cases hb:n≤3
   ·have g2:(n:Int)≤3:=by omega
    go_wp2;go_ret;exact⟨by rw[HK.out,show(decide (2≤n)&&decide (n≤3))=true from by simp;omega];rfl,hb6⟩
   ·have g2:decide ((n:Int)≤3)=false:=by simp;omega
    have g3:decide (n≤3)=false:=decide_eq_false hb;go_wp2;go_ret;exact⟨by rw[HK.out,show(decide (2≤n)&&decide (n≤3))=false from by simp;omega];rfl,hb6⟩
  ·have g1:decide ((2:Int)≤(n:Int))=false:=by simp;omega
   have g3:decide (2≤n)=false:=decide_eq_false ha;go_wp2;go_ret;exact⟨by rw[HK.out,show(decide (2≤n)&&decide (n≤3))=false from by simp;omega];rfl,hb6⟩
 refine(ZE _ _ false m _ (Zbm name Hn.out _ wK4 Hw4.out ZjV _ (decide_eq_false q4)) ?s4 (Zc ((Below.refl _ _).alloc (by exact Nat.le_refl _) _) (Zc hb5 Hm.out))).mono ?_
 case s4=>exact Ze5 Hw4.out
 rintro e w6 ⟨rfl,hc6⟩;have hb6:=Zu hb5 hc6;clear hc6;go_wp2_with fail;rw[rounds_succ];go_wp2_with fail;by_cases q5:name.data.toList∈wK5
 ·refine(ZE _ _ true m _ (Zbm name Hn.out _ wK5 Hw5.out ZjW _ (decide_eq_true q5)) ?s5 (Zc ((Below.refl _ _).alloc (by exact Nat.le_refl _) _) (Zc hb6 Hm.out))).mono ?_
  case s5=>exact Ze6 Hw5.out
  rintro e w7 ⟨rfl,hc7⟩;have hb7:=Zu hb6 hc7;have HK:=Za (Zoq q0 q1 q2 q3 q4 (n:=n) q5);have hk:=Blk.keep (Blk.new _ _ _) hc7;have d0:=hk.cell 0;have d1:=hk.cell 1;simp only[List.getElem?_toArray,List.getElem?_cons_zero,List.getElem?_cons_succ]at d0 d1;clear hk hc7;clear ix0 ix1 ix2 ix3 ix4 ix5 c0 c1 c2 c3 c4 c5 c6 c7 c8 c9 c10 c11 c12 c13 c14 c15 c16 c17;by_cases ha:2≤n
  ·have g1:(2:Int)≤(n:Int):=by omega
   by_cases hb:n≤60
   ·have g2:(n:Int)≤60:=by omega
    go_wp2;go_ret;exact⟨by rw[HK.out,show(decide (2≤n)&&decide (n≤60))=true from by simp;omega];rfl,hb7⟩
   ·have g2:decide ((n:Int)≤60)=false:=by simp;omega
    have g3:decide (n≤60)=false:=decide_eq_false hb;go_wp2;go_ret;exact⟨by rw[HK.out,show(decide (2≤n)&&decide (n≤60))=false from by simp;omega];rfl,hb7⟩
  ·have g1:decide ((2:Int)≤(n:Int))=false:=by simp;omega
   have g3:decide (2≤n)=false:=decide_eq_false ha;go_wp2;go_ret;exact⟨by rw[HK.out,show(decide (2≤n)&&decide (n≤60))=false from by simp;omega];rfl,hb7⟩
 refine(ZE _ _ false m _ (Zbm name Hn.out _ wK5 Hw5.out ZjW _ (decide_eq_false q5)) ?s5 (Zc ((Below.refl _ _).alloc (by exact Nat.le_refl _) _) (Zc hb6 Hm.out))).mono ?_
 case s5=>exact Ze6 Hw5.out
 rintro e w7 ⟨rfl,hc7⟩;have hb7:=Zu hb6 hc7;clear hc7;have HK:=Za (ZmU (n:=n) q0 q1 q2 q3 q4 q5);clear ix0 ix1 ix2 ix3 ix4 ix5 c0 c1 c2 c3 c4 c5 c6 c7 c8 c9 c10 c11 c12 c13 c14 c15 c16 c17;go_wp2_with fail;rw[rounds_succ];go_wp2;go_ret;exact⟨by rw[HK.out];rfl,hb7⟩
end Go.Proofs.YtnnfhojhbbcbmaaGreatDoor
namespace Go.Proofs.YtnnfhojhbbcbmaaGreatDoor
set_option maxRecDepth 100000
set_option maxHeartbeats 4000000
open Go.RowKit
structure Env (w:World):Prop where
 t8:Tabs8 w
 pow:Lib.TabIs Tryz.prog w "internal/strconv.uint64pow10" .u64 Lib.pow10Tab
 syn:∃ev,w.cell? ⟨5,0,none⟩=some ev∧(ev= .nilIface∨∃te pe,ev= .iface te pe)
 rng:∃ev,w.cell? ⟨6,0,none⟩=some ev∧(ev= .nilIface∨∃te pe,ev= .iface te pe)
theorem ZfD {w w':World}{name:String}{k:IntKind}{zs:List Int}(h:Lib.TabIs Tryz.prog w name k zs)(hb:Below w.heap.size w w'):Lib.TabIs Tryz.prog w' name k zs:=by
 unfold Lib.TabIs World.var? at*;cases hg:Tryz.prog.globalNamed name with
 |none=>rw[hg]at h;simp at h
 |some g=>
  rw[hg]at h;simp only[Option.bind_some]at h⊢;cases ho:w.heap[g]? with
  |none=>rw[ho]at h;simp at h
  |some o=>
   have:=ZcP ho hb;rw[ho]at h;rw[this];exact h
theorem Env.keep {w w':World}(h:Env w)(hb:Below w.heap.size w w'):Env w':=
 ⟨h.t8.keep hb,ZfD h.pow hb,let ⟨ev,h1,h2⟩:=h.syn;⟨ev,Zc hb h1,h2⟩,let ⟨ev,h1,h2⟩:=h.rng;⟨ev,Zc hb h1,h2⟩⟩
theorem Ze7 {l:List UInt8}{v:Int}(h:Lib.parseIntB 64 l= .ok v):R64 v:=by
 unfold Lib.parseIntB at h;unfold R64;split at h
 ·cases h
 ·dsimp only at h;split at h
  ·cases h
  ·cases h
  ·split at h
   ·cases h
   ·split at h
    ·cases h
    ·injection h with h;rename_i h1 h2;subst h;split
     ·rename_i h3;have:¬(2 ^ (64-1)<_):=fun h4=>h2 ⟨h3,h4⟩;omega
     ·rename_i h3;have:¬(2 ^ (64-1)≤_):=fun h4=>h1 ⟨h3,h4⟩;omega
def whB(s:ByteArray):Bool:=match Lib.parseIntB 64 s.data.toList with
 | .ok v=>decide ((⟨(Lib.itoa v).toArray⟩:ByteArray).toList=s.toList)
 |_=>false
def whN(s:ByteArray):Int:=match Lib.parseIntB 64 s.data.toList with
 | .ok v=>if (⟨(Lib.itoa v).toArray⟩:ByteArray).toList=s.toList then v else 0
 |_=>0
theorem ZkT(s:ByteArray)(w:World)(he:Env w)(hs:s.size≤140737488355328):
  Calls Tryz.prog 115 #[.string s] w fun e w'=>e= .returned (.tuple #[.int .i64 (whN s),.bool (whB s)])∧Below w.heap.size w w':=by
 have He:=Za he;clear he;cases hp:Lib.parseIntB 64 s.data.toList with
 |ok v=>
  have HR:=Za (Ze7 hp);by_cases hq:(⟨(Lib.itoa v).toArray⟩:ByteArray).toList=s.toList
  ·have HN:Hid (whN s=v):=by show whN s=v;unfold whN;rw[hp];exact if_pos hq
   have HB:Hid (whB s=true):=by show whB s=true;unfold whB;rw[hp];exact decide_eq_true hq
   have Hp:=Za hp;clear hp;go_enter Tryz.func115,Tryz.ntmps115;go_wp2_with fail;refine(Tryz.strconv_ParseInt_10_at64_ok s (by omega) v Hp.out _).mono ?_;rintro e w1 ⟨rfl,hw1⟩
   have hb1:Below w.heap.size w w1:=by
    rcases hw1 with rfl|⟨t,rfl⟩
    ·exact Below.refl _ _
    ·exact Go.Joins.below_bytesWorld _ _ _ _ (Nat.le_refl _)
   clear hw1;go_wp2_with fail;refine(Tryz.strconv_FormatInt_10 v HR.out.1 HR.out.2 _ (ZfD He.out.pow hb1)).mono ?_;rintro e w2 ⟨rfl,k2,os2,hw2⟩;have hb2:Below w.heap.size w w2:=by rw[hw2];exact Zb hb1 (Lib.below_grow _ _ (Nat.le_refl _) _ _)
   clear hw2;generalize (⟨(Lib.itoa v).toArray⟩:ByteArray)=tx at*;go_wp2;go_ret2;exact⟨by rw[HN.out,HB.out];rfl,hb2⟩
  ·have hqb:((⟨(Lib.itoa v).toArray⟩:ByteArray).toList==s.toList)=false:=by simpa using hq
   have HN:Hid (whN s=0):=by show whN s=0;unfold whN;rw[hp];exact if_neg hq
   have HB:Hid (whB s=false):=by show whB s=false;unfold whB;rw[hp];exact decide_eq_false hq
   clear hq;have Hp:=Za hp;clear hp;go_enter Tryz.func115,Tryz.ntmps115;go_wp2_with fail;refine(Tryz.strconv_ParseInt_10_at64_ok s (by omega) v Hp.out _).mono ?_;rintro e w1 ⟨rfl,hw1⟩
   have hb1:Below w.heap.size w w1:=by
    rcases hw1 with rfl|⟨t,rfl⟩
    ·exact Below.refl _ _
    ·exact Go.Joins.below_bytesWorld _ _ _ _ (Nat.le_refl _)
   clear hw1;go_wp2_with fail;refine(Tryz.strconv_FormatInt_10 v HR.out.1 HR.out.2 _ (ZfD He.out.pow hb1)).mono ?_;rintro e w2 ⟨rfl,k2,os2,hw2⟩;have hb2:Below w.heap.size w w2:=by rw[hw2];exact Zb hb1 (Lib.below_grow _ _ (Nat.le_refl _) _ _)
   clear hw2;generalize (⟨(Lib.itoa v).toArray⟩:ByteArray)=tx at*;go_wp2;go_ret2;exact⟨by rw[HN.out,HB.out];rfl,hb2⟩
 |range=>
  have HN:Hid (whN s=0):=by show whN s=0;unfold whN;rw[hp]
  have HB:Hid (whB s=false):=by show whB s=false;unfold whB;rw[hp]
  have Hp:=Za hp;clear hp;obtain⟨ev,hv,hev⟩:=He.out.rng;go_enter Tryz.func115,Tryz.ntmps115;go_wp2_with fail;refine(Tryz.strconv_ParseInt_10_at64_range s (by omega) Hp.out ev _ hv hev).mono ?_;rintro e w1 ⟨N,rfl,_,_,hb1⟩;go_wp2;go_ret2;exact⟨by rw[HN.out,HB.out];rfl,hb1⟩
 |_=>
  have HN:Hid (whN s=0):=by show whN s=0;unfold whN;rw[hp]
  have HB:Hid (whB s=false):=by show whB s=false;unfold whB;rw[hp]
  have Hp:=Za hp;clear hp;obtain⟨ev,hv,hev⟩:=He.out.syn;go_enter Tryz.func115,Tryz.ntmps115;go_wp2_with fail;refine(Tryz.strconv_ParseInt_10_at64_syntax s (by omega) Hp.out ev _ hv hev).mono ?_;rintro e w1 ⟨N,rfl,_,_,hb1⟩;go_wp2;go_ret2;exact⟨by rw[HN.out,HB.out];rfl,hb1⟩
def nV(x:It):Int:=if x.kind=2 then x.num else whN x.text
def nE(x:It):Int:=if x.kind=2 then 0 else if whB x.text=true then 0 else 250
theorem ZfU {s:ByteArray}(h:whB s=false):whN s=0:=by
 unfold whB at h;unfold whN;split
 ·rename_i v hv;rw[hv]at h;exact if_neg (by simpa using h)
 ·rfl
theorem Zax(k:Nat)(n d:Int)(s:ByteArray)(w:World)(he:Env w)(hs:s.size≤140737488355328):
  Calls Tryz.prog 67 #[.agg #[.int .u8 k,.int .i64 n,.string s,.int .i64 d]] w fun e w'=>e= .returned (.tuple #[.int .i64 (nV ⟨k,n,s,d⟩),.int .i64 (nE ⟨k,n,s,d⟩)])∧Below w.heap.size w w':=by
 by_cases hk:k=2
 ·subst hk;exact Zi3 n d s w
 ·have hk1:((k:Int)==2)=false:=by simpa using(show(k:Int)≠2 by omega)
  have HN:Hid (nV ⟨k,n,s,d⟩=whN s):=by show _=_;unfold nV;exact if_neg hk
  have HE:Hid (nE ⟨k,n,s,d⟩=if whB s=true then 0 else 250):=by show _=_;unfold nE;exact if_neg hk
  have hz:=(Below.refl w.heap.size w).alloc (Nat.le_refl _) (.cells #[.int .u8 k,.int .i64 n,.string s,.int .i64 d] 24);have He:=Za (he.keep hz);clear he hk;go_enter Tryz.func67,Tryz.ntmps67;go_wp2_with fail;refine(ZkT s _ He.out hs).mono ?_;rintro e w1 ⟨rfl,hb1⟩;have hB1:=Zb hz hb1;clear hb1 hz;rcases Bool.eq_false_or_eq_true (whB s)with hb|hb
  ·rw[hb]at HE⊢;go_wp2;go_ret2;exact⟨by rw[HN.out,HE.out];rfl,hB1⟩
  ·have hN:=Za (ZfU hb);rw[hb]at HE⊢;go_wp2;go_ret2;exact⟨by rw[HN.out,HE.out,hN.out];rfl,hB1⟩
def Zeh(x y:ByteArray):Int:=if Op.bytesLess x.toList y.toList=true then-1 else if (x.toList==y.toList)=true then 0 else 1
theorem Zl8(x y:ByteArray)(w:World):Calls Tryz.prog 109 #[.string x,.string y] w fun e w'=>e= .returned (.int .i64 (Zeh x y))∧w=w':=by
 by_cases h1:Op.bytesLess x.toList y.toList=true
 ·have H:Hid (Zeh x y= -1):=by show _=_;unfold Zeh;exact if_pos h1
  go_enter Tryz.func109,Tryz.ntmps109;go_wp2_with (go_at_call 163;refine(ZfB _ _).mono ?_;rintro e w' ⟨rfl,rfl⟩);go_ret;exact⟨by rw[H.out];rfl,rfl⟩
 ·have h1f:Op.bytesLess x.toList y.toList=false:=by simpa using h1
  by_cases h2:(x.toList==y.toList)=true
  ·have H:Hid (Zeh x y=0):=by show _=_;unfold Zeh;rw[if_neg h1,if_pos h2]
   clear h1;go_enter Tryz.func109,Tryz.ntmps109;go_wp2_with (go_at_call 163;refine(ZfB _ _).mono ?_;rintro e w' ⟨rfl,rfl⟩);go_ret;exact⟨by rw[H.out];rfl,rfl⟩
  ·have H:Hid (Zeh x y=1):=by show _=_;unfold Zeh;rw[if_neg h1,if_neg h2]
   have h2f:(x.toList==y.toList)=false:=by simpa using h2
   clear h1 h2;go_enter Tryz.func109,Tryz.ntmps109;go_wp2_with (go_at_call 163;refine(ZfB _ _).mono ?_;rintro e w' ⟨rfl,rfl⟩);go_ret;exact⟨by rw[H.out];rfl,rfl⟩
end Go.Proofs.YtnnfhojhbbcbmaaGreatDoor
