/- awake, is: by what holds at any input. ValueHolds: the walk. ValueMakes, ValueOnce: rows that calls hand out, one behind the other. -/
import Derived.Test.YtnnfhojhbbcbmaaGreatDoorC02
import Derived.Test.YtnnfhojhbbcbmaaGreatDoorC08
import Derived.Test.YtnnfhojhbbcbmaaGreatDoorC25
import Derived.Test.YtnnfhojhbbcbmaaGreatDoorC29
import Derived.Test.YtnnfhojhbbcbmaaGreatDoorC17
import Derived.Test.YtnnfhojhbbcbmaaGreatDoorC21
import Derived.Test.YtnnfhojhbbcbmaaGreatDoorC06
import Derived.Test.YtnnfhojhbbcbmaaGreatDoorC23
namespace Go.Proofs.YtnnfhojhbbcbmaaGreatDoor
set_option maxRecDepth 100000
set_option maxHeartbeats 8000000
open Go.RowKit
theorem Fine.ok {w:World}{p:Option Addr}{l:List It}{c:Nat}(hf:Fine l)(h:RdI w p l):OkA w ⟨p,l,c⟩:=⟨h,fun y hy=>Nat.le_trans (hf.s y hy) (by decide),Nat.lt_of_le_of_lt hf.n (by decide)⟩
theorem Zek {op:ByteArray}{hf:Int→Bool}{pa pb:Option Addr}{na nb ca cb:Nat}{la lb:List It}{w:World}{a:Bool}{b:Int}(he:Env w)(hh:Zkk op hf)(fa:Fine la)(fb:Fine lb)(ha:RdI w pa la)(hb:RdI w pb lb)(hna:na=la.length)(hnb:nb=lb.length)(hv:ZbN hf ⟨none,la,0⟩ ⟨none,lb,0⟩=(a,b)):
  Calls Tryz.prog 20 #[.string op,.slice pa na ca,.slice pb nb cb] w fun e w'=>e= .returned (.tuple #[.bool a,.int .i64 b])∧Below w.heap.size w w':=by
 have h:=Zat op hf pa pb na nb ca cb la lb w he hh (fa.ok ha) (fb.ok hb) hna hnb;rw[show ZbN hf ⟨pa,la,ca⟩ ⟨pb,lb,cb⟩=(a,b)from hv]at h;exact h
theorem Zlf {p:Option Addr}{n c:Nat}{l:List It}{w:World}{a:Bool}{b:Int}(he:Env w)(fa:Fine l)(ha:RdI w p l)(hn:n=l.length)(hv:truthV l=(a,b)):
  Calls Tryz.prog 22 #[.slice p n c] w fun e w'=>e= .returned (.tuple #[.bool a,.int .i64 b])∧Below w.heap.size w w':=by
 have h:=ZcW p n c l w he (fa.ok ha) hn;rw[hv]at h;exact h
theorem ZnO {s:ByteArray}{f:Int→Int→Int×Int}(hf:OpF s f)(k1 k2:Nat)(a1 a2 d1 d2 n:Int)(t1 t2:ByteArray)(w:World)(he:Env w)(h1:Fine [⟨k1,a1,t1,d1⟩])(h2:Fine [⟨k2,a2,t2,d2⟩])(hv:arV f [⟨k1,a1,t1,d1⟩] [⟨k2,a2,t2,d2⟩]=([⟨2,n,⟨#[]⟩,0⟩],0)):
  Calls Tryz.prog 16 #[.string s,.agg #[.int .u8 k1,.int .i64 a1,.string t1,.int .i64 d1],.agg #[.int .u8 k2,.int .i64 a2,.string t2,.int .i64 d2],.int .i64 n] w fun e w'=>e= .returned (.bool true)∧Below w.heap.size w w':=by
 have Ha:Hid (∀(g1 g2:Nat) (W:World),Below w.heap.size w W→RdI W (some ⟨g1,0,none⟩) [⟨k1,a1,t1,d1⟩]→RdI W (some ⟨g2,0,none⟩) [⟨k2,a2,t2,d2⟩]→Calls Tryz.prog 29 #[.string s,.slice (some ⟨g1,0,none⟩) 1 1,.slice (some ⟨g2,0,none⟩) 1 1] W fun e w'=>∃x:Nat×Nat,e= .returned (.tuple #[.slice (some ⟨x.1,0,none⟩) 1 x.2,.int .i64 0])∧RdI w' (some ⟨x.1,0,none⟩) [⟨2,n,⟨#[]⟩,0⟩]∧Below W.heap.size W w'):=by intro g1 g2 W hW r1 r2;have h:=Zec s _ hf.p hf.eleven (some ⟨g1,0,none⟩) (some ⟨g2,0,none⟩) 1 1 1 1 _ _ W (he.keep hW) (h1.ok r1) (h2.ok r2) h1.r h2.r rfl rfl;rw[hv]at h;refine h.mono ?_;rintro e w' ⟨v,rfl,ho,hb⟩;obtain⟨g,cap,rfl,_,_,_⟩:=Z9 ho (by simp);exact⟨(g,cap),rfl,OwI.rd ho,hb⟩
 clear he h1 h2 hv hf;have x_a:Blk ((w.alloc (.cells #[.int .u8 k1,.int .i64 a1,.string t1,.int .i64 d1] 24)).alloc (.cells #[.int .u8 k2,.int .i64 a2,.string t2,.int .i64 d2] 24)) w.heap.size 24 #[.int .u8 k1,.int .i64 a1,.string t1,.int .i64 d1]:=(Blk.new w _ _).alloc _;have x_b:Blk ((w.alloc (.cells #[.int .u8 k1,.int .i64 a1,.string t1,.int .i64 d1] 24)).alloc (.cells #[.int .u8 k2,.int .i64 a2,.string t2,.int .i64 d2] 24)) (w.heap.size+1) 24 #[.int .u8 k2,.int .i64 a2,.string t2,.int .i64 d2]:=by have:=Blk.new (w.alloc (.cells #[.int .u8 k1,.int .i64 a1,.string t1,.int .i64 d1] 24)) 24 #[.int .u8 k2,.int .i64 a2,.string t2,.int .i64 d2];simpa using this
 have hB:Below w.heap.size w ((w.alloc (.cells #[.int .u8 k1,.int .i64 a1,.string t1,.int .i64 d1] 24)).alloc (.cells #[.int .u8 k2,.int .i64 a2,.string t2,.int .i64 d2] 24)):=((Below.refl _ _).alloc (Nat.le_refl _) _).alloc (by simp) _;go_enter Tryz.func16,Tryz.ntmps16;go_wp2_with fail;generalize ((w.alloc (.cells #[.int .u8 k1,.int .i64 a1,.string t1,.int .i64 d1] 24)).alloc (.cells #[.int .u8 k2,.int .i64 a2,.string t2,.int .i64 d2] 24))=w1 at*;refine wp_region_facts (R:=RB w1.heap.size (⟨#[]⟩) (0)) [eqF _ _ _ 12 (.string s),eqF _ _ _ 13 (.agg #[.int .u8 k1,.int .i64 a1,.string t1,.int .i64 d1]),Zob w1.heap.size ⟨#[]⟩ 0 14 1 1 [⟨k1,a1,t1,d1⟩],Zob w1.heap.size ⟨#[]⟩ 0 15 1 1 [⟨k1,a1,t1,d1⟩],eqF _ _ _ 16 (.agg #[.int .u8 k2,.int .i64 a2,.string t2,.int .i64 d2]),Zob w1.heap.size ⟨#[]⟩ 0 17 1 1 [⟨k2,a2,t2,d2⟩],Zob w1.heap.size ⟨#[]⟩ 0 18 1 1 [⟨k2,a2,t2,d2⟩],Zcx w1.heap.size ⟨#[]⟩ 0 19 (fun x:Nat×Nat=> .tuple #[.slice (some ⟨x.1,0,none⟩) 1 x.2,.int .i64 0]) (fun x W=>RdI W (some ⟨x.1,0,none⟩) [⟨2,n,⟨#[]⟩,0⟩]) (fun _ _ _ h k=>h.rdi k),Zcx w1.heap.size ⟨#[]⟩ 0 11 (fun x:Nat×Nat=> .tuple #[.slice (some ⟨x.1,0,none⟩) 1 x.2,.int .i64 0]) (fun x W=>RdI W (some ⟨x.1,0,none⟩) [⟨2,n,⟨#[]⟩,0⟩]) (fun _ _ _ h k=>h.rdi k),Zcx w1.heap.size ⟨#[]⟩ 0 20 (fun x:Nat×Nat=> .slice (some ⟨x.1,0,none⟩) 1 x.2) (fun x W=>RdI W (some ⟨x.1,0,none⟩) [⟨2,n,⟨#[]⟩,0⟩]) (fun _ _ _ h k=>h.rdi k),eqF _ _ _ 21 (.int .i64 0),Zcx w1.heap.size ⟨#[]⟩ 0 9 (fun x:Nat×Nat=> .slice (some ⟨x.1,0,none⟩) 1 x.2) (fun x W=>RdI W (some ⟨x.1,0,none⟩) [⟨2,n,⟨#[]⟩,0⟩]) (fun _ _ _ h k=>h.rdi k),eqF _ _ _ 10 (.int .i64 0)] (by kernel_rfl) (by kernel_rfl) (by kernel_rfl) (RB.refl (Nat.le_refl _)) (fun _ h=>h.again) (fun _ _ _ h k=>h.trans k) ?_ ?_
 ·refine stepsU_cons rfl ?_ (stepsU_cons rfl ?_ (stepsU_cons rfl ?_ (stepsU_cons rfl ?_ (stepsU_cons rfl ?_ (stepsU_cons rfl ?_ (stepsU_cons rfl ?_ (stepsU_cons rfl ?_ (stepsU_cons rfl ?_ (stepsU_cons rfl ?_ (stepsU_cons rfl ?_ (stepsU_cons rfl ?_ (stepsU_cons rfl ?_ (stepsU_nil)))))))))))))
  ·refine stepU_plain rfl fun u wr hR hK hD=>?_;exact Zd _ _ rfl (hK 0 rfl) ⟨hR.again,rfl⟩
  ·refine stepU_plain rfl fun u wr hR hK hD=>?_;exact Zef _ _ _ _ _ _ rfl (hK 5 rfl) (hR.old x_a.lt x_a) ⟨hR.again,rfl⟩
  ·refine stepU_plain rfl fun u wr hR hK hD=>?_;exact Zch _ _ _ _ _ rfl (hD 1 rfl) ⟨hR.next ((Below.refl _ _).alloc (Nat.le_refl _) _),⟨_,rfl,Nat.le_trans hR.hB hR.be.size,RdI.new _ _ [⟨k1,a1,t1,d1⟩]⟩⟩
  ·refine stepU_plain rfl fun u wr hR hK hD=>?_;obtain⟨g,h1,h2,h3⟩:=(hD 2 rfl);exact Zav _ _ _ Tryz.func9 (by kernel_rfl) rfl h1 ((Zz _ _ _ _).mono fun e wn ⟨he,hw⟩=>⟨_,he,by subst hw;exact⟨hR.again,⟨g,rfl,h2,h3⟩⟩⟩)
  ·refine stepU_plain rfl fun u wr hR hK hD=>?_;exact Zef _ _ _ _ _ _ rfl (hK 6 rfl) (hR.old x_b.lt x_b) ⟨hR.again,rfl⟩
  ·refine stepU_plain rfl fun u wr hR hK hD=>?_;exact Zch _ _ _ _ _ rfl (hD 4 rfl) ⟨hR.next ((Below.refl _ _).alloc (Nat.le_refl _) _),⟨_,rfl,Nat.le_trans hR.hB hR.be.size,RdI.new _ _ [⟨k2,a2,t2,d2⟩]⟩⟩
  ·refine stepU_plain rfl fun u wr hR hK hD=>?_;obtain⟨g,h1,h2,h3⟩:=(hD 5 rfl);exact Zav _ _ _ Tryz.func9 (by kernel_rfl) rfl h1 ((Zz _ _ _ _).mono fun e wn ⟨he,hw⟩=>⟨_,he,by subst hw;exact⟨hR.again,⟨g,rfl,h2,h3⟩⟩⟩)
  ·refine stepU_plain rfl fun u wr hR hK hD=>?_;obtain⟨g1,h1,h2,h3⟩:=(hD 3 rfl);obtain⟨g2,m1,m2,m3⟩:=(hD 6 rfl);exact Zbs _ _ _ _ _ _ _ Tryz.func29 (by kernel_rfl) rfl (hD 0 rfl) h1 m1 ((Ha.out g1 g2 wr (Zah hB.drew hB.size hR.be) h3 m3).mono fun e wn ⟨x,he,hr,hb⟩=>⟨_,he,hR.next hb,⟨x,rfl,hr⟩⟩)
  ·refine stepU_plain rfl fun u wr hR hK hD=>?_;obtain⟨x,h1,h2⟩:=(hD 7 rfl);exact Zd _ _ rfl h1 ⟨hR.again,⟨x,rfl,h2⟩⟩
  ·refine stepU_plain rfl fun u wr hR hK hD=>?_;obtain⟨x,h1,h2⟩:=(hD 8 rfl);exact Zaz _ 0 _ _ rfl h1 rfl ⟨hR.again,⟨x,rfl,h2⟩⟩
  ·refine stepU_plain rfl fun u wr hR hK hD=>?_;obtain⟨x,h1,h2⟩:=(hD 8 rfl);exact Zaz _ 1 _ _ rfl h1 rfl ⟨hR.again,rfl⟩
  ·refine stepU_plain rfl fun u wr hR hK hD=>?_;obtain⟨x,h1,h2⟩:=(hD 9 rfl);exact ZA _ _ rfl h1 ⟨hR.again,⟨x,rfl,h2⟩⟩
  ·refine stepU_plain rfl fun u wr hR hK hD=>?_;exact ZA _ _ rfl (hD 10 rfl) ⟨hR.again,rfl⟩
 intro u w2 hR hF;have e12:u 12= .string s:=hF 0 (by decide);have e13:u 13= .agg #[.int .u8 k1,.int .i64 a1,.string t1,.int .i64 d1]:=hF 1 (by decide);have e16:u 16= .agg #[.int .u8 k2,.int .i64 a2,.string t2,.int .i64 d2]:=hF 4 (by decide);have e21:u 21= .int .i64 0:=hF 10 (by decide);have e10:u 10= .int .i64 0:=hF 12 (by decide);obtain⟨a14,e14,p14,r14⟩:=hF 2 (by decide);obtain⟨a15,e15,p15,r15⟩:=hF 3 (by decide);obtain⟨a17,e17,p17,r17⟩:=hF 5 (by decide);obtain⟨a18,e18,p18,r18⟩:=hF 6 (by decide);obtain⟨⟨a19,p19⟩,e19,r19⟩:=hF 7 (by decide);dsimp only at e19 r19;obtain⟨⟨a11,p11⟩,e11,r11⟩:=hF 8 (by decide);dsimp only at e11 r11;obtain⟨⟨a20,p20⟩,e20,r20⟩:=hF 9 (by decide);dsimp only at e20 r20;obtain⟨⟨a9,p9⟩,e9,r9⟩:=hF 11 (by decide);dsimp only at e9 r9;simp only[ZaW,Act.put,List.setIfInBounds_toArray,List.set_cons_succ,List.set_cons_zero,e12,e13,e14,e15,e16,e17,e18,e19,e11,e20,e21,e9,e10];clear hF e12 e13 e14 e15 e16 e17 e18 e19 e11 e20 e21 e9 e10;have hB2:Below w.heap.size w w2:=Zah hB.drew hB.size hR.be;have hb_w2:Below w1.heap.size w1 w2:=⟨hR.be.os,hR.be.tape,hR.be.output,hR.be.size,hR.be.block⟩;clear hB hR;have hB:=hB2;clear hB2;have R9:=Za r9;clear r9 r20 r19 r18 r17 r15 r14 r11 p18 p17 p15 p14 Ha;go_wp2_with fail;refine(Zw n _).mono ?_;rintro e w3 ⟨rfl,hb3⟩;have hB3:=Zb hB hb3;have R93:=Za (R9.out.keep hb3);clear hb3 R9;go_wp2_with fail;refine(Zz _ _ _ _).mono ?_;rintro e w4 ⟨rfl,rfl⟩;go_wp2_with fail;refine(Zba _ _ 1 _ _ [⟨2,n,⟨#[]⟩,0⟩] _ (R93.out.alloc _) (RdI.new w3 24 [⟨2,n,⟨#[]⟩,0⟩]) rfl (by decide)).mono ?_;rintro e w5 ⟨rfl,hb5⟩;have hB5:=Zu hB3 hb5;clear hb5;go_wp2;go_ret;exact⟨rfl,hB5⟩
def lOto:List Lst:=[⟨none,[⟨3,0,⟨#[109,111,116,111,114]⟩,0⟩],1⟩,⟨none,[⟨2,2,⟨#[]⟩,0⟩],1⟩,⟨none,[⟨2,3,⟨#[]⟩,0⟩],1⟩]
theorem Zo1:Zes lOto=([⟨3,0,⟨#[111,116,111]⟩,0⟩],0):=by kernel_rfl
theorem ZnP(a b c p:Option Addr)(m:Int)(w:World)(he:Env w)(hm:w.cell? ⟨1,0,none⟩=some (.int .i64 m))(hc:Counts w)(hr:Rd w p [.slice a 1 1,.slice b 1 1,.slice c 1 1])(h1:RdI w a [⟨3,0,⟨#[109,111,116,111,114]⟩,0⟩])(h2:RdI w b [⟨2,2,⟨#[]⟩,0⟩])(h3:RdI w c [⟨2,3,⟨#[]⟩,0⟩]):
  Calls Tryz.prog 14 #[.string ⟨#[115,117,98,115,116,114,105,110,103]⟩,.slice p 3 3] w fun e w'=>∃g cap,e= .returned (.tuple #[.slice (some ⟨g,0,none⟩) 1 cap,.int .i64 0])∧RdI w' (some ⟨g,0,none⟩) [⟨3,0,⟨#[111,116,111]⟩,0⟩]∧Below w.heap.size w w':=by
 have f1:Fine [⟨3,0,⟨#[109,111,116,111,114]⟩,0⟩]:=ZG (by decide+kernel);have f2:Fine [⟨2,2,⟨#[]⟩,0⟩]:=ZG (by decide+kernel);have f3:Fine [⟨2,3,⟨#[]⟩,0⟩]:=ZG (by decide+kernel)
 have hall:∀x∈([⟨a,[⟨3,0,⟨#[109,111,116,111,114]⟩,0⟩],1⟩,⟨b,[⟨2,2,⟨#[]⟩,0⟩],1⟩,⟨c,[⟨2,3,⟨#[]⟩,0⟩],1⟩]:List Lst),RdI w x.a x.l∧Fine x.l:=by
  intro x hx;simp only[List.mem_cons,List.not_mem_nil,or_false]at hx;rcases hx with rfl|rfl|rfl
  ·exact⟨h1,f1⟩
  ·exact⟨h2,f2⟩
  ·exact⟨h3,f3⟩
 have h:=ZgT p 3 3 [⟨a,[⟨3,0,⟨#[109,111,116,111,114]⟩,0⟩],1⟩,⟨b,[⟨2,2,⟨#[]⟩,0⟩],1⟩,⟨c,[⟨2,3,⟨#[]⟩,0⟩],1⟩] m w he hm hc hr (fun x hx=>(hall x hx).2.ok (hall x hx).1) (fun x hx=>(hall x hx).2.r) (fun x hx=>(hall x hx).2.s) rfl (by decide);rw[show Zes [⟨a,[⟨3,0,⟨#[109,111,116,111,114]⟩,0⟩],1⟩,⟨b,[⟨2,2,⟨#[]⟩,0⟩],1⟩,⟨c,[⟨2,3,⟨#[]⟩,0⟩],1⟩]=([⟨3,0,⟨#[111,116,111]⟩,0⟩],0)from Zo1]at h;refine h.mono ?_;rintro e w' ⟨v,rfl,ho,hb⟩;obtain⟨g,cap,rfl,_,_,_⟩:=Z9 ho (by decide);exact⟨g,cap,rfl,OwI.rd ho,hb⟩
theorem ZaY(m:Int)(w:World)(he:Env w)(hm:w.cell? ⟨1,0,none⟩=some (.int .i64 m))(hc:Counts w):
  Calls Tryz.prog 17 #[] w fun e w'=>e= .returned (.bool true)∧Below w.heap.size w w':=by
 have He:=Za he;have Hm:=Za hm;have Hc:=Za hc;clear hm hc he;have hB0:=Below.refl w.heap.size w;go_enter Tryz.func17,Tryz.ntmps17;go_wp2_with fail;refine(Zw 1 _).mono ?_;rintro e w1 ⟨rfl,hb1⟩;have hB1:Below w.heap.size w w1:=by first|exact Zb hB0 hb1|exact Zu hB0 hb1|exact Z3 hB0 hb1
 go_wp2_with fail;refine(ZbW 3 ⟨#[50]⟩ _).mono ?_;rintro e w2 ⟨rfl,hb2⟩;have hB2:Below w.heap.size w w2:=by first|exact Zb hB1 hb2|exact Zu hB1 hb2|exact Z3 hB1 hb2
 clear hb1 hb2 hB1;go_wp2_with fail;refine(Zz _ _ _ _).mono ?_;rintro e wx ⟨rfl,rfl⟩;go_wp2_with fail;refine(Zad ⟨#[50]⟩ _).mono ?_;rintro e w3 ⟨rfl,hb3⟩;have hB3:Below w.heap.size w w3:=by first|exact Zb hB2 hb3|exact Zu hB2 hb3|exact Z3 hB2 hb3
 have R3:=Za ((RdI.new w2 24 [⟨2,1,⟨#[]⟩,0⟩,⟨1,0,⟨#[50]⟩,3⟩]).keep hb3);clear hb3 hB2;go_wp2_with fail;refine(Zz _ _ _ _).mono ?_;rintro e wx ⟨rfl,rfl⟩;go_wp2_with fail;refine(Zek (la:=[⟨2,1,⟨#[]⟩,0⟩,⟨1,0,⟨#[50]⟩,3⟩]) (lb:=[⟨3,0,⟨#[50]⟩,0⟩]) (He.out.keep (hB3.alloc hB3.size _)) sEq (ZG (by decide+kernel)) (ZG (by decide+kernel)) (R3.out.alloc _) (RdI.new w3 24 [⟨3,0,⟨#[50]⟩,0⟩]) rfl rfl (show _=(true,0) by kernel_rfl)).mono ?_;rintro e w4 ⟨rfl,hb4⟩;have hB4:Below w.heap.size w w4:=by first|exact Zb hB3 hb4|exact Zu hB3 hb4|exact Z3 hB3 hb4
 clear hb4 hB3 R3;go_wp2_with fail;refine(Zw 1 _).mono ?_;rintro e w5 ⟨rfl,hb5⟩;have hB5:Below w.heap.size w w5:=by first|exact Zb hB4 hb5|exact Zu hB4 hb5|exact Z3 hB4 hb5
 clear hb5 hB4;go_wp2_with fail;refine(Zz _ _ _ _).mono ?_;rintro e wx ⟨rfl,rfl⟩;go_wp2_with fail;refine(Zad ⟨#[120]⟩ _).mono ?_;rintro e w6 ⟨rfl,hb6⟩;have hB6:Below w.heap.size w w6:=by first|exact Zb hB5 hb6|exact Zu hB5 hb6|exact Z3 hB5 hb6
 have R6:=Za ((RdI.new w5 24 [⟨2,1,⟨#[]⟩,0⟩]).keep hb6);clear hb6 hB5;go_wp2_with fail;refine(Zz _ _ _ _).mono ?_;rintro e wx ⟨rfl,rfl⟩;go_wp2_with fail;refine(Zek (la:=[⟨2,1,⟨#[]⟩,0⟩]) (lb:=[⟨3,0,⟨#[120]⟩,0⟩]) (He.out.keep (hB6.alloc hB6.size _)) sLt (ZG (by decide+kernel)) (ZG (by decide+kernel)) (R6.out.alloc _) (RdI.new w6 24 [⟨3,0,⟨#[120]⟩,0⟩]) rfl rfl (show _=(false,250) by kernel_rfl)).mono ?_;rintro e w7 ⟨rfl,hb7⟩;have hB7:Below w.heap.size w w7:=by first|exact Zb hB6 hb7|exact Zu hB6 hb7|exact Z3 hB6 hb7
 clear hb7 hB6 R6;go_wp2_with fail;refine(Zad ⟨#[109,111,116,111,114]⟩ _).mono ?_;rintro e w8 ⟨rfl,hb8⟩;have hB8:Below w.heap.size w w8:=by first|exact Zb hB7 hb8|exact Zu hB7 hb8|exact Z3 hB7 hb8
 clear hb8 hB7;go_wp2_with fail;refine(Zz _ _ _ _).mono ?_;rintro e wx ⟨rfl,rfl⟩;go_wp2_with fail;refine(Zw 2 _).mono ?_;rintro e w9 ⟨rfl,hb9⟩;have hB9:Below w.heap.size w w9:=by first|exact Zb hB8 hb9|exact Zu hB8 hb9|exact Z3 hB8 hb9
 have R9:=Za ((RdI.new w8 24 [⟨3,0,⟨#[109,111,116,111,114]⟩,0⟩]).keep hb9);clear hB8;go_wp2_with fail;refine(Zz _ _ _ _).mono ?_;rintro e wx ⟨rfl,rfl⟩;go_wp2_with fail;refine(Zw 3 _).mono ?_;rintro e w10 ⟨rfl,hb10⟩;have hB10:Below w.heap.size w w10:=by first|exact Zb hB9 hb10|exact Zu hB9 hb10|exact Z3 hB9 hb10
 have R10:=Za ((R9.out.alloc (.cells (Zi [⟨2,2,⟨#[]⟩,0⟩]).toArray 24)).keep hb10);have S10:=Za ((RdI.new w9 24 [⟨2,2,⟨#[]⟩,0⟩]).keep hb10);clear hb9 hb10 hB9 R9;go_wp2_with fail;refine(Zz _ _ _ _).mono ?_;rintro e wx ⟨rfl,rfl⟩;have hr11:Rd ((w10.alloc (.cells (Zi [⟨2,3,⟨#[]⟩,0⟩]).toArray 24)).alloc (.cells #[.slice (some ⟨w8.heap.size,0,none⟩) 1 1,.slice (some ⟨w9.heap.size,0,none⟩) 1 1,.slice (some ⟨w10.heap.size,0,none⟩) 1 1] 28)) (some ⟨w10.heap.size+1,0,none⟩) [.slice (some ⟨w8.heap.size,0,none⟩) 1 1,.slice (some ⟨w9.heap.size,0,none⟩) 1 1,.slice (some ⟨w10.heap.size,0,none⟩) 1 1]:=by have:=Rd.new (w10.alloc (.cells (Zi [⟨2,3,⟨#[]⟩,0⟩]).toArray 24)) 28 [.slice (some ⟨w8.heap.size,0,none⟩) 1 1,.slice (some ⟨w9.heap.size,0,none⟩) 1 1,.slice (some ⟨w10.heap.size,0,none⟩) 1 1];rwa[show(w10.alloc (.cells (Zi [⟨2,3,⟨#[]⟩,0⟩]).toArray 24)).heap.size=w10.heap.size+1 by simp]at this
 have Hr11:=Za hr11;clear hr11;have hBz:Below w.heap.size w ((w10.alloc (.cells (Zi [⟨2,3,⟨#[]⟩,0⟩]).toArray 24)).alloc (.cells #[.slice (some ⟨w8.heap.size,0,none⟩) 1 1,.slice (some ⟨w9.heap.size,0,none⟩) 1 1,.slice (some ⟨w10.heap.size,0,none⟩) 1 1] 28)):=by have h1:=hB10.alloc hB10.size (.cells (Zi [⟨2,3,⟨#[]⟩,0⟩]).toArray 24);exact h1.alloc h1.size _
 go_wp2_with fail;refine(ZnP _ _ _ _ m _ (He.out.keep hBz) (Zc hBz Hm.out) (Hc.out.keep hBz) Hr11.out ((R10.out.alloc _).alloc _) ((S10.out.alloc _).alloc _) ((RdI.new w10 24 [⟨2,3,⟨#[]⟩,0⟩]).alloc _)).mono ?_;rintro e w11 ⟨g,cap,rfl,hr,hb11⟩;have hB11:=Zb hBz hb11;have Rg:=Za hr;clear hr hb11 hBz Hr11 R10 S10 hB10;go_wp2_with fail;refine(ZbW 0 ⟨#[]⟩ _).mono ?_;rintro e w12 ⟨rfl,hb12⟩;have hB12:Below w.heap.size w w12:=by first|exact Zb hB11 hb12|exact Zu hB11 hb12|exact Z3 hB11 hb12
 go_wp2_with fail;refine(Zw 1 _).mono ?_;rintro e w13 ⟨rfl,hb13⟩;have hB13:Below w.heap.size w w13:=by first|exact Zb hB12 hb13|exact Zu hB12 hb13|exact Z3 hB12 hb13
 have Rg2:=Za ((Rg.out.keep hb12).keep hb13);clear hb12 hb13 Rg hB12 hB11;go_wp2_with fail;refine(Zz _ _ _ _).mono ?_;rintro e wx ⟨rfl,rfl⟩;go_wp2_with fail;refine(Zlf (He.out.keep (hB13.alloc hB13.size _)) (ZG (by decide+kernel)) (RdI.new w13 24 [⟨1,0,⟨#[]⟩,0⟩,⟨2,1,⟨#[]⟩,0⟩]) rfl (show _=(true,0) by kernel_rfl)).mono ?_;rintro e w14 ⟨rfl,hb14⟩;have hB14:Below w.heap.size w w14:=by first|exact Zb hB13 hb14|exact Zu hB13 hb14|exact Z3 hB13 hb14
 have Rg:=Za ((Rg2.out.alloc (.cells (Zi [⟨1,0,⟨#[]⟩,0⟩,⟨2,1,⟨#[]⟩,0⟩]).toArray 24)).keep hb14);clear hb14 hB13 Rg2;go_wp2_with fail;refine(Zad ⟨#[111,116,111]⟩ _).mono ?_;rintro e w15 ⟨rfl,hb15⟩;have hB15:Below w.heap.size w w15:=by first|exact Zb hB14 hb15|exact Zu hB14 hb15|exact Z3 hB14 hb15
 have Rg2:=Za (Rg.out.keep hb15);clear hb15 hB14 Rg;go_wp2_with fail;refine(Zz _ _ _ _).mono ?_;rintro e wx ⟨rfl,rfl⟩;go_wp2_with fail;refine(Zba _ _ 1 _ _ [⟨3,0,⟨#[111,116,111]⟩,0⟩] _ (Rg2.out.alloc _) (RdI.new w15 24 [⟨3,0,⟨#[111,116,111]⟩,0⟩]) rfl (by decide)).mono ?_;rintro e w16 ⟨rfl,hb16⟩;have hB16:Below w.heap.size w w16:=by first|exact Zb hB15 hb16|exact Zu hB15 hb16|exact Z3 hB15 hb16
 clear hb16 hB15 Rg2;go_wp2_with fail;refine(Zw (-7) _).mono ?_;rintro e w17 ⟨rfl,hb17⟩;have hB17:Below w.heap.size w w17:=by first|exact Zb hB16 hb17|exact Zu hB16 hb17|exact Z3 hB16 hb17
 clear hb17 hB16;go_wp2_with fail;refine(Zw 2 _).mono ?_;rintro e w18 ⟨rfl,hb18⟩;have hB18:Below w.heap.size w w18:=by first|exact Zb hB17 hb18|exact Zu hB17 hb18|exact Z3 hB17 hb18
 clear hb18 hB17;go_wp2_with fail;refine(ZnO Zov 2 2 (-7) 2 0 0 (-3) ⟨#[]⟩ ⟨#[]⟩ _ (He.out.keep hB18) (ZG (by decide+kernel)) (ZG (by decide+kernel)) (by kernel_rfl)).mono ?_;rintro e w19 ⟨rfl,hb19⟩;have hB19:Below w.heap.size w w19:=by first|exact Zb hB18 hb19|exact Zu hB18 hb19|exact Z3 hB18 hb19
 clear hb19 hB18;go_wp2_with fail;refine(Zad ⟨#[52]⟩ _).mono ?_;rintro e w20 ⟨rfl,hb20⟩;have hB20:Below w.heap.size w w20:=by first|exact Zb hB19 hb20|exact Zu hB19 hb20|exact Z3 hB19 hb20
 clear hb20 hB19;go_wp2_with fail;refine(ZbW 1 ⟨#[53]⟩ _).mono ?_;rintro e w21 ⟨rfl,hb21⟩;have hB21:Below w.heap.size w w21:=by first|exact Zb hB20 hb21|exact Zu hB20 hb21|exact Z3 hB20 hb21
 clear hb21 hB20;go_wp2_with fail;refine(ZnO Zkr 3 1 0 0 0 1 9 ⟨#[52]⟩ ⟨#[53]⟩ _ (He.out.keep hB21) (ZG (by decide+kernel)) (ZG (by decide+kernel)) (by kernel_rfl)).mono ?_;rintro e w22 ⟨rfl,hb22⟩;have hB22:Below w.heap.size w w22:=by first|exact Zb hB21 hb22|exact Zu hB21 hb22|exact Z3 hB21 hb22
 clear hb22 hB21;go_wp2;go_ret;exact⟨rfl,hB22⟩
end Go.Proofs.YtnnfhojhbbcbmaaGreatDoor
namespace Go.Proofs.YtnnfhojhbbcbmaaGreatDoor
open Go.RowKit
set_option maxRecDepth 100000 in
set_option maxHeartbeats 8000000 in
theorem Zgg(op:ByteArray)(pa pb:Option Addr)(na nb ca cb:Nat)(la lb:List It)(m:Int)(w:World)(he:Env w)(hm:w.cell? ⟨1,0,none⟩=some (.int .i64 m))(hc:Counts w)(ha:OkA w ⟨pa,la,ca⟩)(hb:OkA w ⟨pb,lb,cb⟩)(hRa:∀y∈la,R64 y.num)(hRb:∀y∈lb,R64 y.num)(hna:na=la.length)(hnb:nb=lb.length):
  Calls Tryz.prog 8 #[.string op,.slice pa na ca,.slice pb nb cb] w fun e w'=>e= .returned (.bool true)∧Below w.heap.size w w':=by
 have He:=Za he;have Hm:=Za hm;have Hc:=Za hc;have Ha:=Za ha;have Hb:=Za hb;have Hra:=Za hRa;have Hrb:=Za hRb;have Hna:=Za hna;have Hnb:=Za hnb;obtain⟨v,hv1,hv2⟩:=Zmn op;have Hv1:=Za hv1;have Hv2:=Za hv2;have hrd:Rd (w.alloc (.cells #[.slice pa na ca,.slice pb nb cb] 28)) (some ⟨w.heap.size,0,none⟩) (([⟨pa,la,ca⟩,⟨pb,lb,cb⟩]:List Lst).map Lst.v):=by rw[hna,hnb];exact Rd.new w 28 [.slice pa la.length ca,.slice pb lb.length cb]
 have Hrd:=Za hrd;have hb2:=(Below.refl w.heap.size w).alloc (Nat.le_refl _) (.cells #[.slice pa na ca,.slice pb nb cb] 28);clear he hm hc ha hb hRa hRb hna hnb hv1 hv2 hrd;go_enter Tryz.func8,Tryz.ntmps8;go_wp2_with fail;refine(Zk3 (some ⟨w.heap.size,0,none⟩) 2 2 [⟨pa,la,ca⟩,⟨pb,lb,cb⟩] _ rfl (by decide) Hrd.out ?ok).mono ?_
 case ok=>
  intro x hx;simp only[List.mem_cons,List.not_mem_nil,or_false]at hx;rcases hx with rfl|rfl
  ·exact⟨Ha.out.1.keep hb2,Ha.out.2⟩
  ·exact⟨Hb.out.1.keep hb2,Hb.out.2⟩
 rintro e w2 ⟨⟨q,rfl,hq⟩,hg2⟩;have hB2:=Zb hb2 hg2;clear hb2 hg2 Hrd;by_cases hq0:q=0
 ·subst hq0;clear hq;go_wp2_with fail;refine(ZaY m _ (He.out.keep hB2) (Zc hB2 Hm.out) (Hc.out.keep hB2)).mono ?_;rintro e w99 ⟨rfl,hb99⟩;have hB99:=Zb hB2 hb99;go_wp2;go_ret;exact⟨rfl,hB99⟩
 ·have hla:la.length≤300:=hq hq0 ⟨pa,la,ca⟩ (by simp);have hlb:lb.length≤300:=hq hq0 ⟨pb,lb,cb⟩ (by simp);have Hla:=Za hla;have Hlb:=Za hlb;have hqf:(q==0)=false:=by simpa using hq0
  rw[hqf];clear hla hlb hq hqf hq0;by_cases h1000:(1000:Int)<(op.size:Int)
  ·go_wp2_with fail;refine(ZaY m _ (He.out.keep hB2) (Zc hB2 Hm.out) (Hc.out.keep hB2)).mono ?_;rintro e w99 ⟨rfl,hb99⟩;have hB99:=Zb hB2 hb99;go_wp2;go_ret;exact⟨rfl,hB99⟩
  ·have hna3:na≤1048576:=by have:=Hla.out;have:=Hna.out;omega
   have hnb3:nb≤1048576:=by have:=Hlb.out;have:=Hnb.out;omega
   have Hna3:=Za hna3;have Hnb3:=Za hnb3;clear hna3 hnb3;go_wp2_with fail;refine(ZgF pa la na ca _ (Ha.out.1.keep hB2) Hna.out Hna3.out).mono ?_;rintro e w3 ⟨rfl,hx,hb3⟩;have hB3:=Zb hB2 hb3;generalize w2.heap.size=gx at hx⊢;clear hb3 hB2;go_wp2_with fail;refine(ZgF pb lb nb cb _ (Hb.out.1.keep hB3) Hnb.out Hnb3.out).mono ?_;rintro e w4 ⟨rfl,hy,hb4⟩;have hB4:=Zb hB3 hb4;have hx4:=hx.keep hb4;generalize w3.heap.size=gy at hy⊢;clear hb4 hB3 hx;have Hx4:=Za hx4;have Hy4:=Za hy;have hA4:OkA w4 ⟨some ⟨gx,0,none⟩,la,na+12⟩:=⟨hx4.left,Ha.out.2⟩;have hD4:OkA w4 ⟨some ⟨gy,0,none⟩,lb,nb+12⟩:=⟨hy.left,Hb.out.2⟩;have HA4:=Za hA4;have HD4:=Za hD4;have He4:=Za (He.out.keep hB4);have Hq4:Hid (Below w.heap.size w w4):=hB4;have hB4:=Below.refl w4.heap.size w4;clear hx4 hy hA4 hD4;go_wp2_with fail;refine(Hv1.out (some ⟨gx,0,none⟩) (some ⟨gy,0,none⟩) na nb (na+12) (nb+12) la lb _ He4.out HA4.out HD4.out Hna.out Hnb.out).mono ?_;rintro e w5 ⟨rfl,hb5⟩;have hB5:=Zb hB4 hb5;clear hb5 hB4;go_wp2_with fail;refine(Hv2.out pa pb na nb ca cb la lb _ ⟨Ha.out.1.keep (Zb Hq4.out hB5),Ha.out.2⟩ ⟨Hb.out.1.keep (Zb Hq4.out hB5),Hb.out.2⟩ Hna.out Hnb.out).mono ?_;rintro e w6 ⟨rfl,hb6⟩;have hB6:=Zb hB5 hb6;clear hb6 hB5;generalize v la lb=v0;obtain⟨c1,c2⟩:=v0;dsimp only;go_wp2_with fail;refine(ZcW (some ⟨gx,0,none⟩) na (na+12) la _ (He4.out.keep hB6) ⟨HA4.out.1.keep hB6,HA4.out.2⟩ Hna.out).mono ?_;rintro e w7 ⟨rfl,hb7⟩;have hB7:=Zb hB6 hb7;clear hb7 hB6;go_wp2_with fail;refine(Zdi pa na ca la _ ⟨Ha.out.1.keep (Zb Hq4.out hB7),Ha.out.2⟩ Hna.out).mono ?_;rintro e w8 ⟨rfl,hb8⟩;have hB8:=Zb hB7 hb8;clear hb8 hB7;generalize truthV la=v0;obtain⟨g1,g2⟩:=v0;dsimp only;go_wp2_with fail;refine(Zbw (some ⟨gx,0,none⟩) na (na+12) la _ (He4.out.keep hB8) ⟨HA4.out.1.keep hB8,HA4.out.2⟩ Hra.out Hna.out).mono ?_;rintro e w9 ⟨rfl,hb9⟩;have hB9:=Zb hB8 hb9;clear hb9 hB8;go_wp2_with fail;refine(ZbH pa na ca la _ ⟨Ha.out.1.keep (Zb Hq4.out hB9),Ha.out.2⟩ Hra.out Hna.out).mono ?_;rintro e w10 ⟨rfl,hb10⟩;have hB10:=Zb hB9 hb10;clear hb10 hB9;generalize strV la=v0;obtain⟨s1,s2⟩:=v0;dsimp only;go_wp2_with fail;refine(Zmo (some ⟨gx,0,none⟩) (some ⟨gy,0,none⟩) na nb (na+12) (nb+12) la lb _ (He4.out.keep hB10) ⟨HA4.out.1.keep hB10,HA4.out.2⟩ ⟨HD4.out.1.keep hB10,HD4.out.2⟩ Hna.out Hnb.out).mono ?_;rintro e w11 ⟨rfl,hb11⟩;have hB11:=Zb hB10 hb11;clear hb11 hB10;go_wp2_with fail;refine(Zla pa pb na nb ca cb la lb _ ⟨Ha.out.1.keep (Zb Hq4.out hB11),Ha.out.2⟩ ⟨Hb.out.1.keep (Zb Hq4.out hB11),Hb.out.2⟩ Hna.out Hnb.out).mono ?_;rintro e w12 ⟨rfl,hb12⟩;have hB12:=Zb hB11 hb12;clear hb12 hB11;generalize lessV la lb=v0;obtain⟨u1,u2⟩:=v0;dsimp only;go_wp2_with fail;refine(Zbt pa la gx na ca _ (Hx4.out.keep hB12) (Ha.out.1.keep (Zb Hq4.out hB12)) Hna.out Hna3.out).mono ?_;rintro e w13 ⟨rfl,hb13⟩;have hB13:=Zb hB12 hb13;clear hb13 hB12;go_wp2_with fail;refine(Zbt pb lb gy nb cb _ (Hy4.out.keep hB13) (Hb.out.1.keep (Zb Hq4.out hB13)) Hnb.out Hnb3.out).mono ?_;rintro e w14 ⟨rfl,hb14⟩;have hB14:=Zb hB13 hb14;clear hb14 hB13;have hB15:=Zb Hq4.out hB14;clear hB14;go_wp2_with fail;refine(ZaY m _ (He.out.keep hB15) (Zc hB15 Hm.out) (Hc.out.keep hB15)).mono ?_;rintro e w99 ⟨rfl,hb99⟩;have hB99:=Zb hB15 hb99;go_wp2;go_ret;exact⟨rfl,hB99⟩
end Go.Proofs.YtnnfhojhbbcbmaaGreatDoor
namespace Go.Proofs.YtnnfhojhbbcbmaaGreatDoor
open Go.RowKit
theorem Zlg(l:List It):(Za6 l).length=l.length+12:=by unfold Za6;rw[List.length_append,ZbK]
theorem Zmv {W:World}{B g n:Nat}{l:List It}(hn:n=l.length)(h:OwI W B (.slice (some ⟨g,0,none⟩) (n+12) (n+12)) (Za6 l)):ContI W (some g,n,n+12,some ⟨g,0,none⟩) []:=by
 subst hn;have hc:ContI W (some g,l.length,l.length+12,some ⟨g,0,none⟩) (Za6 l):=by refine .inr ⟨g,rfl,rfl,Nat.le_add_right _ _,?_⟩;have h4:=OwI.mono h (Nat.zero_le B);unfold OwI at h4;rw[Zlg]at h4⊢;exact h4
 exact hc.take 0
structure Out (W:World) (B0:Nat) (xs:List Hd):Prop where
 own:∀x∈xs,OwE W x.B x.E x.v x.l
 lo:∀x∈xs,B0≤x.B
 hi:∀x∈xs,x.E≤W.heap.size
 pw:xs.Pairwise (fun x y=>x.E≤y.B)
section
variable {W W' : World} {B0 : Nat} {xs : List Hd}
theorem Out.start(W:World)(B0:Nat):Out W B0 []:=⟨fun x h=>(by cases h),fun x h=>(by cases h),fun x h=>(by cases h),List.Pairwise.nil⟩
theorem Out.keep(h:Out W B0 xs)(hb:Below W.heap.size W W'):Out W' B0 xs:=⟨fun x hx=>(h.own x hx).keep hb,h.lo,fun x hx=>Nat.le_trans (h.hi x hx) hb.size,h.pw⟩
theorem Out.next(h:Out W B0 xs)(hB:B0≤W.heap.size){v:Value}{l:List It}(ho:OwI W' W.heap.size v l)(hb:Below W.heap.size W W'):Out W' B0 (xs++[⟨W.heap.size,W'.heap.size,v,l⟩]):=by
 have hk:=h.keep hb;refine⟨fun x hx=>?_,fun x hx=>?_,fun x hx=>?_,?_⟩
 ·rcases List.mem_append.1 hx with h1|h1
  ·exact hk.own x h1
  ·rw[List.mem_singleton]at h1;subst h1;exact OwZ.ends (.inl ho)
 ·rcases List.mem_append.1 hx with h1|h1
  ·exact hk.lo x h1
  ·rw[List.mem_singleton]at h1;subst h1;exact hB
 ·rcases List.mem_append.1 hx with h1|h1
  ·exact hk.hi x h1
  ·rw[List.mem_singleton]at h1;subst h1;exact Nat.le_refl _
 ·rw[List.pairwise_append];refine⟨h.pw,List.pairwise_singleton _ _,fun x hx y hy=>?_⟩;rw[List.mem_singleton]at hy;subst hy;exact h.hi x hx
theorem Out.other {g:Nat}(h:Out W B0 xs)(hg:W.grownBy W' (some g))(hgB:g<B0):Out W' B0 xs:=
 ⟨fun x hx=>(h.own x hx).other hg (Nat.lt_of_lt_of_le hgB (h.lo x hx)),h.lo,fun x hx=>Nat.le_trans (h.hi x hx) hg.size,h.pw⟩
theorem Out.rd {x:Hd}{a:Option Addr}{n c:Nat}(h:Out W B0 xs)(hx:x∈xs)(hv:x.v= .slice a n c):RdI W a x.l:=by
 rcases h.own x hx with⟨h1,_⟩|⟨h1,_⟩
 ·rw[hv]at h1;exact h1.rd
 ·rw[h1];exact .inl rfl
end
end Go.Proofs.YtnnfhojhbbcbmaaGreatDoor
