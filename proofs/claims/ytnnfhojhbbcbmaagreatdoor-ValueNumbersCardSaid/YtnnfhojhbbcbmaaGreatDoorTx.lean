/- unicode/utf8's ValidString at any text: the walk. -/
import Derived.Test.YtnnfhojhbbcbmaaGreatDoorC03
namespace Go.Proofs.YtnnfhojhbbcbmaaGreatDoor
open Go.RowKit
set_option maxRecDepth 100000 in
set_option maxHeartbeats 8000000 in
theorem ZkK(s:ByteArray)(w:World)(ht8:Tabs8 w)(_hs:s.size<9223372036854775807):Calls Tryz.prog 150 #[.string s] w fun e w'=>e= .returned (.bool (vS s))∧Below w.heap.size w w':=by
 have T8:=Za ht8;clear ht8;go_enter Tryz.func150,Tryz.ntmps150;go_wp2_with fail;go_loopw[0] (fun v W=>∃t:ByteArray,v= .string t∧Hid (vS t=vS s)∧t.size≤s.size∧Below w.heap.size w W) (fun v _=>ZaR v)
 case atStart=>exact⟨s,rfl,Za rfl,Nat.le_refl _,Below.refl _ _⟩
 case round=>
  obtain⟨t,rfl,ht,htl,hB⟩:=hrel;by_cases h0:0<t.size
  ·have hI:(0:Int)<t.size:=by omega
   have hbt:=ZQ t 0 h0;by_cases ha:bt t 0<128
   ·have ha2:(((t[0]'h0).toNat:Nat):Int)<128:=by omega
    have e1:=Zq t 1;have hv1:vS (t.extract 1 t.size)=vS s:=by rw[ZdL t 1 (by omega) (fun i hi=>by have:i=0:=(by omega);subst this;exact ha)];exact ht.out
    have Hv1:=Za hv1;clear hv1 ht hbt ha;by_cases h8:8<(t.extract 1 t.size).size
    ·have h8I:(8:Int)<((t.extract 1 t.size).size:Int):=by omega
     have h8J:8<t.size-1:=by omega
     go_wp2_with fail;have hlt:(t.extract 1 t.size).size<t.size:=by omega
     generalize t.extract 1 t.size=t1 at*;simp only[←e1];have hle1:t1.size≤s.size:=by omega
     clear e1 h8J;refine(Zfy t1 _ (by omega)).mono ?_;rintro e w2 ⟨rfl,n2,hw2⟩;have hB2:Below w.heap.size w w2:=by rw[hw2];exact Zf hB n2
     clear hw2;by_cases hz:bits .and .u64 (wz t1) 9259542123273814144=0
     ·have hzt:(bits .and .u64 (wz t1) 9259542123273814144==0)=true:=by simpa using hz
      have e2:=Zq t1 8;have hv2:vS (t1.extract 8 t1.size)=vS s:=by rw[ZdL t1 8 (by omega) (Zdy t1 hz)];exact Hv1.out
      have Hv2:=Za hv2;clear hv2 Hv1 hz;go_wp2_with fail;have hlt2:(t1.extract 8 t1.size).size<t.size:=by omega
      have hle2:(t1.extract 8 t1.size).size≤s.size:=by omega
      generalize t1.extract 8 t1.size=t2 at*
      try simp only[←e2]
      clear e2 h8 h8I hlt hzt hB;by_cases h16:16<t2.size
      ·have h16I:(16:Int)<(t2.size:Int):=by omega
       have h8a:(8:Int)≤(t2.size:Int):=by omega
       have h8b:8≤t2.size:=by omega
       have e3:=Zq t2 8;have h8c:8≤(t2.extract 8 t2.size).size:=by omega
       go_quiet ((go_at_call 195;exact Calls.quiet_of (Zfy _ _ (by omega))));have hB3:=Zf hB2 nq;generalize w2.drewN nq=w3 at*;clear hB2;by_cases hz:bits .and .u64 (bits .or .u64 (wz t2) (wz (t2.extract 8 t2.size))) 9259542123273814144=0
       ·have hzt:(bits .and .u64 (bits .or .u64 (wz t2) (wz (t2.extract 8 t2.size))) 9259542123273814144==0)=true:=by simpa using hz
        have e4:=Zq t2 16;have hv3:vS (t2.extract 16 t2.size)=vS s:=by obtain⟨z1,z2⟩:=Zdg hz;rw[ZkH t2 (by omega) z1 z2];exact Hv2.out
        have Hv3:=Za hv3;have hlt3:(t2.extract 16 t2.size).size<t.size:=by omega
        have hle3:(t2.extract 16 t2.size).size≤s.size:=by omega
        clear hv3 Hv2 hz;go_wp2_with fail;generalize t2.extract 16 t2.size=t3 at*;clear e3 e4 h8a h8b h8c hlt2 hle2 hzt h16 h16I;go_loopw[0] (fun v W=>∃q:ByteArray,v= .string q∧Hid (vS q=vS s)∧q.size<t.size∧q.size≤s.size∧Below w.heap.size w W) (fun v _=>ZaR v)
        case atStart=>exact⟨t3,rfl,Hv3,hlt3,hle3,hB3⟩
        case round=>
         clear Hv3 hlt3 hle3 hB3;obtain⟨q,rfl,Hq,hltq,hleq,hBq⟩:=hrel;by_cases h32:32<q.size
         ·have h32I:(32:Int)<(q.size:Int):=by omega
          have i8:(8:Int)≤(q.size:Int):=by omega
          have i16:(16:Int)≤(q.size:Int):=by omega
          have i24:(24:Int)≤(q.size:Int):=by omega
          have j8:8≤q.size:=by omega
          have j16:16≤q.size:=by omega
          have j24:24≤q.size:=by omega
          have e8:=Zq q 8;have e16:=Zq q 16;have e24:=Zq q 24;go_wp2_with fail;go_quiet ((go_at_call 195;exact Calls.quiet_of (Zfy _ _ (by omega))));have hB4:=Zf hBq nq;generalize wr.drewN nq=w4 at*;clear hBq;by_cases hz4:bits .and .u64 (bits .or .u64 (bits .or .u64 (wz q) (wz (q.extract 8 q.size))) (bits .or .u64 (wz (q.extract 16 q.size)) (wz (q.extract 24 q.size)))) 9259542123273814144=0
          ·have hzt4:(bits .and .u64 (bits .or .u64 (bits .or .u64 (wz q) (wz (q.extract 8 q.size))) (bits .or .u64 (wz (q.extract 16 q.size)) (wz (q.extract 24 q.size)))) 9259542123273814144==0)=true:=by simpa using hz4
           have e32:=Zq q 32;have hv4:vS (q.extract 32 q.size)=vS s:=by obtain⟨z1,z2⟩:=Zdg hz4;obtain⟨y1,y2⟩:=Zdg z1;obtain⟨y3,y4⟩:=Zdg z2;rw[ZkI q (by omega) y1 y2 y3 y4];exact Hq.out
           have Hv4:=Za hv4;have i32:(32:Int)≤(q.size:Int):=by omega
           clear hv4 Hq hz4;go_wp2;go_roundw
           case rel=>exact⟨_,rfl,Hv4,by omega,by omega,hB4⟩
           case measure=>simp[ZaR];omega
          ·have hzt4:(bits .and .u64 (bits .or .u64 (bits .or .u64 (wz q) (wz (q.extract 8 q.size))) (bits .or .u64 (wz (q.extract 16 q.size)) (wz (q.extract 24 q.size)))) 9259542123273814144==0)=false:=by simpa using hz4
           clear hz4 e8 e16 e24;go_wp2;go_roundw
           case rel=>exact⟨q,rfl,Hq,hleq,hB4⟩
           case measure=>simp[ZaR];omega
         ·have h32d:decide (32<q.size)=false:=by simpa using h32
          have h32e:decide ((32:Int)<(q.size:Int))=false:=by simp;omega
          go_wp2_with fail;go_quiet (fail);have hB4:=Zf hBq nq;go_wp2;go_roundw
          case rel=>exact⟨q,rfl,Hq,hleq,hB4⟩
          case measure=>simp[ZaR];omega
       ·have hzt:(bits .and .u64 (bits .or .u64 (wz t2) (wz (t2.extract 8 t2.size))) 9259542123273814144==0)=false:=by simpa using hz
        clear hz e3;go_wp2;go_roundw
        case rel=>exact⟨t2,rfl,Hv2,hle2,hB3⟩
        case measure=>simp[ZaR];omega
      ·have h16d:decide (16<t2.size)=false:=by simpa using h16
       have h16e:decide ((16:Int)<(t2.size:Int))=false:=by simp;omega
       go_quiet (fail);have hB3:=Zf hB2 nq;go_wp2;go_roundw
       case rel=>exact⟨t2,rfl,Hv2,hle2,hB3⟩
       case measure=>simp[ZaR];omega
     ·have hzt:(bits .and .u64 (wz t1) 9259542123273814144==0)=false:=by simpa using hz
      clear hz;go_wp2;go_roundw
      case rel=>exact⟨t1,rfl,Hv1,hle1,hB2⟩
      case measure=>simp[ZaR];omega
    ·have h8d:decide (8<(t.extract 1 t.size).size)=false:=by simpa using h8
     have h8e:decide (8<t.size-1)=false:=by simp;omega
     go_wp2;go_roundw
     case rel=>exact⟨_,rfl,Hv1,by omega,hB⟩
     case measure=>simp[ZaR];omega
   ·have han:¬(t[0]'h0).toNat<128:=by omega
    have hai:decide ((((t[0]'h0).toNat:Nat):Int)<128)=false:=by simp;omega
    have had:decide ((t[0]'h0).toNat<128)=false:=by simp;omega
    have hc1:=(T8.out.keep hB).1 (t[0]'h0).toNat (UInt8.toNat_lt _);have hlt:(t[0]'h0).toNat<256:=UInt8.toNat_lt _;have hltI:(((t[0]'h0).toNat:Nat):Int)<256:=by omega
    have hb0:¬bt t 0<128:=ha;have hbN:(bt t 0).toNat=(t[0]'h0).toNat:=by rw[←hbt];exact Int.toNat_natCast _
    clear hbt ha;rcases Lib.firstT_cases (t[0]'h0).toNat with hf|hf|hf|hf|hf|hf|hf|hf|hf
    ·exfalso;revert hf;unfold Lib.firstT;rw[if_neg han];repeat' split
     all_goals simp
    ·as_aux_lemma=>
     have hx0:Lib.firstT (bt t 0).toNat=241:=by rw[hbN];exact hf
     rw[hf]at hc1;clear hf hbN;have q0:=((T8.out.keep hB).2 15 (by decide)).1;have q1:=((T8.out.keep hB).2 15 (by decide)).2;have Hno:Hid (vS s=false):=by show vS s=false;rw[←ht.out];exact ZU (by omega) (ZlR hb0 hx0 (by decide) (by decide) (by decide))
     have Hx:=Za hx0;clear hx0;go_wp2;go_ret;exact⟨by rw[Hno.out];rfl,hB.alloc hB.size _⟩
    ·as_aux_lemma=>
     have hx0:Lib.firstT (bt t 0).toNat=2:=by rw[hbN];exact hf
     rw[hf]at hc1;clear hf hbN;have q0:wr.cell? ⟨3,0,none⟩=some (.int .u8 128):=((T8.out.keep hB).2 0 (by decide)).1;have q1:wr.cell? ⟨3,1,none⟩=some (.int .u8 191):=((T8.out.keep hB).2 0 (by decide)).2;by_cases p0:((t.size:Nat):Int)<2
     ·have p0n:t.size<2:=by omega
      have Hno:Hid (vS s=false):=by show vS s=false;rw[←ht.out];exact ZU (by omega) (Zfz hb0 hx0 (by decide) (.inl p0n))
      go_wp2_with fail;go_quiet (fail);go_wp2;go_ret;exact⟨by rw[Hno.out];rfl,Zf (hB.alloc hB.size _) nq⟩
     ·have n0:¬t.size<2:=by omega
      have d0:decide (((t.size:Nat):Int)<2)=false:=by simp;omega
      have d0n:decide (t.size<2)=false:=by simp;omega
      clear p0;have g1:1<t.size:=by omega
      have gI1:(1:Int)<(t.size:Int):=by omega
      have B1:=Za (ZQ t 1 g1);by_cases p1:(((t[1]'g1).toNat:Nat):Int)<128
      ·have p1n:(t[1]'g1).toNat<128:=by omega
       have Hno:Hid (vS s=false):=by show vS s=false;rw[←ht.out];exact ZU (by omega) (Zfz hb0 hx0 (by decide) ((.inr (.inl (by rw[←B1.out];exact p1)))))
       go_wp2_with fail;go_quiet (fail);go_wp2;go_ret;exact⟨by rw[Hno.out];rfl,Zf (hB.alloc hB.size _) nq⟩
      ·have n1:¬(((t[1]'g1).toNat:Nat):Int)<128:=p1;have d1:decide ((((t[1]'g1).toNat:Nat):Int)<128)=false:=by simpa using p1
       have d1n:decide ((t[1]'g1).toNat<128)=false:=by simp;omega
       clear p1;by_cases p2:(191:Int)<(((t[1]'g1).toNat:Nat):Int)
       ·have p2n:191<(t[1]'g1).toNat:=by omega
        have Hno:Hid (vS s=false):=by show vS s=false;rw[←ht.out];exact ZU (by omega) (Zfz hb0 hx0 (by decide) ((.inr (.inr (by rw[←B1.out];exact p2)))))
        go_wp2_with fail;go_quiet (fail);go_wp2;go_ret;exact⟨by rw[Hno.out];rfl,Zf (hB.alloc hB.size _) nq⟩
       ·have n2:¬(191:Int)<(((t[1]'g1).toNat:Nat):Int):=p2;have d2:decide ((191:Int)<(((t[1]'g1).toNat:Nat):Int))=false:=by simpa using p2
        have d2n:decide (191<(t[1]'g1).toNat)=false:=by simp;omega
        clear p2
        have hv:Za3 t=2:=by
         refine ZkJ hb0 hx0 (by decide) ?_;rw[←B1.out];rintro(z|z|z)
         ·exact n0 z
         ·exact n1 z
         ·exact n2 z
        have Hgo:Hid (vS (t.extract 2 t.size)=vS s):=by show vS (t.extract 2 t.size)=vS s;rw[←ht.out];exact Zc2 (by omega) hv (by decide)
        have es:=Zq t 2;have is:(2:Int)≤(t.size:Int):=by omega
        clear hv;go_wp2_with fail;go_quiet (fail);go_wp2;go_roundw
        case rel=>exact⟨_,rfl,Hgo,by omega,Zf (hB.alloc hB.size _) nq⟩
        case measure=>simp[ZaR];omega
    ·as_aux_lemma=>
     have hx0:Lib.firstT (bt t 0).toNat=19:=by rw[hbN];exact hf
     rw[hf]at hc1;clear hf hbN;have q0:wr.cell? ⟨3,2,none⟩=some (.int .u8 160):=((T8.out.keep hB).2 1 (by decide)).1;have q1:wr.cell? ⟨3,3,none⟩=some (.int .u8 191):=((T8.out.keep hB).2 1 (by decide)).2;by_cases p0:((t.size:Nat):Int)<3
     ·have p0n:t.size<3:=by omega
      have Hno:Hid (vS s=false):=by show vS s=false;rw[←ht.out];exact ZU (by omega) (Z6 hb0 hx0 (by decide) (.inl p0n))
      go_wp2_with fail;go_quiet (fail);go_wp2;go_ret;exact⟨by rw[Hno.out];rfl,Zf (hB.alloc hB.size _) nq⟩
     ·have n0:¬t.size<3:=by omega
      have d0:decide (((t.size:Nat):Int)<3)=false:=by simp;omega
      have d0n:decide (t.size<3)=false:=by simp;omega
      clear p0;have g1:1<t.size:=by omega
      have gI1:(1:Int)<(t.size:Int):=by omega
      have B1:=Za (ZQ t 1 g1);have g2:2<t.size:=by omega
      have gI2:(2:Int)<(t.size:Int):=by omega
      have B2:=Za (ZQ t 2 g2);by_cases p1:(((t[1]'g1).toNat:Nat):Int)<160
      ·have p1n:(t[1]'g1).toNat<160:=by omega
       have Hno:Hid (vS s=false):=by show vS s=false;rw[←ht.out];exact ZU (by omega) (Z6 hb0 hx0 (by decide) ((.inr (.inl (by rw[←B1.out];exact p1)))))
       go_wp2_with fail;go_quiet (fail);go_wp2;go_ret;exact⟨by rw[Hno.out];rfl,Zf (hB.alloc hB.size _) nq⟩
      ·have n1:¬(((t[1]'g1).toNat:Nat):Int)<160:=p1;have d1:decide ((((t[1]'g1).toNat:Nat):Int)<160)=false:=by simpa using p1
       have d1n:decide ((t[1]'g1).toNat<160)=false:=by simp;omega
       clear p1;by_cases p2:(191:Int)<(((t[1]'g1).toNat:Nat):Int)
       ·have p2n:191<(t[1]'g1).toNat:=by omega
        have Hno:Hid (vS s=false):=by show vS s=false;rw[←ht.out];exact ZU (by omega) (Z6 hb0 hx0 (by decide) ((.inr (.inr (.inl (by rw[←B1.out];exact p2))))))
        go_wp2_with fail;go_quiet (fail);go_wp2;go_ret;exact⟨by rw[Hno.out];rfl,Zf (hB.alloc hB.size _) nq⟩
       ·have n2:¬(191:Int)<(((t[1]'g1).toNat:Nat):Int):=p2;have d2:decide ((191:Int)<(((t[1]'g1).toNat:Nat):Int))=false:=by simpa using p2
        have d2n:decide (191<(t[1]'g1).toNat)=false:=by simp;omega
        clear p2;by_cases p3:(((t[2]'g2).toNat:Nat):Int)<128
        ·have p3n:(t[2]'g2).toNat<128:=by omega
         have Hno:Hid (vS s=false):=by show vS s=false;rw[←ht.out];exact ZU (by omega) (Z6 hb0 hx0 (by decide) ((.inr (.inr (.inr (.inl (by rw[←B2.out];exact p3)))))))
         go_wp2_with fail;go_quiet (fail);go_wp2;go_ret;exact⟨by rw[Hno.out];rfl,Zf (hB.alloc hB.size _) nq⟩
        ·have n3:¬(((t[2]'g2).toNat:Nat):Int)<128:=p3;have d3:decide ((((t[2]'g2).toNat:Nat):Int)<128)=false:=by simpa using p3
         have d3n:decide ((t[2]'g2).toNat<128)=false:=by simp;omega
         clear p3;by_cases p4:(191:Int)<(((t[2]'g2).toNat:Nat):Int)
         ·have p4n:191<(t[2]'g2).toNat:=by omega
          have Hno:Hid (vS s=false):=by show vS s=false;rw[←ht.out];exact ZU (by omega) (Z6 hb0 hx0 (by decide) ((.inr (.inr (.inr (.inr (by rw[←B2.out];exact p4)))))))
          go_wp2_with fail;go_quiet (fail);go_wp2;go_ret;exact⟨by rw[Hno.out];rfl,Zf (hB.alloc hB.size _) nq⟩
         ·have n4:¬(191:Int)<(((t[2]'g2).toNat:Nat):Int):=p4;have d4:decide ((191:Int)<(((t[2]'g2).toNat:Nat):Int))=false:=by simpa using p4
          have d4n:decide (191<(t[2]'g2).toNat)=false:=by simp;omega
          clear p4
          have hv:Za3 t=3:=by
           refine Zd3 hb0 hx0 (by decide) ?_;rw[←B1.out,←B2.out];rintro(z|z|z|z|z)
           ·exact n0 z
           ·exact n1 z
           ·exact n2 z
           ·exact n3 z
           ·exact n4 z
          have Hgo:Hid (vS (t.extract 3 t.size)=vS s):=by show vS (t.extract 3 t.size)=vS s;rw[←ht.out];exact Zc2 (by omega) hv (by decide)
          have es:=Zq t 3;have is:(3:Int)≤(t.size:Int):=by omega
          clear hv;go_wp2_with fail;go_quiet (fail);go_wp2;go_roundw
          case rel=>exact⟨_,rfl,Hgo,by omega,Zf (hB.alloc hB.size _) nq⟩
          case measure=>simp[ZaR];omega
    ·as_aux_lemma=>
     have hx0:Lib.firstT (bt t 0).toNat=3:=by rw[hbN];exact hf
     rw[hf]at hc1;clear hf hbN;have q0:wr.cell? ⟨3,0,none⟩=some (.int .u8 128):=((T8.out.keep hB).2 0 (by decide)).1;have q1:wr.cell? ⟨3,1,none⟩=some (.int .u8 191):=((T8.out.keep hB).2 0 (by decide)).2;by_cases p0:((t.size:Nat):Int)<3
     ·have p0n:t.size<3:=by omega
      have Hno:Hid (vS s=false):=by show vS s=false;rw[←ht.out];exact ZU (by omega) (Z6 hb0 hx0 (by decide) (.inl p0n))
      go_wp2_with fail;go_quiet (fail);go_wp2;go_ret;exact⟨by rw[Hno.out];rfl,Zf (hB.alloc hB.size _) nq⟩
     ·have n0:¬t.size<3:=by omega
      have d0:decide (((t.size:Nat):Int)<3)=false:=by simp;omega
      have d0n:decide (t.size<3)=false:=by simp;omega
      clear p0;have g1:1<t.size:=by omega
      have gI1:(1:Int)<(t.size:Int):=by omega
      have B1:=Za (ZQ t 1 g1);have g2:2<t.size:=by omega
      have gI2:(2:Int)<(t.size:Int):=by omega
      have B2:=Za (ZQ t 2 g2);by_cases p1:(((t[1]'g1).toNat:Nat):Int)<128
      ·have p1n:(t[1]'g1).toNat<128:=by omega
       have Hno:Hid (vS s=false):=by show vS s=false;rw[←ht.out];exact ZU (by omega) (Z6 hb0 hx0 (by decide) ((.inr (.inl (by rw[←B1.out];exact p1)))))
       go_wp2_with fail;go_quiet (fail);go_wp2;go_ret;exact⟨by rw[Hno.out];rfl,Zf (hB.alloc hB.size _) nq⟩
      ·have n1:¬(((t[1]'g1).toNat:Nat):Int)<128:=p1;have d1:decide ((((t[1]'g1).toNat:Nat):Int)<128)=false:=by simpa using p1
       have d1n:decide ((t[1]'g1).toNat<128)=false:=by simp;omega
       clear p1;by_cases p2:(191:Int)<(((t[1]'g1).toNat:Nat):Int)
       ·have p2n:191<(t[1]'g1).toNat:=by omega
        have Hno:Hid (vS s=false):=by show vS s=false;rw[←ht.out];exact ZU (by omega) (Z6 hb0 hx0 (by decide) ((.inr (.inr (.inl (by rw[←B1.out];exact p2))))))
        go_wp2_with fail;go_quiet (fail);go_wp2;go_ret;exact⟨by rw[Hno.out];rfl,Zf (hB.alloc hB.size _) nq⟩
       ·have n2:¬(191:Int)<(((t[1]'g1).toNat:Nat):Int):=p2;have d2:decide ((191:Int)<(((t[1]'g1).toNat:Nat):Int))=false:=by simpa using p2
        have d2n:decide (191<(t[1]'g1).toNat)=false:=by simp;omega
        clear p2;by_cases p3:(((t[2]'g2).toNat:Nat):Int)<128
        ·have p3n:(t[2]'g2).toNat<128:=by omega
         have Hno:Hid (vS s=false):=by show vS s=false;rw[←ht.out];exact ZU (by omega) (Z6 hb0 hx0 (by decide) ((.inr (.inr (.inr (.inl (by rw[←B2.out];exact p3)))))))
         go_wp2_with fail;go_quiet (fail);go_wp2;go_ret;exact⟨by rw[Hno.out];rfl,Zf (hB.alloc hB.size _) nq⟩
        ·have n3:¬(((t[2]'g2).toNat:Nat):Int)<128:=p3;have d3:decide ((((t[2]'g2).toNat:Nat):Int)<128)=false:=by simpa using p3
         have d3n:decide ((t[2]'g2).toNat<128)=false:=by simp;omega
         clear p3;by_cases p4:(191:Int)<(((t[2]'g2).toNat:Nat):Int)
         ·have p4n:191<(t[2]'g2).toNat:=by omega
          have Hno:Hid (vS s=false):=by show vS s=false;rw[←ht.out];exact ZU (by omega) (Z6 hb0 hx0 (by decide) ((.inr (.inr (.inr (.inr (by rw[←B2.out];exact p4)))))))
          go_wp2_with fail;go_quiet (fail);go_wp2;go_ret;exact⟨by rw[Hno.out];rfl,Zf (hB.alloc hB.size _) nq⟩
         ·have n4:¬(191:Int)<(((t[2]'g2).toNat:Nat):Int):=p4;have d4:decide ((191:Int)<(((t[2]'g2).toNat:Nat):Int))=false:=by simpa using p4
          have d4n:decide (191<(t[2]'g2).toNat)=false:=by simp;omega
          clear p4
          have hv:Za3 t=3:=by
           refine Zd3 hb0 hx0 (by decide) ?_;rw[←B1.out,←B2.out];rintro(z|z|z|z|z)
           ·exact n0 z
           ·exact n1 z
           ·exact n2 z
           ·exact n3 z
           ·exact n4 z
          have Hgo:Hid (vS (t.extract 3 t.size)=vS s):=by show vS (t.extract 3 t.size)=vS s;rw[←ht.out];exact Zc2 (by omega) hv (by decide)
          have es:=Zq t 3;have is:(3:Int)≤(t.size:Int):=by omega
          clear hv;go_wp2_with fail;go_quiet (fail);go_wp2;go_roundw
          case rel=>exact⟨_,rfl,Hgo,by omega,Zf (hB.alloc hB.size _) nq⟩
          case measure=>simp[ZaR];omega
    ·as_aux_lemma=>
     have hx0:Lib.firstT (bt t 0).toNat=35:=by rw[hbN];exact hf
     rw[hf]at hc1;clear hf hbN;have q0:wr.cell? ⟨3,4,none⟩=some (.int .u8 128):=((T8.out.keep hB).2 2 (by decide)).1;have q1:wr.cell? ⟨3,5,none⟩=some (.int .u8 159):=((T8.out.keep hB).2 2 (by decide)).2;by_cases p0:((t.size:Nat):Int)<3
     ·have p0n:t.size<3:=by omega
      have Hno:Hid (vS s=false):=by show vS s=false;rw[←ht.out];exact ZU (by omega) (Z6 hb0 hx0 (by decide) (.inl p0n))
      go_wp2_with fail;go_quiet (fail);go_wp2;go_ret;exact⟨by rw[Hno.out];rfl,Zf (hB.alloc hB.size _) nq⟩
     ·have n0:¬t.size<3:=by omega
      have d0:decide (((t.size:Nat):Int)<3)=false:=by simp;omega
      have d0n:decide (t.size<3)=false:=by simp;omega
      clear p0;have g1:1<t.size:=by omega
      have gI1:(1:Int)<(t.size:Int):=by omega
      have B1:=Za (ZQ t 1 g1);have g2:2<t.size:=by omega
      have gI2:(2:Int)<(t.size:Int):=by omega
      have B2:=Za (ZQ t 2 g2);by_cases p1:(((t[1]'g1).toNat:Nat):Int)<128
      ·have p1n:(t[1]'g1).toNat<128:=by omega
       have Hno:Hid (vS s=false):=by show vS s=false;rw[←ht.out];exact ZU (by omega) (Z6 hb0 hx0 (by decide) ((.inr (.inl (by rw[←B1.out];exact p1)))))
       go_wp2_with fail;go_quiet (fail);go_wp2;go_ret;exact⟨by rw[Hno.out];rfl,Zf (hB.alloc hB.size _) nq⟩
      ·have n1:¬(((t[1]'g1).toNat:Nat):Int)<128:=p1;have d1:decide ((((t[1]'g1).toNat:Nat):Int)<128)=false:=by simpa using p1
       have d1n:decide ((t[1]'g1).toNat<128)=false:=by simp;omega
       clear p1;by_cases p2:(159:Int)<(((t[1]'g1).toNat:Nat):Int)
       ·have p2n:159<(t[1]'g1).toNat:=by omega
        have Hno:Hid (vS s=false):=by show vS s=false;rw[←ht.out];exact ZU (by omega) (Z6 hb0 hx0 (by decide) ((.inr (.inr (.inl (by rw[←B1.out];exact p2))))))
        go_wp2_with fail;go_quiet (fail);go_wp2;go_ret;exact⟨by rw[Hno.out];rfl,Zf (hB.alloc hB.size _) nq⟩
       ·have n2:¬(159:Int)<(((t[1]'g1).toNat:Nat):Int):=p2;have d2:decide ((159:Int)<(((t[1]'g1).toNat:Nat):Int))=false:=by simpa using p2
        have d2n:decide (159<(t[1]'g1).toNat)=false:=by simp;omega
        clear p2;by_cases p3:(((t[2]'g2).toNat:Nat):Int)<128
        ·have p3n:(t[2]'g2).toNat<128:=by omega
         have Hno:Hid (vS s=false):=by show vS s=false;rw[←ht.out];exact ZU (by omega) (Z6 hb0 hx0 (by decide) ((.inr (.inr (.inr (.inl (by rw[←B2.out];exact p3)))))))
         go_wp2_with fail;go_quiet (fail);go_wp2;go_ret;exact⟨by rw[Hno.out];rfl,Zf (hB.alloc hB.size _) nq⟩
        ·have n3:¬(((t[2]'g2).toNat:Nat):Int)<128:=p3;have d3:decide ((((t[2]'g2).toNat:Nat):Int)<128)=false:=by simpa using p3
         have d3n:decide ((t[2]'g2).toNat<128)=false:=by simp;omega
         clear p3;by_cases p4:(191:Int)<(((t[2]'g2).toNat:Nat):Int)
         ·have p4n:191<(t[2]'g2).toNat:=by omega
          have Hno:Hid (vS s=false):=by show vS s=false;rw[←ht.out];exact ZU (by omega) (Z6 hb0 hx0 (by decide) ((.inr (.inr (.inr (.inr (by rw[←B2.out];exact p4)))))))
          go_wp2_with fail;go_quiet (fail);go_wp2;go_ret;exact⟨by rw[Hno.out];rfl,Zf (hB.alloc hB.size _) nq⟩
         ·have n4:¬(191:Int)<(((t[2]'g2).toNat:Nat):Int):=p4;have d4:decide ((191:Int)<(((t[2]'g2).toNat:Nat):Int))=false:=by simpa using p4
          have d4n:decide (191<(t[2]'g2).toNat)=false:=by simp;omega
          clear p4
          have hv:Za3 t=3:=by
           refine Zd3 hb0 hx0 (by decide) ?_;rw[←B1.out,←B2.out];rintro(z|z|z|z|z)
           ·exact n0 z
           ·exact n1 z
           ·exact n2 z
           ·exact n3 z
           ·exact n4 z
          have Hgo:Hid (vS (t.extract 3 t.size)=vS s):=by show vS (t.extract 3 t.size)=vS s;rw[←ht.out];exact Zc2 (by omega) hv (by decide)
          have es:=Zq t 3;have is:(3:Int)≤(t.size:Int):=by omega
          clear hv;go_wp2_with fail;go_quiet (fail);go_wp2;go_roundw
          case rel=>exact⟨_,rfl,Hgo,by omega,Zf (hB.alloc hB.size _) nq⟩
          case measure=>simp[ZaR];omega
    ·as_aux_lemma=>
     have hx0:Lib.firstT (bt t 0).toNat=52:=by rw[hbN];exact hf
     rw[hf]at hc1;clear hf hbN;have q0:wr.cell? ⟨3,6,none⟩=some (.int .u8 144):=((T8.out.keep hB).2 3 (by decide)).1;have q1:wr.cell? ⟨3,7,none⟩=some (.int .u8 191):=((T8.out.keep hB).2 3 (by decide)).2;by_cases p0:((t.size:Nat):Int)<4
     ·have p0n:t.size<4:=by omega
      have Hno:Hid (vS s=false):=by show vS s=false;rw[←ht.out];exact ZU (by omega) (ZK hb0 hx0 (by decide) (.inl p0n))
      go_wp2_with fail;go_quiet (fail);go_wp2;go_ret;exact⟨by rw[Hno.out];rfl,Zf (hB.alloc hB.size _) nq⟩
     ·have n0:¬t.size<4:=by omega
      have d0:decide (((t.size:Nat):Int)<4)=false:=by simp;omega
      have d0n:decide (t.size<4)=false:=by simp;omega
      clear p0;have g1:1<t.size:=by omega
      have gI1:(1:Int)<(t.size:Int):=by omega
      have B1:=Za (ZQ t 1 g1);have g2:2<t.size:=by omega
      have gI2:(2:Int)<(t.size:Int):=by omega
      have B2:=Za (ZQ t 2 g2);have g3:3<t.size:=by omega
      have gI3:(3:Int)<(t.size:Int):=by omega
      have B3:=Za (ZQ t 3 g3);by_cases p1:(((t[1]'g1).toNat:Nat):Int)<144
      ·have p1n:(t[1]'g1).toNat<144:=by omega
       have Hno:Hid (vS s=false):=by show vS s=false;rw[←ht.out];exact ZU (by omega) (ZK hb0 hx0 (by decide) ((.inr (.inl (by rw[←B1.out];exact p1)))))
       go_wp2_with fail;go_quiet (fail);go_wp2;go_ret;exact⟨by rw[Hno.out];rfl,Zf (hB.alloc hB.size _) nq⟩
      ·have n1:¬(((t[1]'g1).toNat:Nat):Int)<144:=p1;have d1:decide ((((t[1]'g1).toNat:Nat):Int)<144)=false:=by simpa using p1
       have d1n:decide ((t[1]'g1).toNat<144)=false:=by simp;omega
       clear p1;by_cases p2:(191:Int)<(((t[1]'g1).toNat:Nat):Int)
       ·have p2n:191<(t[1]'g1).toNat:=by omega
        have Hno:Hid (vS s=false):=by show vS s=false;rw[←ht.out];exact ZU (by omega) (ZK hb0 hx0 (by decide) ((.inr (.inr (.inl (by rw[←B1.out];exact p2))))))
        go_wp2_with fail;go_quiet (fail);go_wp2;go_ret;exact⟨by rw[Hno.out];rfl,Zf (hB.alloc hB.size _) nq⟩
       ·have n2:¬(191:Int)<(((t[1]'g1).toNat:Nat):Int):=p2;have d2:decide ((191:Int)<(((t[1]'g1).toNat:Nat):Int))=false:=by simpa using p2
        have d2n:decide (191<(t[1]'g1).toNat)=false:=by simp;omega
        clear p2;by_cases p3:(((t[2]'g2).toNat:Nat):Int)<128
        ·have p3n:(t[2]'g2).toNat<128:=by omega
         have Hno:Hid (vS s=false):=by show vS s=false;rw[←ht.out];exact ZU (by omega) (ZK hb0 hx0 (by decide) ((.inr (.inr (.inr (.inl (by rw[←B2.out];exact p3)))))))
         go_wp2_with fail;go_quiet (fail);go_wp2;go_ret;exact⟨by rw[Hno.out];rfl,Zf (hB.alloc hB.size _) nq⟩
        ·have n3:¬(((t[2]'g2).toNat:Nat):Int)<128:=p3;have d3:decide ((((t[2]'g2).toNat:Nat):Int)<128)=false:=by simpa using p3
         have d3n:decide ((t[2]'g2).toNat<128)=false:=by simp;omega
         clear p3;by_cases p4:(191:Int)<(((t[2]'g2).toNat:Nat):Int)
         ·have p4n:191<(t[2]'g2).toNat:=by omega
          have Hno:Hid (vS s=false):=by show vS s=false;rw[←ht.out];exact ZU (by omega) (ZK hb0 hx0 (by decide) ((.inr (.inr (.inr (.inr (.inl (by rw[←B2.out];exact p4))))))))
          go_wp2_with fail;go_quiet (fail);go_wp2;go_ret;exact⟨by rw[Hno.out];rfl,Zf (hB.alloc hB.size _) nq⟩
         ·have n4:¬(191:Int)<(((t[2]'g2).toNat:Nat):Int):=p4;have d4:decide ((191:Int)<(((t[2]'g2).toNat:Nat):Int))=false:=by simpa using p4
          have d4n:decide (191<(t[2]'g2).toNat)=false:=by simp;omega
          clear p4;by_cases p5:(((t[3]'g3).toNat:Nat):Int)<128
          ·have p5n:(t[3]'g3).toNat<128:=by omega
           have Hno:Hid (vS s=false):=by show vS s=false;rw[←ht.out];exact ZU (by omega) (ZK hb0 hx0 (by decide) ((.inr (.inr (.inr (.inr (.inr (.inl (by rw[←B3.out];exact p5)))))))))
           go_wp2_with fail;go_quiet (fail);go_wp2;go_ret;exact⟨by rw[Hno.out];rfl,Zf (hB.alloc hB.size _) nq⟩
          ·have n5:¬(((t[3]'g3).toNat:Nat):Int)<128:=p5;have d5:decide ((((t[3]'g3).toNat:Nat):Int)<128)=false:=by simpa using p5
           have d5n:decide ((t[3]'g3).toNat<128)=false:=by simp;omega
           clear p5;by_cases p6:(191:Int)<(((t[3]'g3).toNat:Nat):Int)
           ·have p6n:191<(t[3]'g3).toNat:=by omega
            have Hno:Hid (vS s=false):=by show vS s=false;rw[←ht.out];exact ZU (by omega) (ZK hb0 hx0 (by decide) ((.inr (.inr (.inr (.inr (.inr (.inr (by rw[←B3.out];exact p6)))))))))
            go_wp2_with fail;go_quiet (fail);go_wp2;go_ret;exact⟨by rw[Hno.out];rfl,Zf (hB.alloc hB.size _) nq⟩
           ·have n6:¬(191:Int)<(((t[3]'g3).toNat:Nat):Int):=p6;have d6:decide ((191:Int)<(((t[3]'g3).toNat:Nat):Int))=false:=by simpa using p6
            have d6n:decide (191<(t[3]'g3).toNat)=false:=by simp;omega
            clear p6
            have hv:Za3 t=4:=by
             refine Zd4 hb0 hx0 (by decide) ?_;rw[←B1.out,←B2.out,←B3.out];rintro(z|z|z|z|z|z|z)
             ·exact n0 z
             ·exact n1 z
             ·exact n2 z
             ·exact n3 z
             ·exact n4 z
             ·exact n5 z
             ·exact n6 z
            have Hgo:Hid (vS (t.extract 4 t.size)=vS s):=by show vS (t.extract 4 t.size)=vS s;rw[←ht.out];exact Zc2 (by omega) hv (by decide)
            have es:=Zq t 4;have is:(4:Int)≤(t.size:Int):=by omega
            clear hv;go_wp2_with fail;go_quiet (fail);go_wp2;go_roundw
            case rel=>exact⟨_,rfl,Hgo,by omega,Zf (hB.alloc hB.size _) nq⟩
            case measure=>simp[ZaR];omega
    ·as_aux_lemma=>
     have hx0:Lib.firstT (bt t 0).toNat=4:=by rw[hbN];exact hf
     rw[hf]at hc1;clear hf hbN;have q0:wr.cell? ⟨3,0,none⟩=some (.int .u8 128):=((T8.out.keep hB).2 0 (by decide)).1;have q1:wr.cell? ⟨3,1,none⟩=some (.int .u8 191):=((T8.out.keep hB).2 0 (by decide)).2;by_cases p0:((t.size:Nat):Int)<4
     ·have p0n:t.size<4:=by omega
      have Hno:Hid (vS s=false):=by show vS s=false;rw[←ht.out];exact ZU (by omega) (ZK hb0 hx0 (by decide) (.inl p0n))
      go_wp2_with fail;go_quiet (fail);go_wp2;go_ret;exact⟨by rw[Hno.out];rfl,Zf (hB.alloc hB.size _) nq⟩
     ·have n0:¬t.size<4:=by omega
      have d0:decide (((t.size:Nat):Int)<4)=false:=by simp;omega
      have d0n:decide (t.size<4)=false:=by simp;omega
      clear p0;have g1:1<t.size:=by omega
      have gI1:(1:Int)<(t.size:Int):=by omega
      have B1:=Za (ZQ t 1 g1);have g2:2<t.size:=by omega
      have gI2:(2:Int)<(t.size:Int):=by omega
      have B2:=Za (ZQ t 2 g2);have g3:3<t.size:=by omega
      have gI3:(3:Int)<(t.size:Int):=by omega
      have B3:=Za (ZQ t 3 g3);by_cases p1:(((t[1]'g1).toNat:Nat):Int)<128
      ·have p1n:(t[1]'g1).toNat<128:=by omega
       have Hno:Hid (vS s=false):=by show vS s=false;rw[←ht.out];exact ZU (by omega) (ZK hb0 hx0 (by decide) ((.inr (.inl (by rw[←B1.out];exact p1)))))
       go_wp2_with fail;go_quiet (fail);go_wp2;go_ret;exact⟨by rw[Hno.out];rfl,Zf (hB.alloc hB.size _) nq⟩
      ·have n1:¬(((t[1]'g1).toNat:Nat):Int)<128:=p1;have d1:decide ((((t[1]'g1).toNat:Nat):Int)<128)=false:=by simpa using p1
       have d1n:decide ((t[1]'g1).toNat<128)=false:=by simp;omega
       clear p1;by_cases p2:(191:Int)<(((t[1]'g1).toNat:Nat):Int)
       ·have p2n:191<(t[1]'g1).toNat:=by omega
        have Hno:Hid (vS s=false):=by show vS s=false;rw[←ht.out];exact ZU (by omega) (ZK hb0 hx0 (by decide) ((.inr (.inr (.inl (by rw[←B1.out];exact p2))))))
        go_wp2_with fail;go_quiet (fail);go_wp2;go_ret;exact⟨by rw[Hno.out];rfl,Zf (hB.alloc hB.size _) nq⟩
       ·have n2:¬(191:Int)<(((t[1]'g1).toNat:Nat):Int):=p2;have d2:decide ((191:Int)<(((t[1]'g1).toNat:Nat):Int))=false:=by simpa using p2
        have d2n:decide (191<(t[1]'g1).toNat)=false:=by simp;omega
        clear p2;by_cases p3:(((t[2]'g2).toNat:Nat):Int)<128
        ·have p3n:(t[2]'g2).toNat<128:=by omega
         have Hno:Hid (vS s=false):=by show vS s=false;rw[←ht.out];exact ZU (by omega) (ZK hb0 hx0 (by decide) ((.inr (.inr (.inr (.inl (by rw[←B2.out];exact p3)))))))
         go_wp2_with fail;go_quiet (fail);go_wp2;go_ret;exact⟨by rw[Hno.out];rfl,Zf (hB.alloc hB.size _) nq⟩
        ·have n3:¬(((t[2]'g2).toNat:Nat):Int)<128:=p3;have d3:decide ((((t[2]'g2).toNat:Nat):Int)<128)=false:=by simpa using p3
         have d3n:decide ((t[2]'g2).toNat<128)=false:=by simp;omega
         clear p3;by_cases p4:(191:Int)<(((t[2]'g2).toNat:Nat):Int)
         ·have p4n:191<(t[2]'g2).toNat:=by omega
          have Hno:Hid (vS s=false):=by show vS s=false;rw[←ht.out];exact ZU (by omega) (ZK hb0 hx0 (by decide) ((.inr (.inr (.inr (.inr (.inl (by rw[←B2.out];exact p4))))))))
          go_wp2_with fail;go_quiet (fail);go_wp2;go_ret;exact⟨by rw[Hno.out];rfl,Zf (hB.alloc hB.size _) nq⟩
         ·have n4:¬(191:Int)<(((t[2]'g2).toNat:Nat):Int):=p4;have d4:decide ((191:Int)<(((t[2]'g2).toNat:Nat):Int))=false:=by simpa using p4
          have d4n:decide (191<(t[2]'g2).toNat)=false:=by simp;omega
          clear p4;by_cases p5:(((t[3]'g3).toNat:Nat):Int)<128
          ·have p5n:(t[3]'g3).toNat<128:=by omega
           have Hno:Hid (vS s=false):=by show vS s=false;rw[←ht.out];exact ZU (by omega) (ZK hb0 hx0 (by decide) ((.inr (.inr (.inr (.inr (.inr (.inl (by rw[←B3.out];exact p5)))))))))
           go_wp2_with fail;go_quiet (fail);go_wp2;go_ret;exact⟨by rw[Hno.out];rfl,Zf (hB.alloc hB.size _) nq⟩
          ·have n5:¬(((t[3]'g3).toNat:Nat):Int)<128:=p5;have d5:decide ((((t[3]'g3).toNat:Nat):Int)<128)=false:=by simpa using p5
           have d5n:decide ((t[3]'g3).toNat<128)=false:=by simp;omega
           clear p5;by_cases p6:(191:Int)<(((t[3]'g3).toNat:Nat):Int)
           ·have p6n:191<(t[3]'g3).toNat:=by omega
            have Hno:Hid (vS s=false):=by show vS s=false;rw[←ht.out];exact ZU (by omega) (ZK hb0 hx0 (by decide) ((.inr (.inr (.inr (.inr (.inr (.inr (by rw[←B3.out];exact p6)))))))))
            go_wp2_with fail;go_quiet (fail);go_wp2;go_ret;exact⟨by rw[Hno.out];rfl,Zf (hB.alloc hB.size _) nq⟩
           ·have n6:¬(191:Int)<(((t[3]'g3).toNat:Nat):Int):=p6;have d6:decide ((191:Int)<(((t[3]'g3).toNat:Nat):Int))=false:=by simpa using p6
            have d6n:decide (191<(t[3]'g3).toNat)=false:=by simp;omega
            clear p6
            have hv:Za3 t=4:=by
             refine Zd4 hb0 hx0 (by decide) ?_;rw[←B1.out,←B2.out,←B3.out];rintro(z|z|z|z|z|z|z)
             ·exact n0 z
             ·exact n1 z
             ·exact n2 z
             ·exact n3 z
             ·exact n4 z
             ·exact n5 z
             ·exact n6 z
            have Hgo:Hid (vS (t.extract 4 t.size)=vS s):=by show vS (t.extract 4 t.size)=vS s;rw[←ht.out];exact Zc2 (by omega) hv (by decide)
            have es:=Zq t 4;have is:(4:Int)≤(t.size:Int):=by omega
            clear hv;go_wp2_with fail;go_quiet (fail);go_wp2;go_roundw
            case rel=>exact⟨_,rfl,Hgo,by omega,Zf (hB.alloc hB.size _) nq⟩
            case measure=>simp[ZaR];omega
    ·as_aux_lemma=>
     have hx0:Lib.firstT (bt t 0).toNat=68:=by rw[hbN];exact hf
     rw[hf]at hc1;clear hf hbN;have q0:wr.cell? ⟨3,8,none⟩=some (.int .u8 128):=((T8.out.keep hB).2 4 (by decide)).1;have q1:wr.cell? ⟨3,9,none⟩=some (.int .u8 143):=((T8.out.keep hB).2 4 (by decide)).2;by_cases p0:((t.size:Nat):Int)<4
     ·have p0n:t.size<4:=by omega
      have Hno:Hid (vS s=false):=by show vS s=false;rw[←ht.out];exact ZU (by omega) (ZK hb0 hx0 (by decide) (.inl p0n))
      go_wp2_with fail;go_quiet (fail);go_wp2;go_ret;exact⟨by rw[Hno.out];rfl,Zf (hB.alloc hB.size _) nq⟩
     ·have n0:¬t.size<4:=by omega
      have d0:decide (((t.size:Nat):Int)<4)=false:=by simp;omega
      have d0n:decide (t.size<4)=false:=by simp;omega
      clear p0;have g1:1<t.size:=by omega
      have gI1:(1:Int)<(t.size:Int):=by omega
      have B1:=Za (ZQ t 1 g1);have g2:2<t.size:=by omega
      have gI2:(2:Int)<(t.size:Int):=by omega
      have B2:=Za (ZQ t 2 g2);have g3:3<t.size:=by omega
      have gI3:(3:Int)<(t.size:Int):=by omega
      have B3:=Za (ZQ t 3 g3);by_cases p1:(((t[1]'g1).toNat:Nat):Int)<128
      ·have p1n:(t[1]'g1).toNat<128:=by omega
       have Hno:Hid (vS s=false):=by show vS s=false;rw[←ht.out];exact ZU (by omega) (ZK hb0 hx0 (by decide) ((.inr (.inl (by rw[←B1.out];exact p1)))))
       go_wp2_with fail;go_quiet (fail);go_wp2;go_ret;exact⟨by rw[Hno.out];rfl,Zf (hB.alloc hB.size _) nq⟩
      ·have n1:¬(((t[1]'g1).toNat:Nat):Int)<128:=p1;have d1:decide ((((t[1]'g1).toNat:Nat):Int)<128)=false:=by simpa using p1
       have d1n:decide ((t[1]'g1).toNat<128)=false:=by simp;omega
       clear p1;by_cases p2:(143:Int)<(((t[1]'g1).toNat:Nat):Int)
       ·have p2n:143<(t[1]'g1).toNat:=by omega
        have Hno:Hid (vS s=false):=by show vS s=false;rw[←ht.out];exact ZU (by omega) (ZK hb0 hx0 (by decide) ((.inr (.inr (.inl (by rw[←B1.out];exact p2))))))
        go_wp2_with fail;go_quiet (fail);go_wp2;go_ret;exact⟨by rw[Hno.out];rfl,Zf (hB.alloc hB.size _) nq⟩
       ·have n2:¬(143:Int)<(((t[1]'g1).toNat:Nat):Int):=p2;have d2:decide ((143:Int)<(((t[1]'g1).toNat:Nat):Int))=false:=by simpa using p2
        have d2n:decide (143<(t[1]'g1).toNat)=false:=by simp;omega
        clear p2;by_cases p3:(((t[2]'g2).toNat:Nat):Int)<128
        ·have p3n:(t[2]'g2).toNat<128:=by omega
         have Hno:Hid (vS s=false):=by show vS s=false;rw[←ht.out];exact ZU (by omega) (ZK hb0 hx0 (by decide) ((.inr (.inr (.inr (.inl (by rw[←B2.out];exact p3)))))))
         go_wp2_with fail;go_quiet (fail);go_wp2;go_ret;exact⟨by rw[Hno.out];rfl,Zf (hB.alloc hB.size _) nq⟩
        ·have n3:¬(((t[2]'g2).toNat:Nat):Int)<128:=p3;have d3:decide ((((t[2]'g2).toNat:Nat):Int)<128)=false:=by simpa using p3
         have d3n:decide ((t[2]'g2).toNat<128)=false:=by simp;omega
         clear p3;by_cases p4:(191:Int)<(((t[2]'g2).toNat:Nat):Int)
         ·have p4n:191<(t[2]'g2).toNat:=by omega
          have Hno:Hid (vS s=false):=by show vS s=false;rw[←ht.out];exact ZU (by omega) (ZK hb0 hx0 (by decide) ((.inr (.inr (.inr (.inr (.inl (by rw[←B2.out];exact p4))))))))
          go_wp2_with fail;go_quiet (fail);go_wp2;go_ret;exact⟨by rw[Hno.out];rfl,Zf (hB.alloc hB.size _) nq⟩
         ·have n4:¬(191:Int)<(((t[2]'g2).toNat:Nat):Int):=p4;have d4:decide ((191:Int)<(((t[2]'g2).toNat:Nat):Int))=false:=by simpa using p4
          have d4n:decide (191<(t[2]'g2).toNat)=false:=by simp;omega
          clear p4;by_cases p5:(((t[3]'g3).toNat:Nat):Int)<128
          ·have p5n:(t[3]'g3).toNat<128:=by omega
           have Hno:Hid (vS s=false):=by show vS s=false;rw[←ht.out];exact ZU (by omega) (ZK hb0 hx0 (by decide) ((.inr (.inr (.inr (.inr (.inr (.inl (by rw[←B3.out];exact p5)))))))))
           go_wp2_with fail;go_quiet (fail);go_wp2;go_ret;exact⟨by rw[Hno.out];rfl,Zf (hB.alloc hB.size _) nq⟩
          ·have n5:¬(((t[3]'g3).toNat:Nat):Int)<128:=p5;have d5:decide ((((t[3]'g3).toNat:Nat):Int)<128)=false:=by simpa using p5
           have d5n:decide ((t[3]'g3).toNat<128)=false:=by simp;omega
           clear p5;by_cases p6:(191:Int)<(((t[3]'g3).toNat:Nat):Int)
           ·have p6n:191<(t[3]'g3).toNat:=by omega
            have Hno:Hid (vS s=false):=by show vS s=false;rw[←ht.out];exact ZU (by omega) (ZK hb0 hx0 (by decide) ((.inr (.inr (.inr (.inr (.inr (.inr (by rw[←B3.out];exact p6)))))))))
            go_wp2_with fail;go_quiet (fail);go_wp2;go_ret;exact⟨by rw[Hno.out];rfl,Zf (hB.alloc hB.size _) nq⟩
           ·have n6:¬(191:Int)<(((t[3]'g3).toNat:Nat):Int):=p6;have d6:decide ((191:Int)<(((t[3]'g3).toNat:Nat):Int))=false:=by simpa using p6
            have d6n:decide (191<(t[3]'g3).toNat)=false:=by simp;omega
            clear p6
            have hv:Za3 t=4:=by
             refine Zd4 hb0 hx0 (by decide) ?_;rw[←B1.out,←B2.out,←B3.out];rintro(z|z|z|z|z|z|z)
             ·exact n0 z
             ·exact n1 z
             ·exact n2 z
             ·exact n3 z
             ·exact n4 z
             ·exact n5 z
             ·exact n6 z
            have Hgo:Hid (vS (t.extract 4 t.size)=vS s):=by show vS (t.extract 4 t.size)=vS s;rw[←ht.out];exact Zc2 (by omega) hv (by decide)
            have es:=Zq t 4;have is:(4:Int)≤(t.size:Int):=by omega
            clear hv;go_wp2_with fail;go_quiet (fail);go_wp2;go_roundw
            case rel=>exact⟨_,rfl,Hgo,by omega,Zf (hB.alloc hB.size _) nq⟩
            case measure=>simp[ZaR];omega
  ·have hI:¬(0:Int)<t.size:=by omega
   have hvs:Hid (vS s=true):=by show vS s=true;rw[←ht.out];exact ZoB (by omega)
   go_wp2;go_ret;exact⟨by rw[hvs.out];rfl,hB⟩
end Go.Proofs.YtnnfhojhbbcbmaaGreatDoor
