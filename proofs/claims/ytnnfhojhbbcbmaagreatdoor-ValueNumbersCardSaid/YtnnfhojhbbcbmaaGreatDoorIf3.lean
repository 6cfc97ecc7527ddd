/- parchmentkit.flatItems of rows that lie apart. -/
import Derived.Test.YtnnfhojhbbcbmaaGreatDoorC27
import Derived.Test.YtnnfhojhbbcbmaaGreatDoorC18
namespace Go.Proofs.YtnnfhojhbbcbmaaGreatDoor
open Go.RowKit
def mk1(k:Nat):Nat→Nat→List It:=fun j n=>if j<k then imk j n else []
def mk2(k i:Nat):Nat→Nat→List It:=fun j n=>if j=k then imk j i else if j<k then imk j n else []
structure F1 (Bz gl cl:Nat) (w W:World) (ps:List PcI) (f:Nat→Nat→List It):Prop where
 ls:Ls W gl cl ps
 al:All W ps f
 be:KeptI ps w W
theorem F1.keep {Bz gl cl:Nat}{w W W':World}{ps:List PcI}{f:Nat→Nat→List It}(F:F1 Bz gl cl w W ps f)(hb:Below W.heap.size W W'):F1 Bz gl cl w W' ps f:=⟨F.ls.keep hb,F.al.keep hb,F.be.keep hb⟩
set_option maxRecDepth 100000 in
set_option maxHeartbeats 8000000 in
theorem Zgf(gl cl N:Nat)(ps:List PcI)(w:World)(hN:N=ps.length)(hNb:N≤1000)(hls:Ls w gl cl ps)(hal:All w ps (fun _ _=>[]))(hd:Zm1 ps)(hsm:∀p∈ps,p.2.1≤1000∧p.2.1≤p.2.2.1):
  Calls Tryz.prog 136 #[.slice (some ⟨gl,0,none⟩) N cl] w fun e w'=>e= .returned (.bool true)∧KeptI ps w w':=by
 have HN:=Za hN;have Hd:=Za hd;have Hsm:=Za hsm;have hF0:F1 w.heap.size gl cl w w ps (mk1 0):=⟨hls,hal.congr fun j p _=>by simp[mk1],KeptI.refl _ _⟩;clear hN hd hsm hls hal;go_enter Tryz.func136,Tryz.ntmps136;go_wp2_with fail;go_loopw[3] (fun x W=>∃k:Nat,k≤N∧x= .int .i64 k∧F1 w.heap.size gl cl w W ps (mk1 k)) (fun x _=>N-(intOf x).toNat)
 case atStart=>exact⟨0,Nat.zero_le _,rfl,hF0⟩
 case round=>
  clear hF0;obtain⟨k,hk,rfl,F⟩:=hrel;by_cases hkN:k<N
  ·obtain⟨p,hp⟩:∃p,ps[k]? =some p:=⟨_,List.getElem?_eq_getElem (by rw[←HN.out];exact hkN)⟩;obtain⟨b,n,c,a⟩:=p;have hpm:=List.mem_of_getElem? hp;have hsz:=Hsm.out _ hpm;have hn1:n≤1000:=hsz.1;have hnc:n≤c:=hsz.2;have hix:=fun W=>ZP gl 0 N cl k hkN W;simp only[Nat.zero_add]at hix
   have hF1:F1 w.heap.size gl cl w wr ps (mk2 k 0):=⟨F.ls,F.al.congr fun j p hp=>by
    unfold mk1 mk2;by_cases e:j=k
    ·subst e;simp[imk]
    ·rw[if_neg e],F.be⟩
   have Hp:=Za hp;clear F hp hsz;go_wp2_with fail;go_loopw[4] (fun x W=>∃i:Nat,i≤n∧x= .int .i64 i∧F1 w.heap.size gl cl w W ps (mk2 k i)) (fun x _=>n-(intOf x).toNat)
   case atStart=>exact⟨0,Nat.zero_le _,rfl,hF1⟩
   case round=>
    clear hF1;obtain⟨i,hi,rfl,F⟩:=hrel;have hcl:wr.cell? ⟨gl,k,none⟩=some (.slice a n c):=F.ls.cell k _ Hp.out;by_cases hin:i<n
    ·as_aux_lemma=>
     have hct:ContI wr.drew (b,n,c,a) (imk k i):=by have h:ContI wr.drew (b,n,c,a) (mk2 k i k n):=F.al k _ Hp.out;simpa[mk2]using h
     have hgl0:∀g,b=some g→g≠gl:=fun g hg=>by
      rcases hct with⟨h1,_⟩|⟨g',h1,_,_,h2⟩
      ·rw[hg]at h1;cases h1
      ·rw[hg]at h1;injection h1 with h1;subst h1;exact Ls.ne (W:=wr.drew) F.ls h2
     obtain⟨g,cur,cur1,hbg,hba,hcur,hset,hdone⟩:=hct.set (mkI k i) (by rw[Zx];exact Nat.lt_of_lt_of_le hin hnc);rw[Zx]at hset;dsimp only at hbg hba;have hgl:=hgl0 g hbg;subst hbg hba;have hgs:g<wr.drew.heap.size:=ZD hcur;have hiy:∀W,(Instr.indexAt 28 (.slice (some ⟨g,0,none⟩) n c) (.int .i64 (i:Int))).run Tryz.prog W= .ok (.pointer (some ⟨g,i*4,none⟩)) W:=fun W=>by have:=Zr g 0 n c i hin W;simpa using this
     have Hcur:=Za hcur;have Hset:=Za hset;have Hdone:=Za hdone;have HF:=Za F;have Hcl:=Za hcl;clear hct hgl0 hcur hset hdone F;go_wp2_with fail
     refine RV.wp_region_facts (R:=RJ g (.cells cur1 24 (0,0))) [eqJ g (.cells cur1 24 (0,0)) 31 (.slice (some ⟨gl,0,none⟩) N cl),eqJ g (.cells cur1 24 (0,0)) 32 (.int .i64 k),eqJ g (.cells cur1 24 (0,0)) 33 (.pointer (some ⟨gl,k,none⟩)),eqJ g (.cells cur1 24 (0,0)) 34 (.slice (some ⟨g,0,none⟩) n c),
      eqJ g (.cells cur1 24 (0,0)) 35 (.int .i64 i),eqJ g (.cells cur1 24 (0,0)) 36 (.int .i64 k),eqJ g (.cells cur1 24 (0,0)) 37 (.int .i64 i),eqJ g (.cells cur1 24 (0,0)) 38 (itV (mkI k i)),eqJ g (.cells cur1 24 (0,0)) 39 (.pointer (some ⟨g,i*4,none⟩)),Zpx g (.cells cur1 24 (0,0))] (by kernel_rfl) (by kernel_rfl) (by kernel_rfl) (RJ.refl _) (fun w _=>RJ.refl w) (fun _ _ _ h k=>h.trans k) ?_ ?_
     ·refine RV.stepsU_cons rfl ?_ (RV.stepsU_cons rfl ?_ (RV.stepsU_cons rfl ?_ (RV.stepsU_cons rfl ?_ (RV.stepsU_cons rfl ?_ (RV.stepsU_cons rfl ?_ (RV.stepsU_cons rfl ?_ (RV.stepsU_cons rfl ?_ (RV.stepsU_cons rfl ?_ (RV.stepsU_cons rfl ?_ RV.stepsU_nil)))))))))
      ·refine RV.stepU_plain rfl fun u wr2 hR hK hD=>?_;exact Zd _ _ rfl (hK 0 rfl) ⟨RJ.refl _,rfl⟩
      ·refine RV.stepU_plain rfl fun u wr2 hR hK hD=>?_;exact Zd _ _ rfl (hK 3 rfl) ⟨RJ.refl _,rfl⟩
      ·refine RV.stepU_plain rfl fun u wr2 hR hK hD=>?_;have z1:u 31=_:=hD 0 rfl;have z2:u 32=_:=hD 1 rfl;exact Ze _ (by unfold execOp;simp[go_sem,evU,z1,z2,hix]) ⟨RJ.refl _,rfl⟩
      ·refine RV.stepU_plain rfl fun u wr2 hR hK hD=>?_;have z1:u 33=_:=hD 2 rfl;have z2:=RJ.cell hR (show wr.drew.cell? ⟨gl,k,none⟩=some (.slice (some ⟨g,0,none⟩) n c)from Hcl.out) (fun e=>hgl e.symm);exact Ze _ (by unfold execOp;simp[go_sem,evU,z1,z2]) ⟨RJ.refl _,rfl⟩
      ·refine RV.stepU_plain rfl fun u wr2 hR hK hD=>?_;exact Zd _ _ rfl (hK 4 rfl) ⟨RJ.refl _,rfl⟩
      ·refine RV.stepU_plain rfl fun u wr2 hR hK hD=>?_;exact Zd _ _ rfl (hK 3 rfl) ⟨RJ.refl _,rfl⟩
      ·refine RV.stepU_plain rfl fun u wr2 hR hK hD=>?_;exact Zd _ _ rfl (hK 4 rfl) ⟨RJ.refl _,rfl⟩
      ·refine RV.stepU_plain rfl fun u wr2 hR hK hD=>?_;exact Z1 _ _ _ _ _ Tryz.func58 (by kernel_rfl) rfl (hD 5 rfl) (hD 6 rfl) ((ZN _ _ _).mono fun e wn ⟨he,hb⟩=>⟨_,he,RJ.below (hR.lt hgs) hb,rfl⟩)
      ·refine RV.stepU_plain rfl fun u wr2 hR hK hD=>?_;have z1:u 34=_:=hD 3 rfl;have z2:u 35=_:=hD 4 rfl;exact Ze _ (by unfold execOp;simp[go_sem,evU,z1,z2,hiy]) ⟨RJ.refl _,rfl⟩
      ·refine RV.stepU_plain rfl fun u wr2 hR hK hD=>?_;have hrow:=hR.row;rw[Hcur.out]at hrow;have hst:=Hset.out wr2 hrow;refine Zig _ _ g (i*4) (mkI k i) cur1 rfl (hD 8 rfl) (hD 7 rfl) hst ?_;rcases hrow with hrow|hrow<;>exact⟨RJ.store hrow,setRow_heap _ _ _ _ _ _ hrow⟩
     intro u w2 hR hF;have hw2:w2.heap[g]? =some (.cells cur1 24 (0,0)):=hF 9 (by decide);have hgr:wr.drew.grownBy w2 (some g):=hR.grown
     have hF2:F1 w.heap.size gl cl w w2 ps (mk2 k (i+1)):=by
      refine⟨Ls.grown (W:=wr.drew) HF.out.ls hgr (by intro e;injection e with e;exact hgl e),?_,HF.out.be.drew.grown hgr fun b e=> .inl ⟨_,hpm,by injection e with e;subst e;rfl⟩⟩;have h1:All wr.drew ps (mk2 k i):=HF.out.al;refine(h1.step Hd.out hgr k _ Hp.out (fun g' e=>by injection e with e;subst e;exact .inl rfl) _ (Hdone.out w2 hw2)).congr fun j p hp=>?_;unfold mk2;by_cases e:j=k
      ·subst e;simp[ZdG]
      ·simp[e]
     simp only[ZaW,Act.put,List.setIfInBounds_toArray,List.set_cons_succ,List.set_cons_zero];clear hF hR hw2 hgr hcl Hcur Hset Hdone HF Hcl;go_wp2;go_roundw
     case rel=>exact⟨i+1,by omega,by go_num,hF2⟩
     case measure=>simp[intOf];omega
    ·have hin':i=n:=by omega
     subst hin'
     have hF2:F1 w.heap.size gl cl w wr ps (mk1 (k+1)):=⟨F.ls,F.al.congr fun j p hp=>by
      unfold mk1 mk2;by_cases e:j=k
      ·subst e;rw[Hp.out]at hp;injection hp with hp;rw[←hp];simp
      ·rw[if_neg e];by_cases h2:j<k
       ·rw[if_pos h2,if_pos (by omega)]
       ·rw[if_neg h2,if_neg (by omega)],F.be⟩
     clear F;go_wp2;go_roundw
     case rel=>exact⟨k+1,by omega,by go_num,hF2⟩
     case measure=>simp[intOf];omega
  ·have hkN':k=N:=by omega
   subst hkN';have hal:All wr ps (fun j n=>imk j n):=F.al.congr fun j p hp=>by have:=(List.getElem?_eq_some_iff.1 hp).1;unfold mk1;rw[if_pos (by rw[HN.out];exact this)]
   have hmk:=ZnM k (by omega) wr;obtain⟨gb,hgb⟩:∃b,b=wr.heap.size:=⟨_,rfl⟩
   have hL:Lie w.heap.size gl gb ps:=⟨Hd.out,fun q hq g hg=>by
     obtain⟨j,hj⟩:=List.mem_iff_getElem?.1 hq;rw[hgb];exact(hal j q hj).lt g hg,by rw[hgb];exact F.ls.lt,fun q hq e=>by
     obtain⟨j,hj⟩:=List.mem_iff_getElem?.1 hq;rcases hal j q hj with⟨h1,_⟩|⟨g,h1,_,_,h2⟩
     ·rw[h1]at e;cases e
     ·rw[h1]at e;injection e with e;exact F.ls.ne h2 e,by rw[hgb];exact F.be.size⟩
   have hb1:=(Below.refl wr.heap.size wr).alloc (Nat.le_refl _) (.cells (List.replicate k (Value.slice none 0 0)).toArray 28)
   have hS:F2 ct2 w.heap.size gl cl gb w (wr.alloc (.cells (List.replicate k (Value.slice none 0 0)).toArray 28)) ps (List.replicate k (Value.slice none 0 0)) 0 (gb+1):=
    ⟨F.ls.keep hb1,hal.keep hb1,by rw[hgb];exact Blk.new _ _ _,by rw[List.length_replicate];exact HN.out,fun j p hj=>absurd hj (by omega),by rw[hgb];simp,Nat.le_refl _,F.be.keep hb1⟩
   rw[←hgb]at hmk;obtain⟨W1,hW1⟩:∃W,W=wr.alloc (.cells (List.replicate k (Value.slice none 0 0)).toArray 28):=⟨_,rfl⟩;rw[←hW1]at hmk hS;have HL:=Za hL;clear F hal hb1 hL hW1 hgb;go_wp2_with fail;clear hmk;go_loopw[6] (fun x W=>∃(m:Nat) (vs:List Value) (base:Nat),m≤k∧x= .int .i64 m∧F2 ct2 w.heap.size gl cl gb w W ps vs m base) (fun x _=>k-(intOf x).toNat)
   case atStart=>exact⟨0,_,_,Nat.zero_le _,rfl,hS⟩
   case round=>
    clear hS;obtain⟨m,vs,base0,hm,rfl,F0⟩:=hrel
    have F:F2 ct2 w.heap.size gl cl gb w wr ps vs m wr.heap.size:=⟨F0.ls,F0.al,F0.gs,F0.ln,fun j p hj hp=>by
     obtain⟨v,h1,h2,h3⟩:=F0.st j p hj hp
     exact⟨v,h1,h2,fun b hb=>Nat.lt_of_lt_of_le (h3 b hb) F0.bs⟩,Nat.le_refl _,Nat.le_trans F0.gb1 F0.bs,F0.be⟩
    clear F0;by_cases hmk:m<k
    ·obtain⟨p,hp⟩:∃p,ps[m]? =some p:=⟨_,List.getElem?_eq_getElem (by rw[←HN.out];exact hmk)⟩;obtain⟨b,n,c,a⟩:=p;have hpm:=List.mem_of_getElem? hp;have hsz:=Hsm.out _ hpm;have hn1:n≤1000:=hsz.1;have hix:=fun W=>ZP gl 0 k cl m hmk W;have hix2:=fun W=>ZP gb 0 k k m hmk W;simp only[Nat.zero_add]at hix hix2;obtain⟨base,hbase⟩:∃x,x=wr.heap.size:=⟨_,rfl⟩;rw[←hbase]at F;have hG0:GrI base wr (b,n,c,a) (.slice a n c) (imk m (n+0)):=GrI.start (F.al m _ hp) (by rw[Zx];rfl);have hcl:wr.cell? ⟨gl,m,none⟩=some (.slice a n c):=F.ls.cell m _ hp;have Hp:=Za hp;clear hp hsz;go_wp2_with fail;go_loopw[7,8] (fun v x W=>∃i:Nat,i≤64∧x= .int .i64 i∧F2 ct2 w.heap.size gl cl gb w W ps vs m base∧GrI base W (b,n,c,a) v (imk m (n+i))) (fun _ x _=>64-(intOf x).toNat)
     case atStart=>exact⟨0,by omega,rfl,F,hG0⟩
     case round=>
      clear F hG0 hcl hbase;obtain⟨i,hi,rfl,F,G⟩:=hrel;obtain⟨av,cv,hv,hrdv⟩:=G.form;subst hv;rw[Zx];rw[Zx]at G;by_cases hi64:i<64
      ·as_aux_lemma=>
       have hcl:wr.cell? ⟨gl,m,none⟩=some (.slice a n c):=F.ls.cell m _ Hp.out;have hbz:w.heap.size≤wr.heap.size:=Nat.le_trans (Nat.le_trans HL.out.b (by have:=F.gb1;omega)) F.bs;have hpb:∀g,b=some g→g<base:=fun g hg=>by have:=HL.out.g _ hpm g hg;have:=F.gb1;omega
       have hmm:imk m (n+i)++[mkI m ((n:Int)+i)]=imk m (n+(i+1)):=by have:=ZdG m (n+i);rw[show((n+i:Nat):Int)=(n:Int)+i from by omega]at this;rw[←Nat.add_assoc];exact this.symm
       have HF0:=Za F;have HG0:=Za G;have Hpb:=Za hpb;have Hmm:=Za hmm;clear F G hpb hmm hrdv;go_wp2_with fail;refine(ZN _ _ _).mono ?_;rintro e w' ⟨rfl,hbm⟩;have hks:=(Below.refl w'.heap.size w').alloc (Nat.le_refl _) (.cells (Zi [mkI m ((n:Int)+i)]).toArray 24);have HF1:=Za ((HF0.out.keep hbm hbz).keep hks (Nat.le_trans hbz hbm.size));have HG1:=Za ((HG0.out.keep hbm).keep hks);clear hbm hks hcl HF0 HG0;go_wp2_with (at_builtin;refine Zdu (B:=base) (p:=(b,n,c,a)) (xs:=imk m (n+i)) (ys:=[mkI m ((n:Int)+i)]) rfl _ _ rfl (some ⟨w'.heap.size,0,none⟩) 1 1 rfl rfl ?a1 ?a2 rfl ?a3 ?a4 ?a5 ?_)
       case a1=>exact HG1.out
       case a2=>exact RdI.new _ _ [mkI m ((n:Int)+i)]
       case a3=>rw[Zx];simp;omega
       case a4=>exact HF1.out.bs
       case a5=>exact Hpb.out
       intro v' W3 G3 hg3;have F3:F2 ct2 w.heap.size gl cl gb w W3 ps vs m base:=HF1.out.app HL.out Hp.out HG1.out G3 (by rw[Hmm.out];exact Zms m _ n (by omega)) hg3;rw[Hmm.out]at G3;clear HF1 HG1 hg3;go_wp2;go_roundw
       case rel=>exact⟨i+1,by omega,by go_num,F3,G3⟩
       case measure=>simp[intOf];omega
      ·as_aux_lemma=>
       have hi':i=64:=by omega
       subst hi';have hmv:m<vs.length:=by rw[F.ln,←HN.out];exact hmk
       have hcg:wr.cell? ⟨gb,m,none⟩=some vs[m]:=by rw[F.gs.cell m];simp[hmv]
       have hfg:=F.gs.frozen m;have F':=F.put HL.out Hp.out G;have hls:=F'.bs;clear F G hrdv;go_wp2;go_roundw
       case rel=>exact⟨m+1,_,_,by omega,by go_num,F'⟩
       case measure=>simp[intOf];omega
    ·have hmk':m=k:=by omega
     subst hmk';obtain⟨base,hbase⟩:∃x,x=wr.heap.size:=⟨_,rfl⟩;rw[←hbase]at F;clear hbase;have hBzs:∀W vs base,F2 ct2 w.heap.size gl cl gb w W ps vs m base→w.heap.size≤W.heap.size:=fun W vs base F=>Nat.le_trans (Nat.le_trans HL.out.b (by have:=F.gb1;omega)) F.bs;have HBzs:=Za hBzs;clear hBzs;go_wp2_with fail;go_loopw[9] (fun x W=>∃q:Nat,q≤m∧x= .int .i64 q∧F2 ct2 w.heap.size gl cl gb w W ps vs m base) (fun x _=>m-(intOf x).toNat)
     case atStart=>exact⟨0,Nat.zero_le _,rfl,F⟩
     case round=>
      clear F;obtain⟨q,hq,rfl,F⟩:=hrel;by_cases hqm:q<m
      ·obtain⟨p,hp⟩:∃p,ps[q]? =some p:=⟨_,List.getElem?_eq_getElem (by rw[←HN.out];exact hqm)⟩;obtain⟨b,n,c,a⟩:=p;have hpm:=List.mem_of_getElem? hp;have hsz:=Hsm.out _ hpm;have hn1:n≤1000:=hsz.1;have hix:=fun W=>ZP gl 0 m cl q hqm W;have hix2:=fun W=>ZP gb 0 m m q hqm W;simp only[Nat.zero_add]at hix hix2;have Hp:=Za hp;clear hp hsz;go_wp2_with fail;go_loopw[10] (fun x W=>∃i:Nat,i≤n+64∧x= .int .i64 i∧F2 ct2 w.heap.size gl cl gb w W ps vs m base) (fun x _=>n+64-(intOf x).toNat)
       case atStart=>exact⟨0,by omega,rfl,F⟩
       case round=>
        clear F;obtain⟨i,hi,rfl,F⟩:=hrel;obtain⟨av,cv,hcg,hrv⟩:=F.grownAt q _ hqm Hp.out;dsimp only[ct2]at hcg hrv;rw[Zx]at hcg;obtain⟨nv,hnv⟩:∃x,x=n+64:=⟨_,rfl⟩;rw[←hnv]at hcg hrv hi;have hnvb:nv≤1064:=by omega
        have Hnv:=Za hnv;clear hnv;by_cases hin:i<nv
        ·obtain⟨bv,ov,hav,v0,v1,v2,v3⟩:=Zfn hrv i hin;subst hav;have hiv:=fun W=>Zr bv ov nv cv i hin W;have hcl:wr.cell? ⟨gl,q,none⟩=some (.slice a n c):=F.ls.cell q _ Hp.out;have hdn:decide (i<nv)=true:=decide_eq_true hin;have HF:=Za F;have hB:=Below.refl wr.heap.size wr;have Hwz:=Za (HBzs.out _ _ _ F);clear F hrv;by_cases hin2:i<n
         ·have hd2:(i:Int)<(n:Int):=by omega
          obtain⟨bp,op,hap,q0,q1,q2,q3⟩:=Zfn (HF.out.al q _ Hp.out).rd i hin2;dsimp only at hap;subst hap;have hip:=fun W=>Zr bp op n c i hin2 W;obtain⟨W0,rfl⟩:∃W0,W0=wr:=⟨_,rfl⟩;go_wp2_with fail;refine wp_region_facts (R:=RB W0.heap.size (⟨#[]⟩) (0)) [eqF _ _ _ 88 (.slice (some ⟨gb,0,none⟩) m m),eqF _ _ _ 89 (.int .i64 q),eqF _ _ _ 90 (.pointer (some ⟨gb,q,none⟩)),eqF _ _ _ 91 (.slice (some ⟨bv,ov,none⟩) nv cv),eqF _ _ _ 92 (.int .i64 i),eqF _ _ _ 93 (.pointer (some ⟨bv,ov+i*4,none⟩)),eqF _ _ _ 94 (.agg #[.int .u8 0,.int .i64 0,.string ⟨#[]⟩,.int .i64 (Zaj (q:Int) (i:Int))]),eqF _ _ _ 95 (.int .i64 q),eqF _ _ _ 96 (.int .i64 i),eqF _ _ _ 97 (.agg #[.int .u8 0,.int .i64 0,.string ⟨#[]⟩,.int .i64 (Zaj (q:Int) (i:Int))]),eqF _ _ _ 98 (.bool true),eqF _ _ _ 99 (.bool false),eqF _ _ _ 100 (.bool false),eqF _ _ _ 101 (.int .i64 i),eqF _ _ _ 102 (.slice (some ⟨gl,0,none⟩) m cl),eqF _ _ _ 103 (.int .i64 q),eqF _ _ _ 104 (.pointer (some ⟨gl,q,none⟩)),eqF _ _ _ 105 (.slice (some ⟨bp,op,none⟩) n c),eqF _ _ _ 106 (.int .i64 n),eqF _ _ _ 107 (.bool true),eqF _ _ _ 108 (.bool true),eqF _ _ _ 109 (.slice (some ⟨gl,0,none⟩) m cl),eqF _ _ _ 110 (.int .i64 q),eqF _ _ _ 111 (.pointer (some ⟨gl,q,none⟩)),eqF _ _ _ 112 (.slice (some ⟨bp,op,none⟩) n c),eqF _ _ _ 113 (.int .i64 i),eqF _ _ _ 114 (.pointer (some ⟨bp,op+i*4,none⟩)),eqF _ _ _ 115 (.agg #[.int .u8 0,.int .i64 0,.string ⟨#[]⟩,.int .i64 (Zaj (q:Int) (i:Int))]),eqF _ _ _ 116 (.int .i64 q),eqF _ _ _ 117 (.int .i64 i),eqF _ _ _ 118 (.agg #[.int .u8 0,.int .i64 0,.string ⟨#[]⟩,.int .i64 (Zaj (q:Int) (i:Int))]),eqF _ _ _ 119 (.bool true),eqF _ _ _ 120 (.bool false),eqF _ _ _ 121 (.bool false),eqF _ _ _ 122 (.bool false)] (by kernel_rfl) (by kernel_rfl) (by kernel_rfl) (RB.refl (Nat.le_refl _)) (fun _ h=>h.again) (fun _ _ _ h k=>h.trans k) ?_ ?_
          ·refine stepsU_cons rfl ?_ (stepsU_cons rfl ?_ (stepsU_cons rfl ?_ (stepsU_cons rfl ?_ (stepsU_cons rfl ?_ (stepsU_cons rfl ?_ (stepsU_cons rfl ?_ (stepsU_cons rfl ?_ (stepsU_cons rfl ?_ (stepsU_cons rfl ?_ (stepsU_cons rfl ?_ (stepsU_cons rfl ?_ (stepsU_cons rfl ?_ (stepsU_cons rfl ?_ (stepsU_cons rfl ?_ (stepsU_cons rfl ?_ (stepsU_cons rfl ?_ (stepsU_cons rfl ?_ (stepsU_cons rfl ?_ (stepsU_cons rfl ?_ (stepsU_cons rfl ?_ (stepsU_cons rfl ?_ (stepsU_cons rfl ?_ (stepsU_cons rfl ?_ (stepsU_cons rfl ?_ (stepsU_cons rfl ?_ (stepsU_cons rfl ?_ (stepsU_cons rfl ?_ (stepsU_cons rfl ?_ (stepsU_cons rfl ?_ (stepsU_cons rfl ?_ (stepsU_cons rfl ?_ (stepsU_cons rfl ?_ (stepsU_cons rfl ?_ (stepsU_cons rfl ?_ (stepsU_nil)))))))))))))))))))))))))))))))))))
           ·as_aux_lemma=>refine stepU_plain rfl fun u wr hR hK hD=>?_;exact Zd _ _ rfl (hK 5 rfl) ⟨hR.again,rfl⟩
           ·as_aux_lemma=>refine stepU_plain rfl fun u wr hR hK hD=>?_;exact Zd _ _ rfl (hK 9 rfl) ⟨hR.again,rfl⟩
           ·as_aux_lemma=>refine stepU_plain rfl fun u wr hR hK hD=>?_;have z:u 88=_:=(hD 0 rfl);have z2:u 89=_:=(hD 1 rfl);exact Ze _ (by unfold execOp;simp[go_sem,evU,z,z2,hix2]) ⟨hR.again,rfl⟩
           ·as_aux_lemma=>refine stepU_plain rfl fun u wr hR hK hD=>?_;have z:u 90=_:=(hD 2 rfl);have z2:=Zc hR.be hcg;exact Ze _ (by unfold execOp;simp[go_sem,evU,z,z2]) ⟨hR.again,rfl⟩
           ·as_aux_lemma=>refine stepU_plain rfl fun u wr hR hK hD=>?_;exact Zd _ _ rfl (hK 10 rfl) ⟨hR.again,rfl⟩
           ·as_aux_lemma=>refine stepU_plain rfl fun u wr hR hK hD=>?_;have z:u 91=_:=(hD 3 rfl);have z2:u 92=_:=(hD 4 rfl);exact Ze _ (by unfold execOp;simp[go_sem,evU,z,z2,hiv]) ⟨hR.again,rfl⟩
           ·as_aux_lemma=>refine stepU_plain rfl fun u wr hR hK hD=>?_;exact ZB _ bv (ov+i*4) _ _ _ _ rfl (hD 5 rfl) (Zc hR.be v0) (Zc hR.be v1) (Zc hR.be v2) (Zc hR.be v3) ⟨hR.again,rfl⟩
           ·as_aux_lemma=>refine stepU_plain rfl fun u wr hR hK hD=>?_;exact Zd _ _ rfl (hK 9 rfl) ⟨hR.again,rfl⟩
           ·as_aux_lemma=>refine stepU_plain rfl fun u wr hR hK hD=>?_;exact Zd _ _ rfl (hK 10 rfl) ⟨hR.again,rfl⟩
           ·as_aux_lemma=>refine stepU_plain rfl fun u wr hR hK hD=>?_;exact Z1 _ _ _ _ _ Tryz.func58 (by kernel_rfl) rfl (hD 7 rfl) (hD 8 rfl) ((ZN _ _ wr).mono fun e wn ⟨he,hb⟩=>⟨_,he,hR.next hb,rfl⟩)
           ·as_aux_lemma=>refine stepU_plain rfl fun u wr hR hK hD=>?_;exact ZaJ _ _ (mkI (q:Int) (i:Int)) rfl (hD 6 rfl) (hD 9 rfl) ⟨hR.again,rfl⟩
           ·as_aux_lemma=>refine stepU_plain rfl fun u wr hR hK hD=>?_;have z98:u 98=_:=(hD 10 rfl);exact Ze _ (by unfold execOp;simp[go_sem,evU,z98]) ⟨hR.again,rfl⟩
           ·as_aux_lemma=>refine stepU_plain rfl fun u wr hR hK hD=>?_;exact Zd _ _ rfl (hD 11 rfl) ⟨hR.again,rfl⟩
           ·as_aux_lemma=>refine stepU_yes 12 100 false rfl rfl (fun u wr hK hD=>hD 12 rfl) fun u wr hR hK hD=>?_;exact Zd _ _ rfl (hK 10 rfl) ⟨hR.again,rfl⟩
           ·as_aux_lemma=>refine stepU_yes 12 100 false rfl rfl (fun u wr hK hD=>hD 12 rfl) fun u wr hR hK hD=>?_;exact Zd _ _ rfl (hK 0 rfl) ⟨hR.again,rfl⟩
           ·as_aux_lemma=>refine stepU_yes 12 100 false rfl rfl (fun u wr hK hD=>hD 12 rfl) fun u wr hR hK hD=>?_;exact Zd _ _ rfl (hK 9 rfl) ⟨hR.again,rfl⟩
           ·as_aux_lemma=>refine stepU_yes 12 100 false rfl rfl (fun u wr hK hD=>hD 12 rfl) fun u wr hR hK hD=>?_;have z:u 102=_:=(hD 14 rfl);have z2:u 103=_:=(hD 15 rfl);exact Ze _ (by unfold execOp;simp[go_sem,evU,z,z2,hix]) ⟨hR.again,rfl⟩
           ·as_aux_lemma=>refine stepU_yes 12 100 false rfl rfl (fun u wr hK hD=>hD 12 rfl) fun u wr hR hK hD=>?_;have z:u 104=_:=(hD 16 rfl);have z2:=Zc hR.be hcl;exact Ze _ (by unfold execOp;simp[go_sem,evU,z,z2]) ⟨hR.again,rfl⟩
           ·as_aux_lemma=>refine stepU_yes 12 100 false rfl rfl (fun u wr hK hD=>hD 12 rfl) fun u wr hR hK hD=>?_;have z105:u 105=_:=(hD 17 rfl);exact Ze _ (by unfold execOp;simp[go_sem,evU,z105]) ⟨hR.again,rfl⟩
           ·as_aux_lemma=>refine stepU_yes 12 100 false rfl rfl (fun u wr hK hD=>hD 12 rfl) fun u wr hR hK hD=>?_;have z101:u 101=_:=(hD 13 rfl);have z106:u 106=_:=(hD 18 rfl);exact Ze _ (by unfold execOp;simp[go_sem,evU,z101,z106,hin2]) ⟨hR.again,rfl⟩
           ·as_aux_lemma=>refine stepU_yes 12 100 false rfl rfl (fun u wr hK hD=>hD 12 rfl) fun u wr hR hK hD=>?_;exact Zd _ _ rfl (hD 19 rfl) ⟨hR.again,rfl⟩
           ·as_aux_lemma=>refine stepU_yes 20 108 true rfl rfl (fun u wr hK hD=>hD 20 rfl) fun u wr hR hK hD=>?_;exact Zd _ _ rfl (hK 0 rfl) ⟨hR.again,rfl⟩
           ·as_aux_lemma=>refine stepU_yes 20 108 true rfl rfl (fun u wr hK hD=>hD 20 rfl) fun u wr hR hK hD=>?_;exact Zd _ _ rfl (hK 9 rfl) ⟨hR.again,rfl⟩
           ·as_aux_lemma=>refine stepU_yes 20 108 true rfl rfl (fun u wr hK hD=>hD 20 rfl) fun u wr hR hK hD=>?_;have z:u 109=_:=(hD 21 rfl);have z2:u 110=_:=(hD 22 rfl);exact Ze _ (by unfold execOp;simp[go_sem,evU,z,z2,hix]) ⟨hR.again,rfl⟩
           ·as_aux_lemma=>refine stepU_yes 20 108 true rfl rfl (fun u wr hK hD=>hD 20 rfl) fun u wr hR hK hD=>?_;have z:u 111=_:=(hD 23 rfl);have z2:=Zc hR.be hcl;exact Ze _ (by unfold execOp;simp[go_sem,evU,z,z2]) ⟨hR.again,rfl⟩
           ·as_aux_lemma=>refine stepU_yes 20 108 true rfl rfl (fun u wr hK hD=>hD 20 rfl) fun u wr hR hK hD=>?_;exact Zd _ _ rfl (hK 10 rfl) ⟨hR.again,rfl⟩
           ·as_aux_lemma=>refine stepU_yes 20 108 true rfl rfl (fun u wr hK hD=>hD 20 rfl) fun u wr hR hK hD=>?_;have z:u 112=_:=(hD 24 rfl);have z2:u 113=_:=(hD 25 rfl);exact Ze _ (by unfold execOp;simp[go_sem,evU,z,z2,hip]) ⟨hR.again,rfl⟩
           ·as_aux_lemma=>refine stepU_yes 20 108 true rfl rfl (fun u wr hK hD=>hD 20 rfl) fun u wr hR hK hD=>?_;exact ZB _ bp (op+i*4) _ _ _ _ rfl (hD 26 rfl) (Zc hR.be q0) (Zc hR.be q1) (Zc hR.be q2) (Zc hR.be q3) ⟨hR.again,rfl⟩
           ·as_aux_lemma=>refine stepU_yes 20 108 true rfl rfl (fun u wr hK hD=>hD 20 rfl) fun u wr hR hK hD=>?_;exact Zd _ _ rfl (hK 9 rfl) ⟨hR.again,rfl⟩
           ·as_aux_lemma=>refine stepU_yes 20 108 true rfl rfl (fun u wr hK hD=>hD 20 rfl) fun u wr hR hK hD=>?_;exact Zd _ _ rfl (hK 10 rfl) ⟨hR.again,rfl⟩
           ·as_aux_lemma=>refine stepU_yes 20 108 true rfl rfl (fun u wr hK hD=>hD 20 rfl) fun u wr hR hK hD=>?_;exact Z1 _ _ _ _ _ Tryz.func58 (by kernel_rfl) rfl (hD 28 rfl) (hD 29 rfl) ((ZN _ _ wr).mono fun e wn ⟨he,hb⟩=>⟨_,he,hR.next hb,rfl⟩)
           ·as_aux_lemma=>refine stepU_yes 20 108 true rfl rfl (fun u wr hK hD=>hD 20 rfl) fun u wr hR hK hD=>?_;exact ZaJ _ _ (mkI (q:Int) (i:Int)) rfl (hD 27 rfl) (hD 30 rfl) ⟨hR.again,rfl⟩
           ·as_aux_lemma=>refine stepU_yes 20 108 true rfl rfl (fun u wr hK hD=>hD 20 rfl) fun u wr hR hK hD=>?_;have z119:u 119=_:=(hD 31 rfl);exact Ze _ (by unfold execOp;simp[go_sem,evU,z119]) ⟨hR.again,rfl⟩
           ·as_aux_lemma=>refine stepU_yes 12 100 false rfl rfl (fun u wr hK hD=>hD 12 rfl) fun u wr hR hK hD=>?_;exact Zn _ _ _ _ _ rfl (hD 20 rfl) (by first|rfl|exact(hD 32 rfl)|exact rfl) ⟨hR.again,rfl⟩
           ·as_aux_lemma=>refine stepU_plain rfl fun u wr hR hK hD=>?_;exact Zn _ _ _ _ _ rfl (hD 12 rfl) (by first|rfl|exact rfl|exact(hD 33 rfl)) ⟨hR.again,rfl⟩
          intro u w7 hR hF;have e88:u 88= .slice (some ⟨gb,0,none⟩) m m:=hF 0 (by decide);have e89:u 89= .int .i64 q:=hF 1 (by decide);have e90:u 90= .pointer (some ⟨gb,q,none⟩):=hF 2 (by decide);have e91:u 91= .slice (some ⟨bv,ov,none⟩) nv cv:=hF 3 (by decide);have e92:u 92= .int .i64 i:=hF 4 (by decide);have e93:u 93= .pointer (some ⟨bv,ov+i*4,none⟩):=hF 5 (by decide);have e94:u 94= .agg #[.int .u8 0,.int .i64 0,.string ⟨#[]⟩,.int .i64 (Zaj (q:Int) (i:Int))]:=hF 6 (by decide);have e95:u 95= .int .i64 q:=hF 7 (by decide);have e96:u 96= .int .i64 i:=hF 8 (by decide);have e97:u 97= .agg #[.int .u8 0,.int .i64 0,.string ⟨#[]⟩,.int .i64 (Zaj (q:Int) (i:Int))]:=hF 9 (by decide);have e98:u 98= .bool true:=hF 10 (by decide);have e99:u 99= .bool false:=hF 11 (by decide);have e100:u 100= .bool false:=hF 12 (by decide);have e101:u 101= .int .i64 i:=hF 13 (by decide);have e102:u 102= .slice (some ⟨gl,0,none⟩) m cl:=hF 14 (by decide);have e103:u 103= .int .i64 q:=hF 15 (by decide);have e104:u 104= .pointer (some ⟨gl,q,none⟩):=hF 16 (by decide);have e105:u 105= .slice (some ⟨bp,op,none⟩) n c:=hF 17 (by decide);have e106:u 106= .int .i64 n:=hF 18 (by decide);have e107:u 107= .bool true:=hF 19 (by decide);have e108:u 108= .bool true:=hF 20 (by decide);have e109:u 109= .slice (some ⟨gl,0,none⟩) m cl:=hF 21 (by decide);have e110:u 110= .int .i64 q:=hF 22 (by decide);have e111:u 111= .pointer (some ⟨gl,q,none⟩):=hF 23 (by decide);have e112:u 112= .slice (some ⟨bp,op,none⟩) n c:=hF 24 (by decide);have e113:u 113= .int .i64 i:=hF 25 (by decide);have e114:u 114= .pointer (some ⟨bp,op+i*4,none⟩):=hF 26 (by decide);have e115:u 115= .agg #[.int .u8 0,.int .i64 0,.string ⟨#[]⟩,.int .i64 (Zaj (q:Int) (i:Int))]:=hF 27 (by decide);have e116:u 116= .int .i64 q:=hF 28 (by decide);have e117:u 117= .int .i64 i:=hF 29 (by decide);have e118:u 118= .agg #[.int .u8 0,.int .i64 0,.string ⟨#[]⟩,.int .i64 (Zaj (q:Int) (i:Int))]:=hF 30 (by decide);have e119:u 119= .bool true:=hF 31 (by decide);have e120:u 120= .bool false:=hF 32 (by decide);have e121:u 121= .bool false:=hF 33 (by decide);have e122:u 122= .bool false:=hF 34 (by decide);simp only[ZaW,Act.put,List.setIfInBounds_toArray,List.set_cons_succ,List.set_cons_zero,e88,e89,e90,e91,e92,e93,e94,e95,e96,e97,e98,e99,e100,e101,e102,e103,e104,e105,e106,e107,e108,e109,e110,e111,e112,e113,e114,e115,e116,e117,e118,e119,e120,e121,e122];clear hF e88 e89 e90 e91 e92 e93 e94 e95 e96 e97 e98 e99 e100 e101 e102 e103 e104 e105 e106 e107 e108 e109 e110 e111 e112 e113 e114 e115 e116 e117 e118 e119 e120 e121 e122;have hB2:Below W0.heap.size W0 w7:=Zah hB.drew hB.size hR.be;have hb_w7:Below W0.heap.size W0 w7:=⟨hR.be.os,hR.be.tape,hR.be.output,hR.be.size,hR.be.block⟩;clear hB hR;have hB:=hB2;clear hB2;clear q0 q1 q2 q3 hip hcl;have hF':=HF.out.keep hb_w7 Hwz.out;clear HF hcg v0 v1 v2 v3 hb_w7 hB;go_wp2;go_roundw
          case rel=>exact⟨i+1,by have:=Hnv.out;omega,by go_num,hF'⟩
          case measure=>simp[intOf];have:=Hnv.out;omega
         ·have hd2:¬(i:Int)<(n:Int):=by omega
          obtain⟨W0,rfl⟩:∃W0,W0=wr:=⟨_,rfl⟩;go_wp2_with fail;refine wp_region_facts (R:=RB W0.heap.size (⟨#[]⟩) (0)) [eqF _ _ _ 88 (.slice (some ⟨gb,0,none⟩) m m),eqF _ _ _ 89 (.int .i64 q),eqF _ _ _ 90 (.pointer (some ⟨gb,q,none⟩)),eqF _ _ _ 91 (.slice (some ⟨bv,ov,none⟩) nv cv),eqF _ _ _ 92 (.int .i64 i),eqF _ _ _ 93 (.pointer (some ⟨bv,ov+i*4,none⟩)),eqF _ _ _ 94 (.agg #[.int .u8 0,.int .i64 0,.string ⟨#[]⟩,.int .i64 (Zaj (q:Int) (i:Int))]),eqF _ _ _ 95 (.int .i64 q),eqF _ _ _ 96 (.int .i64 i),eqF _ _ _ 97 (.agg #[.int .u8 0,.int .i64 0,.string ⟨#[]⟩,.int .i64 (Zaj (q:Int) (i:Int))]),eqF _ _ _ 98 (.bool true),eqF _ _ _ 99 (.bool false),eqF _ _ _ 100 (.bool false),eqF _ _ _ 101 (.int .i64 i),eqF _ _ _ 102 (.slice (some ⟨gl,0,none⟩) m cl),eqF _ _ _ 103 (.int .i64 q),eqF _ _ _ 104 (.pointer (some ⟨gl,q,none⟩)),eqF _ _ _ 105 (.slice a n c),eqF _ _ _ 106 (.int .i64 n),eqF _ _ _ 107 (.bool false),eqF _ _ _ 108 (.bool false),eqF _ _ _ 109 undef,eqF _ _ _ 110 undef,eqF _ _ _ 111 undef,eqF _ _ _ 112 undef,eqF _ _ _ 113 undef,eqF _ _ _ 114 undef,eqF _ _ _ 115 undef,eqF _ _ _ 116 undef,eqF _ _ _ 117 undef,eqF _ _ _ 118 undef,eqF _ _ _ 119 undef,eqF _ _ _ 120 undef,eqF _ _ _ 121 (.bool false),eqF _ _ _ 122 (.bool false)] (by kernel_rfl) (by kernel_rfl) (by kernel_rfl) (RB.refl (Nat.le_refl _)) (fun _ h=>h.again) (fun _ _ _ h k=>h.trans k) ?_ ?_
          ·refine stepsU_cons rfl ?_ (stepsU_cons rfl ?_ (stepsU_cons rfl ?_ (stepsU_cons rfl ?_ (stepsU_cons rfl ?_ (stepsU_cons rfl ?_ (stepsU_cons rfl ?_ (stepsU_cons rfl ?_ (stepsU_cons rfl ?_ (stepsU_cons rfl ?_ (stepsU_cons rfl ?_ (stepsU_cons rfl ?_ (stepsU_cons rfl ?_ (stepsU_cons rfl ?_ (stepsU_cons rfl ?_ (stepsU_cons rfl ?_ (stepsU_cons rfl ?_ (stepsU_cons rfl ?_ (stepsU_cons rfl ?_ (stepsU_cons rfl ?_ (stepsU_cons rfl ?_ (stepsU_cons rfl ?_ (stepsU_cons rfl ?_ (stepsU_cons rfl ?_ (stepsU_cons rfl ?_ (stepsU_cons rfl ?_ (stepsU_cons rfl ?_ (stepsU_cons rfl ?_ (stepsU_cons rfl ?_ (stepsU_cons rfl ?_ (stepsU_cons rfl ?_ (stepsU_cons rfl ?_ (stepsU_cons rfl ?_ (stepsU_cons rfl ?_ (stepsU_cons rfl ?_ (stepsU_nil)))))))))))))))))))))))))))))))))))
           ·as_aux_lemma=>refine stepU_plain rfl fun u wr hR hK hD=>?_;exact Zd _ _ rfl (hK 5 rfl) ⟨hR.again,rfl⟩
           ·as_aux_lemma=>refine stepU_plain rfl fun u wr hR hK hD=>?_;exact Zd _ _ rfl (hK 9 rfl) ⟨hR.again,rfl⟩
           ·as_aux_lemma=>refine stepU_plain rfl fun u wr hR hK hD=>?_;have z:u 88=_:=(hD 0 rfl);have z2:u 89=_:=(hD 1 rfl);exact Ze _ (by unfold execOp;simp[go_sem,evU,z,z2,hix2]) ⟨hR.again,rfl⟩
           ·as_aux_lemma=>refine stepU_plain rfl fun u wr hR hK hD=>?_;have z:u 90=_:=(hD 2 rfl);have z2:=Zc hR.be hcg;exact Ze _ (by unfold execOp;simp[go_sem,evU,z,z2]) ⟨hR.again,rfl⟩
           ·as_aux_lemma=>refine stepU_plain rfl fun u wr hR hK hD=>?_;exact Zd _ _ rfl (hK 10 rfl) ⟨hR.again,rfl⟩
           ·as_aux_lemma=>refine stepU_plain rfl fun u wr hR hK hD=>?_;have z:u 91=_:=(hD 3 rfl);have z2:u 92=_:=(hD 4 rfl);exact Ze _ (by unfold execOp;simp[go_sem,evU,z,z2,hiv]) ⟨hR.again,rfl⟩
           ·as_aux_lemma=>refine stepU_plain rfl fun u wr hR hK hD=>?_;exact ZB _ bv (ov+i*4) _ _ _ _ rfl (hD 5 rfl) (Zc hR.be v0) (Zc hR.be v1) (Zc hR.be v2) (Zc hR.be v3) ⟨hR.again,rfl⟩
           ·as_aux_lemma=>refine stepU_plain rfl fun u wr hR hK hD=>?_;exact Zd _ _ rfl (hK 9 rfl) ⟨hR.again,rfl⟩
           ·as_aux_lemma=>refine stepU_plain rfl fun u wr hR hK hD=>?_;exact Zd _ _ rfl (hK 10 rfl) ⟨hR.again,rfl⟩
           ·as_aux_lemma=>refine stepU_plain rfl fun u wr hR hK hD=>?_;exact Z1 _ _ _ _ _ Tryz.func58 (by kernel_rfl) rfl (hD 7 rfl) (hD 8 rfl) ((ZN _ _ wr).mono fun e wn ⟨he,hb⟩=>⟨_,he,hR.next hb,rfl⟩)
           ·as_aux_lemma=>refine stepU_plain rfl fun u wr hR hK hD=>?_;exact ZaJ _ _ (mkI (q:Int) (i:Int)) rfl (hD 6 rfl) (hD 9 rfl) ⟨hR.again,rfl⟩
           ·as_aux_lemma=>refine stepU_plain rfl fun u wr hR hK hD=>?_;have z98:u 98=_:=(hD 10 rfl);exact Ze _ (by unfold execOp;simp[go_sem,evU,z98]) ⟨hR.again,rfl⟩
           ·as_aux_lemma=>refine stepU_plain rfl fun u wr hR hK hD=>?_;exact Zd _ _ rfl (hD 11 rfl) ⟨hR.again,rfl⟩
           ·as_aux_lemma=>refine stepU_yes 12 100 false rfl rfl (fun u wr hK hD=>hD 12 rfl) fun u wr hR hK hD=>?_;exact Zd _ _ rfl (hK 10 rfl) ⟨hR.again,rfl⟩
           ·as_aux_lemma=>refine stepU_yes 12 100 false rfl rfl (fun u wr hK hD=>hD 12 rfl) fun u wr hR hK hD=>?_;exact Zd _ _ rfl (hK 0 rfl) ⟨hR.again,rfl⟩
           ·as_aux_lemma=>refine stepU_yes 12 100 false rfl rfl (fun u wr hK hD=>hD 12 rfl) fun u wr hR hK hD=>?_;exact Zd _ _ rfl (hK 9 rfl) ⟨hR.again,rfl⟩
           ·as_aux_lemma=>refine stepU_yes 12 100 false rfl rfl (fun u wr hK hD=>hD 12 rfl) fun u wr hR hK hD=>?_;have z:u 102=_:=(hD 14 rfl);have z2:u 103=_:=(hD 15 rfl);exact Ze _ (by unfold execOp;simp[go_sem,evU,z,z2,hix]) ⟨hR.again,rfl⟩
           ·as_aux_lemma=>refine stepU_yes 12 100 false rfl rfl (fun u wr hK hD=>hD 12 rfl) fun u wr hR hK hD=>?_;have z:u 104=_:=(hD 16 rfl);have z2:=Zc hR.be hcl;exact Ze _ (by unfold execOp;simp[go_sem,evU,z,z2]) ⟨hR.again,rfl⟩
           ·as_aux_lemma=>refine stepU_yes 12 100 false rfl rfl (fun u wr hK hD=>hD 12 rfl) fun u wr hR hK hD=>?_;have z105:u 105=_:=(hD 17 rfl);exact Ze _ (by unfold execOp;simp[go_sem,evU,z105]) ⟨hR.again,rfl⟩
           ·as_aux_lemma=>refine stepU_yes 12 100 false rfl rfl (fun u wr hK hD=>hD 12 rfl) fun u wr hR hK hD=>?_;have z101:u 101=_:=(hD 13 rfl);have z106:u 106=_:=(hD 18 rfl);exact Ze _ (by unfold execOp;simp[go_sem,evU,z101,z106,hin2]) ⟨hR.again,rfl⟩
           ·as_aux_lemma=>refine stepU_yes 12 100 false rfl rfl (fun u wr hK hD=>hD 12 rfl) fun u wr hR hK hD=>?_;exact Zd _ _ rfl (hD 19 rfl) ⟨hR.again,rfl⟩
           ·as_aux_lemma=>exact stepU_no 20 108 true false rfl rfl rfl (fun u wr hK hD=>(hD 20 rfl)) (fun u wr=>rfl)
           ·as_aux_lemma=>exact stepU_no 20 108 true false rfl rfl rfl (fun u wr hK hD=>(hD 20 rfl)) (fun u wr=>rfl)
           ·as_aux_lemma=>exact stepU_no 20 108 true false rfl rfl rfl (fun u wr hK hD=>(hD 20 rfl)) (fun u wr=>rfl)
           ·as_aux_lemma=>exact stepU_no 20 108 true false rfl rfl rfl (fun u wr hK hD=>(hD 20 rfl)) (fun u wr=>rfl)
           ·as_aux_lemma=>exact stepU_no 20 108 true false rfl rfl rfl (fun u wr hK hD=>(hD 20 rfl)) (fun u wr=>rfl)
           ·as_aux_lemma=>exact stepU_no 20 108 true false rfl rfl rfl (fun u wr hK hD=>(hD 20 rfl)) (fun u wr=>rfl)
           ·as_aux_lemma=>exact stepU_no 20 108 true false rfl rfl rfl (fun u wr hK hD=>(hD 20 rfl)) (fun u wr=>rfl)
           ·as_aux_lemma=>exact stepU_no 20 108 true false rfl rfl rfl (fun u wr hK hD=>(hD 20 rfl)) (fun u wr=>rfl)
           ·as_aux_lemma=>exact stepU_no 20 108 true false rfl rfl rfl (fun u wr hK hD=>(hD 20 rfl)) (fun u wr=>rfl)
           ·as_aux_lemma=>exact stepU_no 20 108 true false rfl rfl rfl (fun u wr hK hD=>(hD 20 rfl)) (fun u wr=>rfl)
           ·as_aux_lemma=>exact stepU_no 20 108 true false rfl rfl rfl (fun u wr hK hD=>(hD 20 rfl)) (fun u wr=>rfl)
           ·as_aux_lemma=>exact stepU_no 20 108 true false rfl rfl rfl (fun u wr hK hD=>(hD 20 rfl)) (fun u wr=>rfl)
           ·as_aux_lemma=>refine stepU_yes 12 100 false rfl rfl (fun u wr hK hD=>hD 12 rfl) fun u wr hR hK hD=>?_;exact Zn _ _ _ _ _ rfl (hD 20 rfl) (by first|rfl|exact(hD 32 rfl)|exact rfl) ⟨hR.again,rfl⟩
           ·as_aux_lemma=>refine stepU_plain rfl fun u wr hR hK hD=>?_;exact Zn _ _ _ _ _ rfl (hD 12 rfl) (by first|rfl|exact rfl|exact(hD 33 rfl)) ⟨hR.again,rfl⟩
          intro u w7 hR hF;have e88:u 88= .slice (some ⟨gb,0,none⟩) m m:=hF 0 (by decide);have e89:u 89= .int .i64 q:=hF 1 (by decide);have e90:u 90= .pointer (some ⟨gb,q,none⟩):=hF 2 (by decide);have e91:u 91= .slice (some ⟨bv,ov,none⟩) nv cv:=hF 3 (by decide);have e92:u 92= .int .i64 i:=hF 4 (by decide);have e93:u 93= .pointer (some ⟨bv,ov+i*4,none⟩):=hF 5 (by decide);have e94:u 94= .agg #[.int .u8 0,.int .i64 0,.string ⟨#[]⟩,.int .i64 (Zaj (q:Int) (i:Int))]:=hF 6 (by decide);have e95:u 95= .int .i64 q:=hF 7 (by decide);have e96:u 96= .int .i64 i:=hF 8 (by decide);have e97:u 97= .agg #[.int .u8 0,.int .i64 0,.string ⟨#[]⟩,.int .i64 (Zaj (q:Int) (i:Int))]:=hF 9 (by decide);have e98:u 98= .bool true:=hF 10 (by decide);have e99:u 99= .bool false:=hF 11 (by decide);have e100:u 100= .bool false:=hF 12 (by decide);have e101:u 101= .int .i64 i:=hF 13 (by decide);have e102:u 102= .slice (some ⟨gl,0,none⟩) m cl:=hF 14 (by decide);have e103:u 103= .int .i64 q:=hF 15 (by decide);have e104:u 104= .pointer (some ⟨gl,q,none⟩):=hF 16 (by decide);have e105:u 105= .slice a n c:=hF 17 (by decide);have e106:u 106= .int .i64 n:=hF 18 (by decide);have e107:u 107= .bool false:=hF 19 (by decide);have e108:u 108= .bool false:=hF 20 (by decide);have e109:u 109=undef:=hF 21 (by decide);have e110:u 110=undef:=hF 22 (by decide);have e111:u 111=undef:=hF 23 (by decide);have e112:u 112=undef:=hF 24 (by decide);have e113:u 113=undef:=hF 25 (by decide);have e114:u 114=undef:=hF 26 (by decide);have e115:u 115=undef:=hF 27 (by decide);have e116:u 116=undef:=hF 28 (by decide);have e117:u 117=undef:=hF 29 (by decide);have e118:u 118=undef:=hF 30 (by decide);have e119:u 119=undef:=hF 31 (by decide);have e120:u 120=undef:=hF 32 (by decide);have e121:u 121= .bool false:=hF 33 (by decide);have e122:u 122= .bool false:=hF 34 (by decide);simp only[ZaW,Act.put,List.setIfInBounds_toArray,List.set_cons_succ,List.set_cons_zero,e88,e89,e90,e91,e92,e93,e94,e95,e96,e97,e98,e99,e100,e101,e102,e103,e104,e105,e106,e107,e108,e109,e110,e111,e112,e113,e114,e115,e116,e117,e118,e119,e120,e121,e122];clear hF e88 e89 e90 e91 e92 e93 e94 e95 e96 e97 e98 e99 e100 e101 e102 e103 e104 e105 e106 e107 e108 e109 e110 e111 e112 e113 e114 e115 e116 e117 e118 e119 e120 e121 e122;have hB2:Below W0.heap.size W0 w7:=Zah hB.drew hB.size hR.be;have hb_w7:Below W0.heap.size W0 w7:=⟨hR.be.os,hR.be.tape,hR.be.output,hR.be.size,hR.be.block⟩;clear hB hR;have hB:=hB2;clear hB2;clear hcl;have hF':=HF.out.keep hb_w7 Hwz.out;clear HF hcg v0 v1 v2 v3 hb_w7 hB;go_wp2;go_roundw
          case rel=>exact⟨i+1,by have:=Hnv.out;omega,by go_num,hF'⟩
          case measure=>simp[intOf];have:=Hnv.out;omega
        ·have hin':i=nv:=by omega
         have hdn:decide (i<nv)=false:=decide_eq_false (by omega);clear hrv;go_wp2;go_roundw
         case rel=>exact⟨q+1,by omega,by go_num,F⟩
         case measure=>simp[intOf];omega
      ·have hqm':q=m:=by omega
       subst hqm';have F4:F2 (ct4 q) w.heap.size gl cl gb w wr ps vs 0 base:=⟨F.ls,F.al,F.gs,F.ln,fun j p hj=>absurd hj (by omega),F.bs,F.gb1,F.be⟩;clear F HBzs;go_wp2_with fail;go_loopw[11] (fun x W=>∃(m:Nat) (vs:List Value) (base:Nat),m≤q∧x= .int .i64 m∧F2 (ct4 q) w.heap.size gl cl gb w W ps vs m base) (fun x _=>q-(intOf x).toNat)
       case atStart=>exact⟨0,_,_,Nat.zero_le _,rfl,F4⟩
       case round=>
        clear F4;obtain⟨m,vs,base0,hm,rfl,F0⟩:=hrel
        have F:F2 (ct4 q) w.heap.size gl cl gb w wr ps vs m wr.heap.size:=⟨F0.ls,F0.al,F0.gs,F0.ln,fun j p hj hp=>by
         obtain⟨v,h1,h2,h3⟩:=F0.st j p hj hp
         exact⟨v,h1,h2,fun b hb=>Nat.lt_of_lt_of_le (h3 b hb) F0.bs⟩,Nat.le_refl _,Nat.le_trans F0.gb1 F0.bs,F0.be⟩
        clear F0;by_cases hmq:m<q
        ·obtain⟨p,hp⟩:∃p,ps[m]? =some p:=⟨_,List.getElem?_eq_getElem (by rw[←HN.out];exact hmq)⟩;obtain⟨b,n,c,a⟩:=p;have hpm:=List.mem_of_getElem? hp;have hn1:n≤1000:=(Hsm.out _ hpm).1;obtain⟨base,hbase⟩:∃x,x=wr.heap.size:=⟨_,rfl⟩;obtain⟨cs,hcs,hmk0⟩:=Zmt 64 (by decide) wr;have hmk:(Instr.makeSlice 28 (.int .i64 64) (.int .i64 64)).run Tryz.prog wr= .ok (.slice (some ⟨wr.heap.size,0,none⟩) 64 64) (wr.alloc (.cells cs 24)):=hmk0;clear hmk0;rw[←hbase]at F hmk;have hks:=(Below.refl wr.heap.size wr).alloc (Nat.le_refl _) (.cells cs 24);have hF1:=F.keep hks (Nat.le_trans (Nat.le_trans HL.out.b (by have:=F.gb1;omega)) F.bs);have hK1:ContI (wr.alloc (.cells cs 24)) (some base,64,64,some ⟨base,0,none⟩) (imk ((m:Int)+q) 0):=by rw[hbase];exact ContI.made hcs (by decide)
         have hBs:base<(wr.alloc (.cells cs 24)).heap.size:=by rw[hbase];simp
         obtain⟨W1,hW1⟩:∃W,W=wr.alloc (.cells cs 24):=⟨_,rfl⟩;rw[←hW1]at hmk hF1 hK1 hBs;have Hp:=Za hp;clear F hks hbase hW1 hp hcs;go_wp2_with fail;clear hmk;go_loopw[13] (fun x W=>∃i:Nat,i≤64∧x= .int .i64 i∧F2 (ct4 q) w.heap.size gl cl gb w W ps vs m base∧ContI W (some base,64,64,some ⟨base,0,none⟩) (imk ((m:Int)+q) i)) (fun x _=>64-(intOf x).toNat)
         case atStart=>exact⟨0,by omega,rfl,hF1,hK1⟩
         case round=>
          clear hF1 hK1 hBs;obtain⟨i,hi,rfl,F,K⟩:=hrel;by_cases hi64:i<64
          ·as_aux_lemma=>
           have HF:=Za F;have HK:=Za K;have him:=fun W=>Zr base 0 64 64 i hi64 W;simp only[Nat.zero_add]at him;have hbz:w.heap.size≤wr.heap.size:=Nat.le_trans (Nat.le_trans HL.out.b (by have:=F.gb1;omega)) F.bs;clear F K;go_wp2_with fail;refine(ZN _ _ _).mono ?_;rintro e w' ⟨rfl,hbm⟩;have hF2:=HF.out.keep hbm hbz;obtain⟨g,cur,cur1,hbg,_,hcur,hset,hdone⟩:=(HK.out.keep hbm).set (mkI ((m:Int)+q) i) (by rw[Zx];exact hi64);injection hbg with hbg;subst hbg;rw[Zx]at hset;have hst:=hset w' (.inl hcur);have hF':=hF2.far HL.out (Zdp w' base cur1) (Nat.le_refl _);have hK':=hdone _ (setRow_heap w' base _ cur1 _ _ hcur);rw[←ZdG]at hK';have Hst:=Za hst;clear hF2 hset hdone hcur hst HF HK hbm;go_wp2_with (refine Zc9 rfl _ _ rfl base (i*4) (mkI ((m:Int)+q) i) cur1 rfl rfl Hst.out ?_);go_wp2;go_roundw
           case rel=>exact⟨i+1,by omega,by go_num,hF',hK'⟩
           case measure=>simp[intOf];omega
          ·have hi':i=64:=by omega
           subst hi';have hG0:GrI base wr (b,n,c,a) (.slice a n c) (imk m n):=GrI.start (F.al m _ Hp.out) (by rw[Zx]);have hrm:RdI wr (some ⟨base,0,none⟩) (imk ((m:Int)+q) 64):=K.rd;have hcl:wr.cell? ⟨gl,m,none⟩=some (.slice a n c):=F.ls.cell m _ Hp.out;have hix:=fun W=>ZP gl 0 q cl m hmq W;have hix2:=fun W=>ZP gb 0 q q m hmq W;simp only[Nat.zero_add]at hix hix2;have HF:=Za F;have HG0:=Za hG0;have Hrm:=Za hrm;clear F K hG0 hrm;go_wp2_with (at_builtin;refine Zdu (B:=base) (p:=(b,n,c,a)) (v:= .slice a n c) (xs:=imk m n) (ys:=imk ((m:Int)+q) 64) rfl _ _ rfl (some ⟨base,0,none⟩) 64 64 rfl rfl ?b1 ?b2 ?b3 ?b4 ?b5 ?b6 ?_)
           case b1=>exact HG0.out
           case b2=>exact Hrm.out
           case b3=>rw[Zx]
           case b4=>rw[Zx,Zx];omega
           case b5=>exact HF.out.bs
           case b6=>intro g hg;have:=HL.out.g _ hpm g hg;have:=HF.out.gb1;omega
           intro v' W3 G3 hg3;have F3:=HF.out.app HL.out Hp.out HG0.out G3 (List.take_left' (Zx _ _)) hg3;obtain⟨a',c',hv',_⟩:=G3.form;subst hv';obtain⟨l',hl'⟩:∃x,x=(imk m n++imk ((m:Int)+q) 64).length:=⟨_,rfl⟩;rw[←hl'];rw[←hl']at G3;have hmv:m<vs.length:=by rw[F3.ln,←HN.out];exact hmq
           have hcg:W3.cell? ⟨gb,m,none⟩=some vs[m]:=by rw[F3.gs.cell m];simp[hmv]
           have hfg:=F3.gs.frozen m;have F':=F3.put HL.out Hp.out G3;have Hl':=Za hl';clear F3 G3 hg3 HF HG0 Hrm hcl hl';go_wp2;go_roundw
           case rel=>exact⟨m+1,_,_,by omega,by go_num,F'⟩
           case measure=>simp[intOf];omega
        ·have hmq':m=q:=by omega
         subst hmq';obtain⟨base,hbase⟩:∃x,x=wr.heap.size:=⟨_,rfl⟩;rw[←hbase]at F;clear hbase;have hBzs:∀W vs base,F2 (ct4 m) w.heap.size gl cl gb w W ps vs m base→w.heap.size≤W.heap.size:=fun W vs base F=>Nat.le_trans (Nat.le_trans HL.out.b (by have:=F.gb1;omega)) F.bs;have HBzs:=Za hBzs;clear hBzs;go_wp2_with fail;go_loopw[14] (fun x W=>∃q:Nat,q≤m∧x= .int .i64 q∧F2 (ct4 m) w.heap.size gl cl gb w W ps vs m base) (fun x _=>m-(intOf x).toNat)
         case atStart=>exact⟨0,Nat.zero_le _,rfl,F⟩
         case round=>
          clear F;obtain⟨q,hq,rfl,F⟩:=hrel;by_cases hqm:q<m
          ·obtain⟨p,hp⟩:∃p,ps[q]? =some p:=⟨_,List.getElem?_eq_getElem (by rw[←HN.out];exact hqm)⟩;obtain⟨b,n,c,a⟩:=p;have hpm:=List.mem_of_getElem? hp;have hn1:n≤1000:=(Hsm.out _ hpm).1;have hix:=fun W=>ZP gl 0 m cl q hqm W;have hix2:=fun W=>ZP gb 0 m m q hqm W;simp only[Nat.zero_add]at hix hix2;have Hp:=Za hp;clear hp;go_wp2_with fail;go_loopw[15] (fun x W=>∃i:Nat,i≤n∧x= .int .i64 i∧F2 (ct4 m) w.heap.size gl cl gb w W ps vs m base) (fun x _=>n-(intOf x).toNat)
           case atStart=>exact⟨0,by omega,rfl,F⟩
           case round=>
            clear F;obtain⟨i,hi,rfl,F⟩:=hrel;have hcl:wr.cell? ⟨gl,q,none⟩=some (.slice a n c):=F.ls.cell q _ Hp.out;by_cases hin:i<n
            ·obtain⟨av,cv,hcg,hrv⟩:=F.grownAt q _ hqm Hp.out;dsimp only[ct4]at hcg hrv;rw[List.length_append,Zx,Zx]at hcg;obtain⟨nv,hnv⟩:∃x,x=n+64:=⟨_,rfl⟩;rw[←hnv]at hcg;have hinv:i<nv:=by omega
             have hrv2:RdI wr av (imk q n):=by have:=RdI.takeI hrv n;rwa[List.take_left' (Zx _ _)]at this
             obtain⟨bv,ov,hav,v0,v1,v2,v3⟩:=Zfn hrv2 i hin;subst hav;have hiv:=fun W=>Zr bv ov nv cv i hinv W;obtain⟨bp,op,hap,q0,q1,q2,q3⟩:=Zfn (F.al q _ Hp.out).rd i hin;dsimp only at hap;subst hap;have hip:=fun W=>Zr bp op n c i hin W;have HF:=Za F;have hB:=Below.refl wr.heap.size wr;have Hwz:=Za (HBzs.out _ _ _ F);clear hnv hrv hrv2 F hinv;obtain⟨W0,rfl⟩:∃W0,W0=wr:=⟨_,rfl⟩;go_wp2_with fail;refine wp_region_facts (R:=RB W0.heap.size (⟨#[]⟩) (0)) [eqF _ _ _ 167 (.slice (some ⟨gl,0,none⟩) m cl),eqF _ _ _ 168 (.int .i64 q),eqF _ _ _ 169 (.pointer (some ⟨gl,q,none⟩)),eqF _ _ _ 170 (.slice (some ⟨bp,op,none⟩) n c),eqF _ _ _ 171 (.int .i64 i),eqF _ _ _ 172 (.pointer (some ⟨bp,op+i*4,none⟩)),eqF _ _ _ 173 (.agg #[.int .u8 0,.int .i64 0,.string ⟨#[]⟩,.int .i64 (Zaj (q:Int) (i:Int))]),eqF _ _ _ 174 (.int .i64 q),eqF _ _ _ 175 (.int .i64 i),eqF _ _ _ 176 (.agg #[.int .u8 0,.int .i64 0,.string ⟨#[]⟩,.int .i64 (Zaj (q:Int) (i:Int))]),eqF _ _ _ 177 (.bool true),eqF _ _ _ 178 (.bool false),eqF _ _ _ 179 (.bool false),eqF _ _ _ 180 (.slice (some ⟨gb,0,none⟩) m m),eqF _ _ _ 181 (.int .i64 q),eqF _ _ _ 182 (.pointer (some ⟨gb,q,none⟩)),eqF _ _ _ 183 (.slice (some ⟨bv,ov,none⟩) nv cv),eqF _ _ _ 184 (.int .i64 i),eqF _ _ _ 185 (.pointer (some ⟨bv,ov+i*4,none⟩)),eqF _ _ _ 186 (.agg #[.int .u8 0,.int .i64 0,.string ⟨#[]⟩,.int .i64 (Zaj (q:Int) (i:Int))]),eqF _ _ _ 187 (.int .i64 q),eqF _ _ _ 188 (.int .i64 i),eqF _ _ _ 189 (.agg #[.int .u8 0,.int .i64 0,.string ⟨#[]⟩,.int .i64 (Zaj (q:Int) (i:Int))]),eqF _ _ _ 190 (.bool true),eqF _ _ _ 191 (.bool false),eqF _ _ _ 192 (.bool false)] (by kernel_rfl) (by kernel_rfl) (by kernel_rfl) (RB.refl (Nat.le_refl _)) (fun _ h=>h.again) (fun _ _ _ h k=>h.trans k) ?_ ?_
             ·refine stepsU_cons rfl ?_ (stepsU_cons rfl ?_ (stepsU_cons rfl ?_ (stepsU_cons rfl ?_ (stepsU_cons rfl ?_ (stepsU_cons rfl ?_ (stepsU_cons rfl ?_ (stepsU_cons rfl ?_ (stepsU_cons rfl ?_ (stepsU_cons rfl ?_ (stepsU_cons rfl ?_ (stepsU_cons rfl ?_ (stepsU_cons rfl ?_ (stepsU_cons rfl ?_ (stepsU_cons rfl ?_ (stepsU_cons rfl ?_ (stepsU_cons rfl ?_ (stepsU_cons rfl ?_ (stepsU_cons rfl ?_ (stepsU_cons rfl ?_ (stepsU_cons rfl ?_ (stepsU_cons rfl ?_ (stepsU_cons rfl ?_ (stepsU_cons rfl ?_ (stepsU_cons rfl ?_ (stepsU_cons rfl ?_ (stepsU_nil))))))))))))))))))))))))))
              ·as_aux_lemma=>refine stepU_plain rfl fun u wr hR hK hD=>?_;exact Zd _ _ rfl (hK 0 rfl) ⟨hR.again,rfl⟩
              ·as_aux_lemma=>refine stepU_plain rfl fun u wr hR hK hD=>?_;exact Zd _ _ rfl (hK 14 rfl) ⟨hR.again,rfl⟩
              ·as_aux_lemma=>refine stepU_plain rfl fun u wr hR hK hD=>?_;have z:u 167=_:=(hD 0 rfl);have z2:u 168=_:=(hD 1 rfl);exact Ze _ (by unfold execOp;simp[go_sem,evU,z,z2,hix]) ⟨hR.again,rfl⟩
              ·as_aux_lemma=>refine stepU_plain rfl fun u wr hR hK hD=>?_;have z:u 169=_:=(hD 2 rfl);have z2:=Zc hR.be hcl;exact Ze _ (by unfold execOp;simp[go_sem,evU,z,z2]) ⟨hR.again,rfl⟩
              ·as_aux_lemma=>refine stepU_plain rfl fun u wr hR hK hD=>?_;exact Zd _ _ rfl (hK 15 rfl) ⟨hR.again,rfl⟩
              ·as_aux_lemma=>refine stepU_plain rfl fun u wr hR hK hD=>?_;have z:u 170=_:=(hD 3 rfl);have z2:u 171=_:=(hD 4 rfl);exact Ze _ (by unfold execOp;simp[go_sem,evU,z,z2,hip]) ⟨hR.again,rfl⟩
              ·as_aux_lemma=>refine stepU_plain rfl fun u wr hR hK hD=>?_;exact ZB _ bp (op+i*4) _ _ _ _ rfl (hD 5 rfl) (Zc hR.be q0) (Zc hR.be q1) (Zc hR.be q2) (Zc hR.be q3) ⟨hR.again,rfl⟩
              ·as_aux_lemma=>refine stepU_plain rfl fun u wr hR hK hD=>?_;exact Zd _ _ rfl (hK 14 rfl) ⟨hR.again,rfl⟩
              ·as_aux_lemma=>refine stepU_plain rfl fun u wr hR hK hD=>?_;exact Zd _ _ rfl (hK 15 rfl) ⟨hR.again,rfl⟩
              ·as_aux_lemma=>refine stepU_plain rfl fun u wr hR hK hD=>?_;exact Z1 _ _ _ _ _ Tryz.func58 (by kernel_rfl) rfl (hD 7 rfl) (hD 8 rfl) ((ZN _ _ wr).mono fun e wn ⟨he,hb⟩=>⟨_,he,hR.next hb,rfl⟩)
              ·as_aux_lemma=>refine stepU_plain rfl fun u wr hR hK hD=>?_;exact ZaJ _ _ (mkI (q:Int) (i:Int)) rfl (hD 6 rfl) (hD 9 rfl) ⟨hR.again,rfl⟩
              ·as_aux_lemma=>refine stepU_plain rfl fun u wr hR hK hD=>?_;have z177:u 177=_:=(hD 10 rfl);exact Ze _ (by unfold execOp;simp[go_sem,evU,z177]) ⟨hR.again,rfl⟩
              ·as_aux_lemma=>refine stepU_plain rfl fun u wr hR hK hD=>?_;exact Zd _ _ rfl (hD 11 rfl) ⟨hR.again,rfl⟩
              ·as_aux_lemma=>refine stepU_yes 12 179 false rfl rfl (fun u wr hK hD=>hD 12 rfl) fun u wr hR hK hD=>?_;exact Zd _ _ rfl (hK 5 rfl) ⟨hR.again,rfl⟩
              ·as_aux_lemma=>refine stepU_yes 12 179 false rfl rfl (fun u wr hK hD=>hD 12 rfl) fun u wr hR hK hD=>?_;exact Zd _ _ rfl (hK 14 rfl) ⟨hR.again,rfl⟩
              ·as_aux_lemma=>refine stepU_yes 12 179 false rfl rfl (fun u wr hK hD=>hD 12 rfl) fun u wr hR hK hD=>?_;have z:u 180=_:=(hD 13 rfl);have z2:u 181=_:=(hD 14 rfl);exact Ze _ (by unfold execOp;simp[go_sem,evU,z,z2,hix2]) ⟨hR.again,rfl⟩
              ·as_aux_lemma=>refine stepU_yes 12 179 false rfl rfl (fun u wr hK hD=>hD 12 rfl) fun u wr hR hK hD=>?_;have z:u 182=_:=(hD 15 rfl);have z2:=Zc hR.be hcg;exact Ze _ (by unfold execOp;simp[go_sem,evU,z,z2]) ⟨hR.again,rfl⟩
              ·as_aux_lemma=>refine stepU_yes 12 179 false rfl rfl (fun u wr hK hD=>hD 12 rfl) fun u wr hR hK hD=>?_;exact Zd _ _ rfl (hK 15 rfl) ⟨hR.again,rfl⟩
              ·as_aux_lemma=>refine stepU_yes 12 179 false rfl rfl (fun u wr hK hD=>hD 12 rfl) fun u wr hR hK hD=>?_;have z:u 183=_:=(hD 16 rfl);have z2:u 184=_:=(hD 17 rfl);exact Ze _ (by unfold execOp;simp[go_sem,evU,z,z2,hiv]) ⟨hR.again,rfl⟩
              ·as_aux_lemma=>refine stepU_yes 12 179 false rfl rfl (fun u wr hK hD=>hD 12 rfl) fun u wr hR hK hD=>?_;exact ZB _ bv (ov+i*4) _ _ _ _ rfl (hD 18 rfl) (Zc hR.be v0) (Zc hR.be v1) (Zc hR.be v2) (Zc hR.be v3) ⟨hR.again,rfl⟩
              ·as_aux_lemma=>refine stepU_yes 12 179 false rfl rfl (fun u wr hK hD=>hD 12 rfl) fun u wr hR hK hD=>?_;exact Zd _ _ rfl (hK 14 rfl) ⟨hR.again,rfl⟩
              ·as_aux_lemma=>refine stepU_yes 12 179 false rfl rfl (fun u wr hK hD=>hD 12 rfl) fun u wr hR hK hD=>?_;exact Zd _ _ rfl (hK 15 rfl) ⟨hR.again,rfl⟩
              ·as_aux_lemma=>refine stepU_yes 12 179 false rfl rfl (fun u wr hK hD=>hD 12 rfl) fun u wr hR hK hD=>?_;exact Z1 _ _ _ _ _ Tryz.func58 (by kernel_rfl) rfl (hD 20 rfl) (hD 21 rfl) ((ZN _ _ wr).mono fun e wn ⟨he,hb⟩=>⟨_,he,hR.next hb,rfl⟩)
              ·as_aux_lemma=>refine stepU_yes 12 179 false rfl rfl (fun u wr hK hD=>hD 12 rfl) fun u wr hR hK hD=>?_;exact ZaJ _ _ (mkI (q:Int) (i:Int)) rfl (hD 19 rfl) (hD 22 rfl) ⟨hR.again,rfl⟩
              ·as_aux_lemma=>refine stepU_yes 12 179 false rfl rfl (fun u wr hK hD=>hD 12 rfl) fun u wr hR hK hD=>?_;have z190:u 190=_:=(hD 23 rfl);exact Ze _ (by unfold execOp;simp[go_sem,evU,z190]) ⟨hR.again,rfl⟩
              ·as_aux_lemma=>refine stepU_plain rfl fun u wr hR hK hD=>?_;exact Zn _ _ _ _ _ rfl (hD 12 rfl) (by first|rfl|exact rfl|exact(hD 24 rfl)) ⟨hR.again,rfl⟩
             intro u w7 hR hF;have e167:u 167= .slice (some ⟨gl,0,none⟩) m cl:=hF 0 (by decide);have e168:u 168= .int .i64 q:=hF 1 (by decide);have e169:u 169= .pointer (some ⟨gl,q,none⟩):=hF 2 (by decide);have e170:u 170= .slice (some ⟨bp,op,none⟩) n c:=hF 3 (by decide);have e171:u 171= .int .i64 i:=hF 4 (by decide);have e172:u 172= .pointer (some ⟨bp,op+i*4,none⟩):=hF 5 (by decide);have e173:u 173= .agg #[.int .u8 0,.int .i64 0,.string ⟨#[]⟩,.int .i64 (Zaj (q:Int) (i:Int))]:=hF 6 (by decide);have e174:u 174= .int .i64 q:=hF 7 (by decide);have e175:u 175= .int .i64 i:=hF 8 (by decide);have e176:u 176= .agg #[.int .u8 0,.int .i64 0,.string ⟨#[]⟩,.int .i64 (Zaj (q:Int) (i:Int))]:=hF 9 (by decide);have e177:u 177= .bool true:=hF 10 (by decide);have e178:u 178= .bool false:=hF 11 (by decide);have e179:u 179= .bool false:=hF 12 (by decide);have e180:u 180= .slice (some ⟨gb,0,none⟩) m m:=hF 13 (by decide);have e181:u 181= .int .i64 q:=hF 14 (by decide);have e182:u 182= .pointer (some ⟨gb,q,none⟩):=hF 15 (by decide);have e183:u 183= .slice (some ⟨bv,ov,none⟩) nv cv:=hF 16 (by decide);have e184:u 184= .int .i64 i:=hF 17 (by decide);have e185:u 185= .pointer (some ⟨bv,ov+i*4,none⟩):=hF 18 (by decide);have e186:u 186= .agg #[.int .u8 0,.int .i64 0,.string ⟨#[]⟩,.int .i64 (Zaj (q:Int) (i:Int))]:=hF 19 (by decide);have e187:u 187= .int .i64 q:=hF 20 (by decide);have e188:u 188= .int .i64 i:=hF 21 (by decide);have e189:u 189= .agg #[.int .u8 0,.int .i64 0,.string ⟨#[]⟩,.int .i64 (Zaj (q:Int) (i:Int))]:=hF 22 (by decide);have e190:u 190= .bool true:=hF 23 (by decide);have e191:u 191= .bool false:=hF 24 (by decide);have e192:u 192= .bool false:=hF 25 (by decide);simp only[ZaW,Act.put,List.setIfInBounds_toArray,List.set_cons_succ,List.set_cons_zero,e167,e168,e169,e170,e171,e172,e173,e174,e175,e176,e177,e178,e179,e180,e181,e182,e183,e184,e185,e186,e187,e188,e189,e190,e191,e192];clear hF e167 e168 e169 e170 e171 e172 e173 e174 e175 e176 e177 e178 e179 e180 e181 e182 e183 e184 e185 e186 e187 e188 e189 e190 e191 e192;have hB2:Below W0.heap.size W0 w7:=Zah hB.drew hB.size hR.be;have hb_w7:Below W0.heap.size W0 w7:=⟨hR.be.os,hR.be.tape,hR.be.output,hR.be.size,hR.be.block⟩;clear hB hR;have hB:=hB2;clear hB2;have hF':=HF.out.keep hb_w7 Hwz.out;clear HF hcg hcl v0 v1 v2 v3 q0 q1 q2 q3 hb_w7 hB;go_wp2;go_roundw
             case rel=>exact⟨i+1,by omega,by go_num,hF'⟩
             case measure=>simp[intOf];omega
            ·have hin':i=n:=by omega
             have hd2:decide (i<n)=false:=decide_eq_false (by omega);go_wp2;go_roundw
             case rel=>exact⟨q+1,by omega,by go_num,F⟩
             case measure=>simp[intOf];omega
          ·have hqm':q=m:=by omega
           subst hqm';have hbe:=F.be;clear F;go_wp2;go_ret;exact⟨rfl,hbe⟩
end Go.Proofs.YtnnfhojhbbcbmaaGreatDoor
