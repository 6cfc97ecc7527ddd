/- ValueNumbers: the walk; what it calls by what is told of it. -/
import Derived.Test.YtnnfhojhbbcbmaaGreatDoorC08
import Derived.Test.YtnnfhojhbbcbmaaGreatDoorC02
import Derived.Deep.Cut
namespace Go.Proofs.YtnnfhojhbbcbmaaGreatDoor
set_option maxRecDepth 100000
set_option maxHeartbeats 16000000
open Go.RowKit
def itsN:List It:=[⟨2,0,⟨#[]⟩,0⟩,⟨2,1,⟨#[]⟩,0⟩,⟨2,-1,⟨#[]⟩,0⟩,⟨2,-9223372036854775808,⟨#[]⟩,0⟩,⟨2,9223372036854775807,⟨#[]⟩,0⟩,⟨3,0,⟨#[]⟩,0⟩,⟨3,0,⟨#[97]⟩,0⟩,⟨3,0,⟨#[49,48]⟩,0⟩,⟨3,0,⟨#[50]⟩,0⟩,⟨3,0,⟨#[45,57,50,50,51,51,55,50,48,51,54,56,53,52,55,55,53,56,48,56]⟩,0⟩,⟨3,0,⟨#[32,194,160,195,169,32,120,9,121,32]⟩,0⟩,⟨1,0,⟨#[50]⟩,4⟩,⟨1,0,⟨#[]⟩,0⟩,⟨4,0,⟨#[]⟩,0⟩,⟨4,1,⟨#[]⟩,0⟩,⟨0,0,⟨#[]⟩,0⟩,⟨5,0,⟨#[]⟩,0⟩,⟨2,0,⟨#[120]⟩,0⟩,⟨1,0,⟨#[]⟩,-1⟩,⟨4,2,⟨#[]⟩,0⟩,⟨3,0,⟨#[255]⟩,0⟩,⟨3,0,⟨#[97,255]⟩,0⟩,⟨3,0,⟨#[]⟩,1⟩]
def opsN:List ByteArray:=[⟨#[61]⟩,⟨#[33,61]⟩,⟨#[60]⟩,⟨#[60,61]⟩,⟨#[62]⟩,⟨#[62,61]⟩,⟨#[43]⟩,⟨#[45]⟩,⟨#[42]⟩,⟨#[100,105,118]⟩,⟨#[109,111,100]⟩,⟨#[]⟩,⟨#[61,61]⟩]
def namN:List ByteArray:=[⟨#[116,114,117,101]⟩,⟨#[102,97,108,115,101]⟩,⟨#[99,111,117,110,116]⟩,⟨#[101,109,112,116,121]⟩,⟨#[101,120,105,115,116,115]⟩,⟨#[110,111,116]⟩,⟨#[98,111,111,108,101,97,110]⟩,⟨#[115,116,114,105,110,103]⟩,⟨#[115,116,114,105,110,103,45,108,101,110,103,116,104]⟩,⟨#[110,111,114,109,97,108,105,122,101,45,115,112,97,99,101]⟩,⟨#[117,112,112,101,114,45,99,97,115,101]⟩,⟨#[108,111,119,101,114,45,99,97,115,101]⟩,⟨#[110,117,109,98,101,114]⟩,⟨#[115,117,109]⟩,⟨#[109,105,110]⟩,⟨#[109,97,120]⟩,⟨#[97,98,115]⟩,⟨#[100,105,115,116,105,110,99,116,45,118,97,108,117,101,115]⟩,⟨#[114,101,118,101,114,115,101]⟩,⟨#[99,111,110,116,97,105,110,115]⟩,⟨#[115,116,97,114,116,115,45,119,105,116,104]⟩,⟨#[101,110,100,115,45,119,105,116,104]⟩,⟨#[115,116,114,105,110,103,45,106,111,105,110]⟩,⟨#[115,117,98,115,116,114,105,110,103]⟩,⟨#[99,111,110,99,97,116]⟩,⟨#[112,111,115,105,116,105,111,110]⟩,⟨#[108,97,115,116]⟩,⟨#[110,97,109,101]⟩,⟨#[]⟩]
theorem fineN:Fine itsN:=ZG (by decide+kernel)
theorem fN0:Fine []:=ZG (by decide)
theorem fN1 {x:It}(h:x∈itsN):Fine [x]:=⟨by simp,by simpa using fineN.r x h,by simpa using fineN.s x h⟩
theorem fN2 {x y:It}(h:x∈itsN)(k:y∈itsN):Fine [x,y]:=⟨by simp,by simpa using⟨fineN.r x h,fineN.r y k⟩,by simpa using⟨fineN.s x h,fineN.s y k⟩⟩
theorem fN3 {x y z:It}(h:x∈itsN)(k:y∈itsN)(m:z∈itsN):Fine ([x,y]++[z]):=⟨by simp,by simpa using⟨fineN.r x h,fineN.r y k,fineN.r z m⟩,by simpa using⟨fineN.s x h,fineN.s y k,fineN.s z m⟩⟩
theorem fN22:Fine [⟨2,2,⟨#[]⟩,0⟩]:=ZG (by decide+kernel)
def OkS(L:List (List It)):Prop:=L.length≤1000000∧∀l∈L,Fine l
theorem fs0:OkS []:=⟨by simp,by simp⟩
theorem fs1 {a:List It}(ha:Fine a):OkS [a]:=⟨by simp,by simpa using ha⟩
theorem fs2 {a b:List It}(ha:Fine a)(hb:Fine b):OkS [a,b]:=⟨by simp,by simpa using⟨ha,hb⟩⟩
theorem fs3 {a b c:List It}(ha:Fine a)(hb:Fine b)(hc:Fine c):OkS [a,b,c]:=⟨by simp,by simpa using⟨ha,hb,hc⟩⟩
theorem fs4 {a b c d:List It}(ha:Fine a)(hb:Fine b)(hc:Fine c)(hd:Fine d):OkS [a,b,c,d]:=⟨by simp,by simpa using⟨ha,hb,hc,hd⟩⟩
theorem Zj6 {w:World}{a:Option Addr}{l m:List It}(h:RdI w a (l++m)):RdI w a l:=by
 have e:=Zj l m;rcases h with h|⟨b,off,h1,h2,h3⟩
 ·rw[e]at h;exact .inl (List.append_eq_nil_iff.1 h).1
 ·exact .inr ⟨b,off,h1,h2,fun i u hu=>h3 i u (by rw[e,List.getElem?_append_left (List.getElem?_eq_some_iff.1 hu).1];exact hu)⟩
theorem Zcr(w:World)(ls:List Lst)(h:∀y∈ls,RdI w y.a y.l):RdS (w.alloc (.cells (ls.map Lst.v).toArray 28)) (some ⟨w.heap.size,0,none⟩) (ls.map Lst.l):=⟨ls,rfl,Rd.new w 28 _,fun y hy=>(h y hy).alloc _⟩
def threeN:List It:=[⟨2,4,⟨#[]⟩,0⟩,⟨2,-9,⟨#[]⟩,0⟩,⟨2,7,⟨#[]⟩,0⟩]
def twoN:List It:=[⟨2,4,⟨#[]⟩,0⟩,⟨2,-9,⟨#[]⟩,0⟩]
def ZeX:List It:=[⟨3,0,⟨#[97,98]⟩,0⟩,⟨2,-3,⟨#[]⟩,0⟩,⟨4,1,⟨#[]⟩,0⟩,⟨1,0,⟨#[110]⟩,1⟩]
def Zbc:List It:=[⟨3,0,⟨#[44,32]⟩,0⟩]
def Zcs:List It:=[⟨3,0,⟨#[97,98,44,32,45,51,44,32,116,114,117,101,44,32,110]⟩,0⟩]
def endsV:List Value:=[.int .i64 (-9223372036854775808),.int .i64 (-9223372036854775808),.int .i64 (-9223372036854775808),.int .i64 9223372036854775807,.int .i64 9223372036854775807,.int .i64 9223372036854775807,.int .i64 1,.int .i64 9223372036854775807,.int .i64 2,.int .i64 9223372036854775807,.int .i64 0,.int .i64 1,.int .i64 (-1),.int .i64 4,.int .i64 (-9223372036854775808),.int .i64 1]
theorem Znn:∀e:Nat,e<8→∃a b:Int,R64 a∧R64 b∧endsV[e*2]? =some (.int .i64 a)∧endsV[e*2+1]? =some (.int .i64 b)
 |0,_=>⟨-9223372036854775808,-9223372036854775808,by unfold R64;omega,by unfold R64;omega,rfl,rfl⟩
 |1,_=>⟨-9223372036854775808,9223372036854775807,by unfold R64;omega,by unfold R64;omega,rfl,rfl⟩
 |2,_=>⟨9223372036854775807,9223372036854775807,by unfold R64;omega,by unfold R64;omega,rfl,rfl⟩
 |3,_=>⟨1,9223372036854775807,by unfold R64;omega,by unfold R64;omega,rfl,rfl⟩
 |4,_=>⟨2,9223372036854775807,by unfold R64;omega,by unfold R64;omega,rfl,rfl⟩
 |5,_=>⟨0,1,by unfold R64;omega,by unfold R64;omega,rfl,rfl⟩
 |6,_=>⟨-1,4,by unfold R64;omega,by unfold R64;omega,rfl,rfl⟩
 |7,_=>⟨-9223372036854775808,1,by unfold R64;omega,by unfold R64;omega,rfl,rfl⟩
 |e+8,h=>absurd h (by omega)
theorem fNI {n:Int}(h:R64 n):Fine [⟨2,n,⟨#[]⟩,0⟩]:=⟨by simp,by simpa using h,fun y hy=>by rw[List.mem_singleton.1 hy];show ByteArray.size ⟨#[]⟩≤100000;decide⟩
theorem fNA:Fine [⟨3,0,⟨#[97,195,169,98,99]⟩,0⟩]:=ZG (by decide+kernel)
theorem fNM:Fine [⟨3,0,⟨#[109,111,116,111,114]⟩,0⟩]:=ZG (by decide+kernel)
theorem Zok {W:World}{g i:Nat}{l:List Value}{v:Value}(h:Rd W (some ⟨g,0,none⟩) l)(hx:l[i]? =some v):W.cell? ⟨g,0+i,none⟩=some v:=by obtain⟨b,off,e,h1⟩:=h.cellAt i v hx;injection e with e;injection e with e1 e2;subst e1 e2;exact h1
theorem Zol:Fine threeN:=ZG (by decide+kernel)
theorem ZmR:Fine twoN:=ZG (by decide+kernel)
theorem ZgH {W:World}{g i:Nat}{l:List It}{x:It}(h:RdI W (some ⟨g,0,none⟩) l)(hx:l[i]? =some x):ItAt W g (0+i*4) x:=by obtain⟨b,off,e,h1,h2,h3,h4⟩:=h.at i x hx;injection e with e;injection e with e1 e2;subst e1 e2;exact⟨h1,h2,h3,h4⟩
theorem Zph {W:World}{g i:Nat}{l:List ByteArray}{s:ByteArray}(h:Rd W (some ⟨g,0,none⟩) (l.map .string))(hx:l[i]? =some s):W.cell? ⟨g,0+i,none⟩=some (.string s):=by obtain⟨b,off,e,h1⟩:=h.cellAt i (.string s) (by simp[hx]);injection e with e;injection e with e1 e2;subst e1 e2;exact h1
theorem ZeY(n:Int)(w:World):Calls Tryz.prog 7 #[.int .i64 n] w fun e w'=>e= .returned (.agg #[.int .u8 4,.int .i64 n,.string ⟨#[]⟩,.int .i64 0])∧Below w.heap.size w w':=by
 have hk:=(Below.refl w.heap.size w).alloc (Nat.le_refl _) (.cells #[.int .u8 4,.int .i64 n,.string ⟨#[]⟩,.int .i64 0] 24);go_enter Tryz.func7,Tryz.ntmps7;go_wp2
 (try simp only[Exit.inBlock,Exit.then])
 refine bodyPost_ret (results_cell_row (P:=Tryz.prog) (fn:=Tryz.f7) rfl _ _ w.heap.size 24 #[.int .u8 4,.int .i64 n,.string ⟨#[]⟩,.int .i64 0] (0,0) _ rfl (Blk.new w 24 #[.int .u8 4,.int .i64 n,.string ⟨#[]⟩,.int .i64 0]) Tryz.underlying24 rfl (by kernel_rfl)) rfl ?_;exact⟨rfl,hk⟩
theorem ZkR(w:World):Calls Tryz.prog 11 #[] w fun e w'=>(∃g,e= .returned (.slice (some ⟨g,0,none⟩) 29 29)∧Rd w' (some ⟨g,0,none⟩) (namN.map .string))∧Below w.heap.size w w':=by have hr:Rd (w.alloc (.cells (namN.map .string).toArray 9)) (some ⟨w.heap.size,0,none⟩) (namN.map .string):=Rd.new w 9 _;have hb:=(Below.refl w.heap.size w).alloc (Nat.le_refl _) (.cells (namN.map .string).toArray 9);go_enter Tryz.func11,Tryz.ntmps11;go_wp2;go_ret;exact⟨⟨_,rfl,hr⟩,hb⟩
structure NHyp (w:World) (lx ly lz:ByteArray):Prop where
 lh:∀W,Below w.heap.size w W→∀s A B,Fine A→Fine B→Znl W 8 s A B
 lm:∀W,Below w.heap.size w W→∀s A B,Fine A→Fine B→Znl W 10 s A B
 lc:∀W,Below w.heap.size w W→∀s L,OkS L→Zpp W 12 s L
 rx:Znm 13 ⟨#[120]⟩ 40000 lx
 ry:Znm 13 ⟨#[45]⟩ 25535 ly
 rz:Znm 13 ⟨#[121]⟩ 25536 lz
 cx:∀W,Below w.heap.size w W→Zi7 W 14 ⟨#[99,111,110,99,97,116]⟩ [[⟨3,0,lx,0⟩],[⟨3,0,lx,0⟩]] 3
 cy:∀W,Below w.heap.size w W→Zi7 W 14 ⟨#[115,116,114,105,110,103,45,106,111,105,110]⟩ [[⟨3,0,lx,0⟩,⟨2,1,⟨#[]⟩,0⟩],[⟨3,0,ly,0⟩]] 0
 cz:∀W,Below w.heap.size w W→Zi7 W 14 ⟨#[99,111,110,99,97,116]⟩ [[⟨3,0,lx,0⟩],[⟨3,0,lz,0⟩]] 0
 cj:∀(p:Option Addr) (c:Nat) (W:World),Below w.heap.size w W→RdS W p [ZeX,Zbc]→Calls Tryz.prog 14 #[.string ⟨#[115,116,114,105,110,103,45,106,111,105,110]⟩,.slice p 2 c] W fun e w'=>(∃q cap,e= .returned (.tuple #[.slice q 1 cap,.int .i64 0])∧RdI w' q Zcs)∧Below W.heap.size W w'
 sm:∀(a b:Option Addr) (ac bc:Nat) (W:World),RdI W a Zcs→RdI W b Zcs→Calls Tryz.prog 15 #[.slice a 1 ac,.slice b 1 bc] W fun e w'=>e= .returned (.bool true)∧Below W.heap.size W w'
 i1:∀W,Below w.heap.size w W→Calls Tryz.prog 16 #[.string ⟨#[109,111,100]⟩,.agg #[.int .u8 2,.int .i64 (-7),.string ⟨#[]⟩,.int .i64 0],.agg #[.int .u8 2,.int .i64 2,.string ⟨#[]⟩,.int .i64 0],.int .i64 (-1)] W fun e w'=>e= .returned (.bool true)∧Below W.heap.size W w'
 i2:∀W,Below w.heap.size w W→Calls Tryz.prog 16 #[.string ⟨#[109,111,100]⟩,.agg #[.int .u8 2,.int .i64 (-9223372036854775808),.string ⟨#[]⟩,.int .i64 0],.agg #[.int .u8 2,.int .i64 (-1),.string ⟨#[]⟩,.int .i64 0],.int .i64 0] W fun e w'=>e= .returned (.bool true)∧Below W.heap.size W w'
 i3:∀W,Below w.heap.size w W→Calls Tryz.prog 16 #[.string ⟨#[45]⟩,.agg #[.int .u8 2,.int .i64 (-1),.string ⟨#[]⟩,.int .i64 0],.agg #[.int .u8 2,.int .i64 (-9223372036854775808),.string ⟨#[]⟩,.int .i64 0],.int .i64 9223372036854775807] W fun e w'=>e= .returned (.bool true)∧Below W.heap.size W w'
 aw:∀W,Below w.heap.size w W→Calls Tryz.prog 17 #[] W fun e w'=>e= .returned (.bool true)∧Below W.heap.size W w'
def ZpD:Code→Code
 | .seq _ y=>y
 |c=>c
theorem Zno(w:World)(lx ly lz:ByteArray)(h:NHyp w lx ly lz){X0 X1 X2 X3 X4 X5 X6 X7 X8 X9 Xa Xb Xc Xd Xe Xf Xg Xh Xi Xj Xk Xl Xm Xn Xo Xp Xq Xr Xs Xt Xu Xv Xw Xx Xy Xz Y0 Y1 Y2 Y3 Y4 Y5 Y6 Y7 Y8 Y9 Ya Yb Yc Yd Ye Yf Yg Yh Yi Yj Yk Yl Ym Yn Yo Yp Yq Yr Ys Yt Yu Yv Yw Yx Yy Yz J0 J1 J2 J3 J4 J5 J6 J7 J8 J9 Ja Jb Jc Jd Je Jf Jg Jh Ji Jj Jk Jl Jm Jn Jo Jp Jq Jr Js Jt Ju Jv Jw Jx Jy Jz V0 V1 V2 V3 V4 V5 V6 V7 V8 V9 Va Vb Vc Vd Ve Vg Vi Vj Vk Vm Vn Vo Vp Vq Vr Vs Vt Vu Vv Vw Vx Vy Vz U0 U1 U2 U3 U4 U5 U6 U7 U8 U9 Ua Ub Uc Ud Ue Uf Ug Uh Ui Uj Uk Ul Um Un Uo Up Uq Ur Us Ut Uu Uv Uw Ux Uy Uz E0 E1 E2 E3 E4 E5 E6 E7 E8 E9 Ea Eb Ec Ed Ee Ef Eg Eh Ei Ej Ek El Em En Eo Ep Er Es Et Eu Ev Ew Ex Ey Ez D0 D1 D2 D3 D4 D5 D6 D7 D8 D9 Da Db Dc Dd De Df Dg Dh Di Dj Dk Dl Dm Dn Do Dp Dq Dr Ds Dt Du Dv Dw Dx Dy Dz G0 G1 G2 G3 G4 G5 G6 G7 G8 G9 Ga Gb Gc Gf Gg Gh Gi Gj Gk Gl Gm Gn Gp Gq Gr Gs Gu Gv Gw Gx Gy Gz Q0 Q1 Q2 Q3 Q4 Q5 Q6 Q7 Q8 Q9 Qa Qb Qc Qd Qe Qf Qg Qh Qi Qj Qk Ql Qm Qn Qo Qp Qq Qr Qs Qt Qu Qv Qw Qx Qy Qz W2 W3 W4 W5 W6 W7 W8 Wa Wb Wc Wd We Wf Wg Wh Wi Wj Wk Wl Wm Wn Wo Wp Wq Wr Ws Wt Wu Wv Ww Wx Wy Wz T0 T1 T2 T3 T4 T5 T6 T7 T8 T9 Ta Tb Tc Td Te Tf Tg Th Ti Tj Tk Tl Tm Tn Tp Tq Tr Ts Tt Tu Tv Tw Tx Ty Tz S0 S1 S2 S3 S4 S5 S6 S7 S8 S9 Sa Sb Sc Sd Se Sf Sg Sh Si Sj Sk Sl Sn So Sp Sq Sr Ss St Su Sv Sw Sx Sy Sz P0 P1 P2 P3 P4 P5 P6 P7 P8 P9 Pa Pb Pc Pd Pe Pf Pg Ph Pi Pj Pk Pl Pm Pn Po Pp Pq Pr Ps Pt Pu Pv Pw Px Py Pz N0 N1 N2 N3 N4 N5 N6 N7 N8 N9 Na Nb Nc Nd Nf Ng Nh Ni Nj Nk Nl Nm Nn Np Nq Nr Ns Nt Nu:Value}(wr:World)(hB:Below w.heap.size w wr):
  (ZpD (ZpD (ZpD (ZpD (ZpD (ZpD (ZpD (Tryz.f3.body.getD .skip)))))))).wp Tryz.prog (bodyPost Tryz.prog Tryz.f3 fun e w'=>e= .returned (.bool true)∧Below w.heap.size w w') ⟨#[X0,.int .i64 (-9223372036854775808),.int .i64 9223372036854775807,X1,X2,X3,X4,X5,X6,X7,X8,X9,Xa,Xb,Xc,Xd,Xe,Xf,Xg,Xh,Xi,Xj,Xk,Xl,Xm,Xn,Xo,Xp,Xq,Xr,Xs,Xt,Xu,Xv,Xw,Xx,Xy,Xz,Y0,Y1,Y2,Y3,Y4,Y5,Y6,Y7,Y8,Y9,Ya,Yb,Yc,Yd,Ye,Yf,Yg,Yh,Yi,Yj,Yk,Yl,Ym,Yn,Yo,Yp,Yq,Yr,Ys,Yt,Yu,Yv,Yw,Yx,Yy,Yz,J0,J1,J2,J3,J4,J5,J6,J7,J8,J9,Ja,Jb,Jc,Jd,Je,Jf,Jg,Jh,Ji,Jj,Jk,Jl,Jm,Jn,Jo,Jp,Jq,Jr,Js,Jt,Ju,Jv,Jw,Jx,Jy,Jz,V0,V1,V2,V3,V4,V5,V6,V7,V8,V9,Va,Vb,Vc,Vd,Ve,Vg,Vi,Vj,Vk,Vm,Vn,Vo,Vp,Vq,Vr,Vs,Vt,Vu,Vv,Vw,Vx,Vy,Vz,U0,U1,U2,U3,U4,U5,U6,U7,U8,U9,Ua,Ub,Uc,Ud,Ue,Uf,Ug,Uh,Ui,Uj,Uk,Ul,Um,Un,Uo,Up,Uq,Ur,Us,Ut,Uu,Uv,Uw,Ux,Uy,Uz,E0,E1,E2,E3,E4,E5,E6,E7,E8,E9,Ea,Eb,Ec,Ed,Ee,Ef,Eg,Eh,Ei,Ej,Ek,El,Em,En,Eo,Ep,Er,Es,Et,Eu,Ev,Ew,Ex,Ey,Ez,D0,D1,D2,D3,D4,D5,D6,D7,D8,D9,Da,Db,Dc,Dd,De,Df,Dg,Dh,Di,Dj,Dk,Dl,Dm,Dn,Do,Dp,Dq,Dr,Ds,Dt,Du,Dv,Dw,Dx,Dy,Dz,G0,G1,G2,G3,G4,G5,G6,G7,G8,G9,Ga,Gb,Gc,Gf,Gg,Gh,Gi,Gj,Gk,Gl,Gm,Gn,Gp,Gq,Gr,Gs,Gu,Gv,Gw,Gx,Gy,Gz,Q0,Q1,Q2,Q3,Q4,Q5,Q6,Q7,Q8,Q9,Qa,Qb,Qc,Qd,Qe,Qf,Qg,Qh,Qi,Qj,Qk,Ql,Qm,Qn,Qo,Qp,Qq,Qr,Qs,Qt,Qu,Qv,Qw,Qx,Qy,Qz,W2,W3,W4,W5,W6,W7,W8,Wa,Wb,Wc,Wd,We,Wf,Wg,Wh,Wi,Wj,Wk,Wl,Wm,Wn,Wo,Wp,Wq,Wr,Ws,Wt,Wu,Wv,Ww,Wx,Wy,Wz,T0,T1,T2,T3,T4,T5,T6,T7,T8,T9,Ta,Tb,Tc,Td,Te,Tf,Tg,Th,Ti,Tj,Tk,Tl,Tm,Tn,Tp,Tq,Tr,Ts,Tt,Tu,Tv,Tw,Tx,Ty,Tz,S0,S1,S2,S3,S4,S5,S6,S7,S8,S9,Sa,Sb,Sc,Sd,Se,Sf,Sg,Sh,Si,Sj,Sk,Sl,Sn,So,Sp,Sq,Sr,Ss,St,Su,Sv,Sw,Sx,Sy,Sz,P0,P1,P2,P3,P4,P5,P6,P7,P8,P9,Pa,Pb,Pc,Pd,Pe,Pf,Pg,Ph,Pi,Pj,Pk,Pl,Pm,Pn,Po,Pp,Pq,Pr,Ps,Pt,Pu,Pv,Pw,Px,Py,Pz,N0,N1,N2,N3,N4,N5,N6,N7,N8,N9,Na,Nb,Nc,Nd,Nf,Ng,Nh,Ni,Nj,Nk,Nl,Nm,Nn,Np,Nq,Nr,Ns,Nt,Nu],[]⟩ wr:=by
 have LHw:=Za h.lh;have LCw:=Za h.lc;have Rx:=Za h.rx;have Ry:=Za h.ry;have Rz:=Za h.rz;have Cx:=Za h.cx;have Cy:=Za h.cy;have Cz:=Za h.cz;have Cj:=Za h.cj;have Sm:=Za h.sm;have I1:=Za h.i1;have I2:=Za h.i2;have I3:=Za h.i3;have Aw:=Za h.aw;clear h;dsimp only[ZpD,Tryz.f3,Option.getD];have hB3:=hB;clear hB;go_wp2_with fail;refine(Zw _ _).mono ?_;rintro e w3 ⟨rfl,hb⟩;replace hB3:=Zb hB3 hb;clear hb;go_wp2_with fail;refine(Zw _ _).mono ?_;rintro e w4 ⟨rfl,hb⟩;replace hB3:=Zb hB3 hb;clear hb;go_wp2_with fail;refine(Zw _ _).mono ?_;rintro e w5 ⟨rfl,hb⟩;replace hB3:=Zb hB3 hb;clear hb;go_wp2_with fail;refine(Zz _ _ _ _).mono ?_;rintro e wx ⟨rfl,rfl⟩;go_wp2_with fail;have RT5:=Za (RdI.new w5 24 threeN);have hB5:Below w.heap.size w (w5.alloc (.cells (Zi threeN).toArray 24)):=hB3.alloc hB3.size _;refine(LHw.out _ hB5 _ [] [] fN0 fN0 none none 0 0 _ (Below.refl _ _) (.inl rfl) (.inl rfl)).mono ?_;rintro e w6 ⟨rfl,hb⟩;have hB6:=Zb hB5 hb;have RT6:=Za (RT5.out.keep hb);generalize w5.heap.size=gT at*;clear hb hB3 hB5 RT5;go_wp2_with fail;refine(LCw.out w6 hB6 _ [twoN] (fs1 ZmR) (some ⟨w6.heap.size,0,none⟩) 1 _ ((Below.refl _ _).alloc (Nat.le_refl _) _) (Zcr w6 [⟨some ⟨gT,0,none⟩,twoN,3⟩] (by simpa using Zj6 (l:=twoN) (m:=[⟨2,7,⟨#[]⟩,0⟩]) RT6.out))).mono ?_;rintro e w7 ⟨rfl,hb⟩;have hB7:=Zb (hB6.alloc hB6.size _) hb;have RT7:=Za (RT6.out.keep (Zb ((Below.refl w6.heap.size w6).alloc (Nat.le_refl _) _) hb));clear hb hB6 RT6;go_wp2_with fail;refine(LCw.out w7 hB7 _ [twoN] (fs1 ZmR) (some ⟨w7.heap.size,0,none⟩) 1 _ ((Below.refl _ _).alloc (Nat.le_refl _) _) (Zcr w7 [⟨some ⟨gT,0,none⟩,twoN,3⟩] (by simpa using Zj6 (l:=twoN) (m:=[⟨2,7,⟨#[]⟩,0⟩]) RT7.out))).mono ?_;rintro e w8 ⟨rfl,hb⟩;have hB8:=Zb (hB7.alloc hB7.size _) hb;have RT8:=Za (RT7.out.keep (Zb ((Below.refl w7.heap.size w7).alloc (Nat.le_refl _) _) hb));clear hb hB7 RT7;go_wp2_with fail;refine(LCw.out w8 hB8 _ [threeN] (fs1 Zol) (some ⟨w8.heap.size,0,none⟩) 1 _ ((Below.refl _ _).alloc (Nat.le_refl _) _) (Zcr w8 [⟨some ⟨gT,0,none⟩,threeN,3⟩] (by simpa using RT8.out))).mono ?_;rintro e w9 ⟨rfl,hb⟩;have hB9:=Zb (hB8.alloc hB8.size _) hb;have RT9:=Za (RT8.out.keep (Zb ((Below.refl w8.heap.size w8).alloc (Nat.le_refl _) _) hb));clear hb hB8 RT8;go_wp2_with fail;refine(LCw.out w9 hB9 _ [threeN] (fs1 Zol) (some ⟨w9.heap.size,0,none⟩) 1 _ ((Below.refl _ _).alloc (Nat.le_refl _) _) (Zcr w9 [⟨some ⟨gT,0,none⟩,threeN,3⟩] (by simpa using RT9.out))).mono ?_;rintro e w10 ⟨rfl,hb⟩;have hB10:=Zb (hB9.alloc hB9.size _) hb;have RT10:=Za (RT9.out.keep (Zb ((Below.refl w9.heap.size w9).alloc (Nat.le_refl _) _) hb));clear hb hB9 RT9;go_wp2_with fail;refine(Rx.out _).mono ?_;rintro e w11 ⟨rfl,hb⟩;replace hB10:=Zb hB10 hb;clear hb RT10;go_wp2_with fail;refine(Zad _ _).mono ?_;rintro e w12 ⟨rfl,hb⟩;have hB12:=Zb hB10 hb;clear hb hB10;go_wp2_with fail;have HL:=Za (RdI.new w12 24 [⟨3,0,lx,0⟩]);have hB13:Below w.heap.size w (w12.alloc (.cells #[.int .u8 3,.int .i64 0,.string lx,.int .i64 0] 24)):=hB12.alloc hB12.size _;change Hid (RdI (w12.alloc (.cells #[.int .u8 3,.int .i64 0,.string lx,.int .i64 0] 24)) _ _)at HL;generalize (w12.alloc (.cells #[.int .u8 3,.int .i64 0,.string lx,.int .i64 0] 24))=W0 at*;generalize w12.heap.size=gL at*;clear hB12;have hL:ItAt W0.drew gL 0 ⟨3,0,lx,0⟩:=ZgH (i:=0) (HL.out.keep (Below.refl _ _).drew) rfl;have CC:=Cx.out W0.drew hB13.drew;refine Zb9 [(328,kV (itV ⟨3,0,lx,0⟩)),(329,kX [⟨3,0,lx,0⟩]),(330,kX [⟨3,0,lx,0⟩]),(331,kV (itV ⟨3,0,lx,0⟩)),(332,kX [⟨3,0,lx,0⟩]),(333,kX [⟨3,0,lx,0⟩]),(334,kS [[⟨3,0,lx,0⟩],[⟨3,0,lx,0⟩]]),(335,kT 3),(327,kT 3),(336,kA),(337,kV (.int .i64 3)),(15,kA),(16,kV (.int .i64 3))] (by kernel_rfl) (by kernel_rfl) (by kernel_rfl) (by kernel_rfl) ?_ ?_
 ·refine sU rfl ?_ (sU rfl ?_ (sU rfl ?_ (sU rfl ?_ (sU rfl ?_ (sU rfl ?_ (sU rfl ?_ (sU rfl ?_ (sU rfl ?_ (sU rfl ?_ (sU rfl ?_ (sU rfl ?_ (sU rfl ?_ (stepsU_nil)))))))))))))
  ·exact Zc5 (gn rfl) rfl (so 14 rfl rfl) hL rfl rfl
  ·exact ZeW (gn rfl) rfl (si 0 328 rfl rfl) rfl rfl
  ·exact ZaZ (gn rfl) rfl (si 1 329 rfl rfl) rfl rfl
  ·exact Zc5 (gn rfl) rfl (so 14 rfl rfl) hL rfl rfl
  ·exact ZeW (gn rfl) rfl (si 3 331 rfl rfl) rfl rfl
  ·exact ZaZ (gn rfl) rfl (si 4 332 rfl rfl) rfl rfl
  ·exact Zof (gn rfl) rfl (sx (si 2 330 rfl rfl)) (sx (si 5 333 rfl rfl)) rfl rfl
  ·exact Zog CC Tryz.func14 (by kernel_rfl) (gn rfl) rfl (sc _) (si 6 334 rfl rfl) rfl rfl
  ·exact ZO (gn rfl) rfl (si 7 335 rfl rfl) rfl rfl
  ·exact r_x0 (gn rfl) rfl (si 8 327 rfl rfl) rfl rfl
  ·exact r_x1 (gn rfl) rfl (si 8 327 rfl rfl) rfl rfl
  ·exact Zod (gn rfl) rfl (si 9 336 rfl rfl) rfl rfl
  ·exact Zod (gn rfl) rfl (si 10 337 rfl rfl) rfl rfl
 intro u w14 hr hf;have e16:u 16=_:=hf 12 16 _ (by decide) rfl;simp only[Zi6,Act.put,List.setIfInBounds_toArray,List.set_cons_succ,List.set_cons_zero,e16];have hB14:Below w.heap.size w w14:=Zb hB13.drew hr;replace HL:=Za (HL.out.keep (Zb (Below.refl _ _).drew hr));clear hf e16 hr hL CC hB13;go_wp2_with fail;have hL:ItAt w14.drew gL 0 ⟨3,0,lx,0⟩:=ZgH (i:=0) (HL.out.keep (Below.refl _ _).drew) rfl;have CC:=Cy.out w14.drew hB14.drew;refine Zb9 [(339,kV (itV ⟨3,0,lx,0⟩)),(340,kV (itV ⟨2,1,⟨#[]⟩,0⟩)),(341,kX [⟨3,0,lx,0⟩,⟨2,1,⟨#[]⟩,0⟩]),(342,kX [⟨3,0,lx,0⟩,⟨2,1,⟨#[]⟩,0⟩]),(343,kV (.string ly)),(344,kV (itV ⟨3,0,ly,0⟩)),(345,kX [⟨3,0,ly,0⟩]),(346,kX [⟨3,0,ly,0⟩]),(347,kS [[⟨3,0,lx,0⟩,⟨2,1,⟨#[]⟩,0⟩],[⟨3,0,ly,0⟩]]),(348,kT 0),(338,kT 0),(349,kA),(350,kV (.int .i64 0)),(17,kA),(18,kV (.int .i64 0))] (by kernel_rfl) (by kernel_rfl) (by kernel_rfl) (by kernel_rfl) ?_ ?_
 ·refine sU rfl ?_ (sU rfl ?_ (sU rfl ?_ (sU rfl ?_ (sU rfl ?_ (sU rfl ?_ (sU rfl ?_ (sU rfl ?_ (sU rfl ?_ (sU rfl ?_ (sU rfl ?_ (sU rfl ?_ (sU rfl ?_ (sU rfl ?_ (sU rfl ?_ (stepsU_nil)))))))))))))))
  ·exact Zc5 (gn rfl) rfl (so 14 rfl rfl) hL rfl rfl
  ·exact Zoe (gn rfl) rfl (sc _) rfl rfl
  ·exact ZmP (gn rfl) rfl (si 0 339 rfl rfl) (si 1 340 rfl rfl) rfl rfl
  ·exact ZaZ (gn rfl) rfl (si 2 341 rfl rfl) rfl rfl
  ·exact Zpq Ry.out Tryz.func13 (by kernel_rfl) (gn rfl) rfl (sc _) (sc _) rfl rfl
  ·exact r_st (gn rfl) rfl (si 4 343 rfl rfl) rfl rfl
  ·exact ZeW (gn rfl) rfl (si 5 344 rfl rfl) rfl rfl
  ·exact ZaZ (gn rfl) rfl (si 6 345 rfl rfl) rfl rfl
  ·exact Zof (gn rfl) rfl (sx (si 3 342 rfl rfl)) (sx (si 7 346 rfl rfl)) rfl rfl
  ·exact Zog CC Tryz.func14 (by kernel_rfl) (gn rfl) rfl (sc _) (si 8 347 rfl rfl) rfl rfl
  ·exact ZO (gn rfl) rfl (si 9 348 rfl rfl) rfl rfl
  ·exact r_x0 (gn rfl) rfl (si 10 338 rfl rfl) rfl rfl
  ·exact r_x1 (gn rfl) rfl (si 10 338 rfl rfl) rfl rfl
  ·exact Zod (gn rfl) rfl (si 11 349 rfl rfl) rfl rfl
  ·exact Zod (gn rfl) rfl (si 12 350 rfl rfl) rfl rfl
 intro u w15 hr hf;have e18:u 18=_:=hf 14 18 _ (by decide) rfl;simp only[Zi6,Act.put,List.setIfInBounds_toArray,List.set_cons_succ,List.set_cons_zero,e18];have hB15:Below w.heap.size w w15:=Zb hB14.drew hr;replace HL:=Za (HL.out.keep (Zb (Below.refl _ _).drew hr));clear hf e18 hr hL CC hB14;go_wp2_with fail;refine(Zad _ _).mono ?_;rintro e w16 ⟨rfl,hb⟩;replace hB15:=Zb hB15 hb;replace HL:=Za (HL.out.keep hb);clear hb;go_wp2_with fail;refine(Zw _ _).mono ?_;rintro e w17 ⟨rfl,hb⟩;replace hB15:=Zb hB15 hb;replace HL:=Za (HL.out.keep hb);clear hb;go_wp2_with fail;refine(ZeY _ _).mono ?_;rintro e w18 ⟨rfl,hb⟩;replace hB15:=Zb hB15 hb;replace HL:=Za (HL.out.keep hb);clear hb;go_wp2_with fail;refine(ZbW _ _ _).mono ?_;rintro e w19 ⟨rfl,hb⟩;replace hB15:=Zb hB15 hb;replace HL:=Za (HL.out.keep hb);clear hb;go_wp2_with fail;refine(Zz _ _ _ _).mono ?_;rintro e wx ⟨rfl,rfl⟩;go_wp2_with fail;have RJ:=Za (RdI.new w19 24 ZeX);refine(Zad _ _).mono ?_;rintro e w20 ⟨rfl,hb⟩;have hB20:=Zb (hB15.alloc hB15.size _) hb;replace HL:=Za ((HL.out.alloc _).keep hb);have RJ20:=Za (RJ.out.keep hb);generalize w19.heap.size=gJ at*;clear hb RJ hB15;go_wp2_with fail;refine(Zz _ _ _ _).mono ?_;rintro e wx ⟨rfl,rfl⟩;go_wp2_with fail;have rd:=Zcr (w20.alloc (.cells (Zi Zbc).toArray 24)) [⟨some ⟨gJ,0,none⟩,ZeX,4⟩,⟨some ⟨w20.heap.size,0,none⟩,Zbc,1⟩] (by simpa using⟨RJ20.out.alloc _,RdI.new w20 24 Zbc⟩);rw[show(w20.alloc (.cells (Zi Zbc).toArray 24)).heap.size=w20.heap.size+1 by simp]at rd;have hB21:=(hB20.alloc hB20.size (.cells (Zi Zbc).toArray 24)).alloc (hB20.alloc hB20.size (.cells (Zi Zbc).toArray 24)).size (.cells (([⟨some ⟨gJ,0,none⟩,ZeX,4⟩,⟨some ⟨w20.heap.size,0,none⟩,Zbc,1⟩]:List Lst).map Lst.v).toArray 28);refine(Cj.out (some ⟨w20.heap.size+1,0,none⟩) 2 _ hB21 rd).mono ?_;rintro e w22 ⟨⟨q,cap,rfl,hq⟩,hb⟩;have hB22:=Zb hB21 hb;replace HL:=Za (((HL.out.alloc (.cells (Zi Zbc).toArray 24)).alloc (.cells (([⟨some ⟨gJ,0,none⟩,ZeX,4⟩,⟨some ⟨w20.heap.size,0,none⟩,Zbc,1⟩]:List Lst).map Lst.v).toArray 28)).keep hb);have HQ:=Za hq;clear hb hq rd hB20 hB21 RJ20;obtain⟨c0,c1,c2,c3⟩:ItAt w22 gL 0 ⟨3,0,lx,0⟩:=ZgH (i:=0) HL.out rfl;have d0:w22.cell? ⟨gL,0,none⟩=some (.int .u8 3):=c0;have d1:w22.cell? ⟨gL,1,none⟩=some (.int .i64 0):=c1;have d2:w22.cell? ⟨gL,2,none⟩=some (.string lx):=c2;have d3:w22.cell? ⟨gL,3,none⟩=some (.int .i64 0):=c3;clear c0 c1 c2 c3 HL;go_wp2_with fail;refine(Zz _ _ _ _).mono ?_;rintro e wx ⟨rfl,rfl⟩;go_wp2_with fail;have RL:=Za (RdI.new w22 24 [⟨3,0,lx,0⟩]);refine(Rz.out _).mono ?_;rintro e w23 ⟨rfl,hb⟩;have hB23:=Zb (hB22.alloc hB22.size _) hb;replace HQ:=Za ((HQ.out.alloc _).keep hb);replace RL:=Za (RL.out.keep hb);generalize w22.heap.size=gK at*;clear hb hB22 d0 d1 d2 d3;go_wp2_with fail;refine(Zad _ _).mono ?_;rintro e w24 ⟨rfl,hb⟩;replace hB23:=Zb hB23 hb;replace HQ:=Za (HQ.out.keep hb);replace RL:=Za (RL.out.keep hb);clear hb;go_wp2_with fail;refine(Zz _ _ _ _).mono ?_;rintro e wx ⟨rfl,rfl⟩;go_wp2_with fail;have rd:=Zcr (w24.alloc (.cells (Zi [⟨3,0,lz,0⟩]).toArray 24)) [⟨some ⟨gK,0,none⟩,[⟨3,0,lx,0⟩],1⟩,⟨some ⟨w24.heap.size,0,none⟩,[⟨3,0,lz,0⟩],1⟩] (by simpa using⟨RL.out.alloc _,RdI.new w24 24 [⟨3,0,lz,0⟩]⟩);rw[show(w24.alloc (.cells (Zi [⟨3,0,lz,0⟩]).toArray 24)).heap.size=w24.heap.size+1 by simp]at rd;have hB25:=(hB23.alloc hB23.size (.cells (Zi [⟨3,0,lz,0⟩]).toArray 24)).alloc (hB23.alloc hB23.size (.cells (Zi [⟨3,0,lz,0⟩]).toArray 24)).size (.cells (([⟨some ⟨gK,0,none⟩,[⟨3,0,lx,0⟩],1⟩,⟨some ⟨w24.heap.size,0,none⟩,[⟨3,0,lz,0⟩],1⟩]:List Lst).map Lst.v).toArray 28);refine(Cz.out _ hB25 (some ⟨w24.heap.size+1,0,none⟩) 2 _ (Below.refl _ _) rd).mono ?_;rintro e w26 ⟨⟨vz,rfl⟩,hb⟩;have hB26:=Zb hB25 hb;replace HQ:=Za (((HQ.out.alloc (.cells (Zi [⟨3,0,lz,0⟩]).toArray 24)).alloc (.cells (([⟨some ⟨gK,0,none⟩,[⟨3,0,lx,0⟩],1⟩,⟨some ⟨w24.heap.size,0,none⟩,[⟨3,0,lz,0⟩],1⟩]:List Lst).map Lst.v).toArray 28)).keep hb);clear hb rd hB23 hB25 RL;go_wp2_with fail;refine(Zad _ _).mono ?_;rintro e w27 ⟨rfl,hb⟩;replace hB26:=Zb hB26 hb;replace HQ:=Za (HQ.out.keep hb);clear hb;go_wp2_with fail;refine(Zz _ _ _ _).mono ?_;rintro e wx ⟨rfl,rfl⟩;go_wp2_with fail;refine(Sm.out q (some ⟨w27.heap.size,0,none⟩) cap 1 _ (HQ.out.alloc _) (RdI.new w27 24 Zcs)).mono ?_;rintro e w28 ⟨rfl,hb⟩;have hB28:=Zb (hB26.alloc hB26.size _) hb;clear hb HQ hB26;go_wp2_with fail;go_loopw[23] (fun v W=>∃n:Int,-3≤n∧n≤8∧v= .int .i64 n∧Below w.heap.size w W) (fun v _=>(8-intOf v).toNat)
 case atStart=>exact⟨-3,by decide,by decide,rfl,hB28⟩
 case round=>
  clear hB28;obtain⟨n,hn1,hn2,rfl,hB⟩:=hrel;by_cases hn:n<8
  ·have rn:R64 n:=by unfold R64;omega
   have Rn:=Za rn;clear rn;go_wp2_with fail;go_loopw[24] (fun v W=>∃k:Int,-3≤k∧k≤8∧v= .int .i64 k∧Below w.heap.size w W) (fun v _=>(8-intOf v).toNat)
   case atStart=>exact⟨-3,by decide,by decide,rfl,hB⟩
   case round=>
    clear hB;obtain⟨k,hk1,hk2,rfl,hB⟩:=hrel;by_cases hk:k<8
    ·have rk:R64 k:=by unfold R64;omega
     have Rk:=Za rk;clear rk;go_wp2_with fail;refine(Zad _ _).mono ?_;rintro e w30 ⟨rfl,hb⟩;have hB30:=Zb hB hb;clear hb hB;go_wp2_with fail;refine(Zz _ _ _ _).mono ?_;rintro e wx ⟨rfl,rfl⟩;go_wp2_with fail;have R1:=Za (RdI.new w30 24 [⟨3,0,⟨#[97,195,169,98,99]⟩,0⟩]);refine(Zw _ _).mono ?_;rintro e w31 ⟨rfl,hb⟩;have hB31:=Zb (hB30.alloc hB30.size _) hb;replace R1:=Za (R1.out.keep hb);generalize w30.heap.size=g1 at*;clear hb hB30;go_wp2_with fail;refine(Zz _ _ _ _).mono ?_;rintro e wx ⟨rfl,rfl⟩;go_wp2_with fail;have R2:=Za (RdI.new w31 24 [⟨2,n,⟨#[]⟩,0⟩]);refine(Zw _ _).mono ?_;rintro e w32 ⟨rfl,hb⟩;have hB32:=Zb (hB31.alloc hB31.size _) hb;replace R1:=Za ((R1.out.alloc _).keep hb);replace R2:=Za (R2.out.keep hb);generalize w31.heap.size=g2 at*;clear hb hB31;go_wp2_with fail;refine(Zz _ _ _ _).mono ?_;rintro e wx ⟨rfl,rfl⟩;go_wp2_with fail;have rd:=Zcr (w32.alloc (.cells (Zi [⟨2,k,⟨#[]⟩,0⟩]).toArray 24)) [⟨some ⟨g1,0,none⟩,[⟨3,0,⟨#[97,195,169,98,99]⟩,0⟩],1⟩,⟨some ⟨g2,0,none⟩,[⟨2,n,⟨#[]⟩,0⟩],1⟩,⟨some ⟨w32.heap.size,0,none⟩,[⟨2,k,⟨#[]⟩,0⟩],1⟩] (by simpa using⟨R1.out.alloc _,R2.out.alloc _,RdI.new w32 24 [⟨2,k,⟨#[]⟩,0⟩]⟩);rw[show(w32.alloc (.cells (Zi [⟨2,k,⟨#[]⟩,0⟩]).toArray 24)).heap.size=w32.heap.size+1 by simp]at rd;have hB33:=(hB32.alloc hB32.size (.cells (Zi [⟨2,k,⟨#[]⟩,0⟩]).toArray 24)).alloc (hB32.alloc hB32.size (.cells (Zi [⟨2,k,⟨#[]⟩,0⟩]).toArray 24)).size (.cells (([⟨some ⟨g1,0,none⟩,[⟨3,0,⟨#[97,195,169,98,99]⟩,0⟩],1⟩,⟨some ⟨g2,0,none⟩,[⟨2,n,⟨#[]⟩,0⟩],1⟩,⟨some ⟨w32.heap.size,0,none⟩,[⟨2,k,⟨#[]⟩,0⟩],1⟩]:List Lst).map Lst.v).toArray 28);refine(LCw.out _ hB33 _ _ (fs3 fNA (fNI Rn.out) (fNI Rk.out)) (some ⟨w32.heap.size+1,0,none⟩) 3 _ (Below.refl _ _) rd).mono ?_;rintro e w34 ⟨rfl,hb⟩;have hB34:=Zb hB33 hb;clear hb rd hB33 hB32 R1 R2;go_wp2;go_roundw
     case rel=>exact⟨k+1,by omega,by omega,by go_num,hB34⟩
     case measure=>simp[intOf];omega
    ·have hk':k=8:=by omega
     subst hk';go_wp2;go_roundw
     case rel=>exact⟨n+1,by omega,by omega,by go_num,hB⟩
     case measure=>simp[intOf];omega
  ·have hn':n=8:=by omega
   subst hn';go_wp2_with fail;show Code.wp _ _ _ _ (wr.alloc (.cells endsV.toArray 40));have RE:=Za (Rd.new wr 40 endsV);have hB9:=hB.alloc hB.size (.cells endsV.toArray 40);change Hid (Rd (wr.alloc (.cells endsV.toArray 40)) _ _)at RE;generalize (wr.alloc (.cells endsV.toArray 40))=W9 at*;generalize wr.heap.size=gE at*;clear hB;go_loopw[26] (fun v W=>∃e:Nat,e≤8∧v= .int .i64 e∧Below W9.heap.size W9 W) (fun v _=>8-(intOf v).toNat)
   case atStart=>exact⟨0,Nat.zero_le _,rfl,Below.refl _ _⟩
   case round=>
    obtain⟨e,he0,rfl,hB⟩:=hrel;by_cases he:e<8
    ·have hE:(e:Int)<8:=by omega
     obtain⟨a,b,ra,rb,ea,eb⟩:=Znn e he;go_wp2_with fail;obtain⟨W0,rfl⟩:∃W0,W0=wr:=⟨_,rfl⟩;have ca:=Zok (RE.out.keep hB.drew) ea;have cb:=Zok (RE.out.keep hB.drew) eb;have LC:=LCw.out W0.drew (Zb hB9 hB).drew;clear ea eb;refine Zb9 [(445,kV (itV ⟨3,0,⟨#[109,111,116,111,114]⟩,0⟩)),(446,kX [⟨3,0,⟨#[109,111,116,111,114]⟩,0⟩]),(447,kX [⟨3,0,⟨#[109,111,116,111,114]⟩,0⟩]),(448,kV (.slice (some ⟨gE,0,none⟩) 8 8)),(449,kV (.int .i64 e)),(450,kV (.pointer (some ⟨gE,0+e*2,none⟩))),(451,kV (.pointer (some ⟨gE,0+e*2+0,none⟩))),(452,kV (.int .i64 a)),(453,kV (itV ⟨2,a,⟨#[]⟩,0⟩)),(454,kX [⟨2,a,⟨#[]⟩,0⟩]),(455,kX [⟨2,a,⟨#[]⟩,0⟩]),(456,kV (.slice (some ⟨gE,0,none⟩) 8 8)),(457,kV (.int .i64 e)),(458,kV (.pointer (some ⟨gE,0+e*2,none⟩))),(459,kV (.pointer (some ⟨gE,0+e*2+1,none⟩))),(460,kV (.int .i64 b)),(461,kV (itV ⟨2,b,⟨#[]⟩,0⟩)),(462,kX [⟨2,b,⟨#[]⟩,0⟩]),(463,kX [⟨2,b,⟨#[]⟩,0⟩]),(464,kS [[⟨3,0,⟨#[109,111,116,111,114]⟩,0⟩],[⟨2,a,⟨#[]⟩,0⟩],[⟨2,b,⟨#[]⟩,0⟩]]),(465,kV (.bool true)),(466,kV (.bool false))] (by kernel_rfl) (by kernel_rfl) (by kernel_rfl) (by kernel_rfl) ?_ ?_
     ·refine sU rfl ?_ (sU rfl ?_ (sU rfl ?_ (sU rfl ?_ (sU rfl ?_ (sU rfl ?_ (sU rfl ?_ (sU rfl ?_ (sU rfl ?_ (sU rfl ?_ (sU rfl ?_ (sU rfl ?_ (sU rfl ?_ (sU rfl ?_ (sU rfl ?_ (sU rfl ?_ (sU rfl ?_ (sU rfl ?_ (sU rfl ?_ (sU rfl ?_ (sU rfl ?_ (sU rfl ?_ (stepsU_nil))))))))))))))))))))))
      ·exact r_st (gn rfl) rfl (sc _) rfl rfl
      ·exact ZeW (gn rfl) rfl (si 0 445 rfl rfl) rfl rfl
      ·exact ZaZ (gn rfl) rfl (si 1 446 rfl rfl) rfl rfl
      ·exact ZO (gn rfl) rfl (so 25 rfl rfl) rfl rfl
      ·exact ZO (gn rfl) rfl (so 26 rfl rfl) rfl rfl
      ·exact Zoh (gn rfl) rfl (si 3 448 rfl rfl) (si 4 449 rfl rfl) rfl he rfl rfl
      ·exact Zoi (q:=0) (.inl rfl) (gn rfl) rfl (si 5 450 rfl rfl) rfl rfl
      ·exact Zoj (gn rfl) rfl (si 6 451 rfl rfl) ca rfl rfl
      ·exact Zoe (gn rfl) rfl (si 7 452 rfl rfl) rfl rfl
      ·exact ZeW (gn rfl) rfl (si 8 453 rfl rfl) rfl rfl
      ·exact ZaZ (gn rfl) rfl (si 9 454 rfl rfl) rfl rfl
      ·exact ZO (gn rfl) rfl (so 25 rfl rfl) rfl rfl
      ·exact ZO (gn rfl) rfl (so 26 rfl rfl) rfl rfl
      ·exact Zoh (gn rfl) rfl (si 11 456 rfl rfl) (si 12 457 rfl rfl) rfl he rfl rfl
      ·exact Zoi (q:=1) (.inr rfl) (gn rfl) rfl (si 13 458 rfl rfl) rfl rfl
      ·exact Zoj (gn rfl) rfl (si 14 459 rfl rfl) cb rfl rfl
      ·exact Zoe (gn rfl) rfl (si 15 460 rfl rfl) rfl rfl
      ·exact ZeW (gn rfl) rfl (si 16 461 rfl rfl) rfl rfl
      ·exact ZaZ (gn rfl) rfl (si 17 462 rfl rfl) rfl rfl
      ·exact r_s3 (gn rfl) rfl (sx (si 2 447 rfl rfl)) (sx (si 10 455 rfl rfl)) (sx (si 18 463 rfl rfl)) rfl rfl
      ·exact Zj5 (LC _ _ (fs3 fNM (fNI ra) (fNI rb))) Tryz.func12 (by kernel_rfl) (gn rfl) rfl (sc _) (si 19 464 rfl rfl) rfl rfl
      ·exact Zcj (gn rfl) rfl (si 20 465 rfl rfl) rfl rfl
     intro u w2 hr hf;have e466:u 466=_:=hf 21 466 _ (by decide) rfl;rw[ZcH _ _ _ _ 445 rfl (Nat.le_of_ble_eq_true rfl)];simp only[List.take_succ_cons,List.take_zero,List.drop_succ_cons,List.drop_zero,List.map_cons,List.map_nil,List.cons_append,List.nil_append,List.length_cons,List.length_nil,Nat.reduceAdd,Nat.zero_add,e466];have hB2:Below W9.heap.size W9 w2:=Zb hB.drew hr;clear hf e466 hr ca cb LC hB;go_wp2;go_roundw
     case rel=>exact⟨e+1,by omega,by go_num,hB2⟩
     case measure=>simp[intOf];omega
    ·have he':e=8:=by omega
     subst he';have hB1:=Zb hB9 hB;clear hB RE hB9
     iterate 2
      go_wp2_with fail;refine(Zw _ _).mono ?_;rintro e w1 ⟨rfl,hb⟩;replace hB1:=Zb hB1 hb;clear hb
     go_wp2_with fail;refine(I1.out _ hB1).mono ?_;rintro e w1 ⟨rfl,hb⟩;replace hB1:=Zb hB1 hb;clear hb
     iterate 2
      go_wp2_with fail;refine(Zw _ _).mono ?_;rintro e w1 ⟨rfl,hb⟩;replace hB1:=Zb hB1 hb;clear hb
     go_wp2_with fail;refine(I2.out _ hB1).mono ?_;rintro e w1 ⟨rfl,hb⟩;replace hB1:=Zb hB1 hb;clear hb
     iterate 2
      go_wp2_with fail;refine(Zw _ _).mono ?_;rintro e w1 ⟨rfl,hb⟩;replace hB1:=Zb hB1 hb;clear hb
     go_wp2_with fail;refine(I3.out _ hB1).mono ?_;rintro e w1 ⟨rfl,hb⟩;replace hB1:=Zb hB1 hb;clear hb;go_wp2_with fail;refine(Aw.out _ hB1).mono ?_;rintro e w1 ⟨rfl,hb⟩;replace hB1:=Zb hB1 hb;clear hb;go_wp2;go_ret;exact⟨rfl,hB1⟩
theorem Zoc(w:World)(lx ly lz:ByteArray)(h:NHyp w lx ly lz):
  Calls Tryz.prog 3 #[] w fun e w'=>e= .returned (.bool true)∧Below w.heap.size w w':=by
 have LHw:=Za h.lh;have LMw:=Za h.lm;have LCw:=Za h.lc;have HH:=Za h;have hB:=Below.refl w.heap.size w;clear h;go_enter Tryz.func3,Tryz.ntmps3
 iterate 15
  go_wp2_with fail
  first
   |refine(Zw _ _).mono ?_
   |refine(Zad _ _).mono ?_
   |refine(ZbW _ _ _).mono ?_
   |refine(ZeY _ _).mono ?_
  rintro e w1 ⟨rfl,hb⟩;replace hB:=Zb hB hb;clear hb
 go_wp2_with fail;show Code.wp _ _ _ _ ((w1.alloc (.cells (Zi itsN).toArray 24)).alloc (.cells (opsN.map .string).toArray 9));have hi1:RdI ((w1.alloc (.cells (Zi itsN).toArray 24)).alloc (.cells (opsN.map .string).toArray 9)) (some ⟨w1.heap.size,0,none⟩) itsN:=(RdI.new w1 24 itsN).alloc _;have ho1:Rd ((w1.alloc (.cells (Zi itsN).toArray 24)).alloc (.cells (opsN.map .string).toArray 9)) (some ⟨w1.heap.size+1,0,none⟩) (opsN.map .string):=by have:=Rd.new (w1.alloc (.cells (Zi itsN).toArray 24)) 9 (opsN.map .string);rwa[show(w1.alloc (.cells (Zi itsN).toArray 24)).heap.size=w1.heap.size+1 by simp]at this
 have hb1:Below w.heap.size w ((w1.alloc (.cells (Zi itsN).toArray 24)).alloc (.cells (opsN.map .string).toArray 9)):=(hB.alloc hB.size _).alloc (hB.alloc hB.size _).size _;generalize ((w1.alloc (.cells (Zi itsN).toArray 24)).alloc (.cells (opsN.map .string).toArray 9))=W1 at*;generalize w1.heap.size+1=gO at*;generalize w1.heap.size=gI at*;have HI:=Za hi1;have HO:=Za ho1;clear hB hi1 ho1;go_loopw[5] (fun v W=>∃i:Nat,i≤23∧v= .int .i64 i∧Below W1.heap.size W1 W) (fun v _=>23-(intOf v).toNat)
 case atStart=>exact⟨0,Nat.zero_le _,rfl,Below.refl _ _⟩
 case round=>
  obtain⟨i,hi0,rfl,hB⟩:=hrel;by_cases hi:i<23
  ·have hI:(i:Int)<23:=by omega
   obtain⟨x,hx0⟩:∃x,itsN[i]? =some x:=⟨_,List.getElem?_eq_getElem hi⟩;have mx:=List.mem_of_getElem? hx0;have Hx0:=Za hx0;clear hx0;go_wp2_with fail;go_loopw[6] (fun v W=>∃k:Nat,k≤23∧v= .int .i64 k∧Below W1.heap.size W1 W) (fun v _=>23-(intOf v).toNat)
   case atStart=>exact⟨0,Nat.zero_le _,rfl,hB⟩
   case round=>
    clear hB;obtain⟨k,hk0,rfl,hB⟩:=hrel;by_cases hk:k<23
    ·have hK:(k:Int)<23:=by omega
     obtain⟨y,hy0⟩:∃y,itsN[k]? =some y:=⟨_,List.getElem?_eq_getElem hk⟩;have my:=List.mem_of_getElem? hy0;have Hy0:=Za hy0;clear hy0;go_wp2_with fail;go_loopw[7] (fun v W=>∃o:Nat,o≤13∧v= .int .i64 o∧Below W1.heap.size W1 W) (fun v _=>13-(intOf v).toNat)
     case atStart=>exact⟨0,Nat.zero_le _,rfl,hB⟩
     case round=>
      clear hB;obtain⟨o,ho0,rfl,hB⟩:=hrel;by_cases ho:o<13
      ·have hO:(o:Int)<13:=by omega
       obtain⟨s,hs0⟩:∃s,opsN[o]? =some s:=⟨_,List.getElem?_eq_getElem ho⟩;go_wp2_with fail;obtain⟨W0,rfl⟩:∃W0,W0=wr:=⟨_,rfl⟩;have hx:=ZgH (HI.out.keep hB.drew) Hx0.out;have hy:=ZgH (HI.out.keep hB.drew) Hy0.out;have hs:=Zph (HO.out.keep hB.drew) hs0;have LH:=LHw.out W0.drew (Zb hb1 hB).drew;have LM:=LMw.out W0.drew (Zb hb1 hB).drew;clear hs0;refine Zb9 [(72,kV (.slice (some ⟨gO,0,none⟩) 13 13)),(73,kV (.int .i64 o)),(74,kV (.pointer (some ⟨gO,0+o,none⟩))),(75,kV (.string s)),(76,kV (.slice (some ⟨gI,0,none⟩) 23 23)),(77,kV (.int .i64 i)),(78,kV (.pointer (some ⟨gI,0+i*4,none⟩))),(79,kV (itV x)),(80,kX [x]),(81,kX [x]),(82,kV (.slice (some ⟨gI,0,none⟩) 23 23)),(83,kV (.int .i64 k)),(84,kV (.pointer (some ⟨gI,0+k*4,none⟩))),(85,kV (itV y)),(86,kX [y]),(87,kX [y]),(88,kV (.bool true)),(89,kV (.bool false)),(90,kV (.bool false)),(91,kV (.slice (some ⟨gO,0,none⟩) 13 13)),(92,kV (.int .i64 o)),(93,kV (.pointer (some ⟨gO,0+o,none⟩))),(94,kV (.string s)),(95,kV (.slice (some ⟨gI,0,none⟩) 23 23)),(96,kV (.int .i64 i)),(97,kV (.pointer (some ⟨gI,0+i*4,none⟩))),(98,kV (itV x)),(99,kX [x]),(100,kX [x]),(101,kV (.slice (some ⟨gI,0,none⟩) 23 23)),(102,kV (.int .i64 k)),(103,kV (.pointer (some ⟨gI,0+k*4,none⟩))),(104,kV (itV y)),(105,kX [y]),(106,kX [y]),(107,kV (.bool true)),(108,kV (.bool false)),(109,kV (.bool false))] (by kernel_rfl) (by kernel_rfl) (by kernel_rfl) (by kernel_rfl) ?_ ?_
       ·refine sU rfl ?_ (sU rfl ?_ (sU rfl ?_ (sU rfl ?_ (sU rfl ?_ (sU rfl ?_ (sU rfl ?_ (sU rfl ?_ (sU rfl ?_ (sU rfl ?_ (sU rfl ?_ (sU rfl ?_ (sU rfl ?_ (sU rfl ?_ (sU rfl ?_ (sU rfl ?_ (sU rfl ?_ (sU rfl ?_ (sU rfl ?_ (sU rfl ?_ (sU rfl ?_ (sU rfl ?_ (sU rfl ?_ (sU rfl ?_ (sU rfl ?_ (sU rfl ?_ (sU rfl ?_ (sU rfl ?_ (sU rfl ?_ (sU rfl ?_ (sU rfl ?_ (sU rfl ?_ (sU rfl ?_ (sU rfl ?_ (sU rfl ?_ (sU rfl ?_ (sU rfl ?_ (sU rfl ?_ (stepsU_nil))))))))))))))))))))))))))))))))))))))
        ·exact ZO (gn rfl) rfl (so 4 rfl rfl) rfl rfl
        ·exact ZO (gn rfl) rfl (so 7 rfl rfl) rfl rfl
        ·exact Zep (gn rfl) rfl (si 0 72 rfl rfl) (si 1 73 rfl rfl) rfl ho rfl rfl
        ·exact Zeq (gn rfl) rfl (si 2 74 rfl rfl) hs rfl rfl
        ·exact ZO (gn rfl) rfl (so 3 rfl rfl) rfl rfl
        ·exact ZO (gn rfl) rfl (so 5 rfl rfl) rfl rfl
        ·exact ZdM (gn rfl) rfl (si 4 76 rfl rfl) (si 5 77 rfl rfl) rfl hi rfl rfl
        ·exact Zc5 (gn rfl) rfl (si 6 78 rfl rfl) hx rfl rfl
        ·exact ZeW (gn rfl) rfl (si 7 79 rfl rfl) rfl rfl
        ·exact ZaZ (gn rfl) rfl (si 8 80 rfl rfl) rfl rfl
        ·exact ZO (gn rfl) rfl (so 3 rfl rfl) rfl rfl
        ·exact ZO (gn rfl) rfl (so 6 rfl rfl) rfl rfl
        ·exact ZdM (gn rfl) rfl (si 10 82 rfl rfl) (si 11 83 rfl rfl) rfl hk rfl rfl
        ·exact Zc5 (gn rfl) rfl (si 12 84 rfl rfl) hy rfl rfl
        ·exact ZeW (gn rfl) rfl (si 13 85 rfl rfl) rfl rfl
        ·exact ZaZ (gn rfl) rfl (si 14 86 rfl rfl) rfl rfl
        ·exact ZmQ (LH _ _ _ (fN1 mx) (fN1 my)) Tryz.func8 (by kernel_rfl) (gn rfl) rfl (si 3 75 rfl rfl) (sx (si 9 81 rfl rfl)) (sx (si 15 87 rfl rfl)) rfl rfl
        ·exact Zcj (gn rfl) rfl (si 16 88 rfl rfl) rfl rfl
        ·exact ZO (gn rfl) rfl (si 17 89 rfl rfl) rfl rfl
        ·exact ZO (gy 18 90 rfl rfl rfl rfl) rfl (so 4 rfl rfl) rfl rfl
        ·exact ZO (gy 18 90 rfl rfl rfl rfl) rfl (so 7 rfl rfl) rfl rfl
        ·exact Zep (gy 18 90 rfl rfl rfl rfl) rfl (si 19 91 rfl rfl) (si 20 92 rfl rfl) rfl ho rfl rfl
        ·exact Zeq (gy 18 90 rfl rfl rfl rfl) rfl (si 21 93 rfl rfl) hs rfl rfl
        ·exact ZO (gy 18 90 rfl rfl rfl rfl) rfl (so 3 rfl rfl) rfl rfl
        ·exact ZO (gy 18 90 rfl rfl rfl rfl) rfl (so 5 rfl rfl) rfl rfl
        ·exact ZdM (gy 18 90 rfl rfl rfl rfl) rfl (si 23 95 rfl rfl) (si 24 96 rfl rfl) rfl hi rfl rfl
        ·exact Zc5 (gy 18 90 rfl rfl rfl rfl) rfl (si 25 97 rfl rfl) hx rfl rfl
        ·exact ZeW (gy 18 90 rfl rfl rfl rfl) rfl (si 26 98 rfl rfl) rfl rfl
        ·exact ZaZ (gy 18 90 rfl rfl rfl rfl) rfl (si 27 99 rfl rfl) rfl rfl
        ·exact ZO (gy 18 90 rfl rfl rfl rfl) rfl (so 3 rfl rfl) rfl rfl
        ·exact ZO (gy 18 90 rfl rfl rfl rfl) rfl (so 6 rfl rfl) rfl rfl
        ·exact ZdM (gy 18 90 rfl rfl rfl rfl) rfl (si 29 101 rfl rfl) (si 30 102 rfl rfl) rfl hk rfl rfl
        ·exact Zc5 (gy 18 90 rfl rfl rfl rfl) rfl (si 31 103 rfl rfl) hy rfl rfl
        ·exact ZeW (gy 18 90 rfl rfl rfl rfl) rfl (si 32 104 rfl rfl) rfl rfl
        ·exact ZaZ (gy 18 90 rfl rfl rfl rfl) rfl (si 33 105 rfl rfl) rfl rfl
        ·exact ZmQ (LM _ _ _ (fN1 mx) (fN1 my)) Tryz.func10 (by kernel_rfl) (gy 18 90 rfl rfl rfl rfl) rfl (si 22 94 rfl rfl) (sx (si 28 100 rfl rfl)) (sx (si 34 106 rfl rfl)) rfl rfl
        ·exact Zcj (gy 18 90 rfl rfl rfl rfl) rfl (si 35 107 rfl rfl) rfl rfl
        ·exact Zca (gn rfl) rfl (si 18 90 rfl rfl) (si 36 108 rfl rfl) rfl rfl
       intro u w2 hr hf;have e109:u 109=_:=hf 37 109 _ (by decide) rfl;rw[ZcH _ _ _ _ 72 rfl (Nat.le_of_ble_eq_true rfl)];simp only[List.take_succ_cons,List.take_zero,List.drop_succ_cons,List.drop_zero,List.map_cons,List.map_nil,List.cons_append,List.nil_append,List.length_cons,List.length_nil,Nat.reduceAdd,Nat.zero_add,e109];have hB2:Below W1.heap.size W1 w2:=Zb hB.drew hr;clear hf e109 hr hx hy hs LH LM hB;go_wp2;go_roundw
       case rel=>exact⟨o+1,by omega,by go_num,hB2⟩
       case measure=>simp[intOf];omega
      ·have ho':o=13:=by omega
       subst ho';go_wp2_with fail;obtain⟨W0,rfl⟩:∃W0,W0=wr:=⟨_,rfl⟩;have hx:=ZgH (HI.out.keep hB.drew) Hx0.out;have hy:=ZgH (HI.out.keep hB.drew) Hy0.out;have LH:=LHw.out W0.drew (Zb hb1 hB).drew;have LM:=LMw.out W0.drew (Zb hb1 hB).drew;refine Zb9 [(110,kV (.slice (some ⟨gI,0,none⟩) 23 23)),(111,kV (.int .i64 i)),(112,kV (.pointer (some ⟨gI,0+i*4,none⟩))),(113,kV (itV x)),(114,kV (.slice (some ⟨gI,0,none⟩) 23 23)),(115,kV (.int .i64 k)),(116,kV (.pointer (some ⟨gI,0+k*4,none⟩))),(117,kV (itV y)),(118,kX [x,y]),(119,kX [x,y]),(120,kV (.slice (some ⟨gI,0,none⟩) 23 23)),(121,kV (.int .i64 k)),(122,kV (.pointer (some ⟨gI,0+k*4,none⟩))),(123,kV (itV y)),(124,kX [y]),(125,kX [y]),(126,kV (.bool true)),(127,kV (.bool false)),(128,kV (.bool false)),(129,kV (.slice (some ⟨gI,0,none⟩) 23 23)),(130,kV (.int .i64 i)),(131,kV (.pointer (some ⟨gI,0+i*4,none⟩))),(132,kV (itV x)),(133,kV (.slice (some ⟨gI,0,none⟩) 23 23)),(134,kV (.int .i64 k)),(135,kV (.pointer (some ⟨gI,0+k*4,none⟩))),(136,kV (itV y)),(137,kX [x,y]),(138,kX [x,y]),(139,kV (.bool true)),(140,kV (.bool false)),(141,kV (.bool false)),(142,kV (.bool false)),(143,kV (.slice (some ⟨gI,0,none⟩) 23 23)),(144,kV (.int .i64 k)),(145,kV (.pointer (some ⟨gI,0+k*4,none⟩))),(146,kV (itV y)),(147,kX [y]),(148,kX [y]),(149,kV (.slice (some ⟨gI,0,none⟩) 23 23)),(150,kV (.int .i64 i)),(151,kV (.pointer (some ⟨gI,0+i*4,none⟩))),(152,kV (itV x)),(153,kV (.slice (some ⟨gI,0,none⟩) 23 23)),(154,kV (.int .i64 k)),(155,kV (.pointer (some ⟨gI,0+k*4,none⟩))),(156,kV (itV y)),(157,kX [x,y]),(158,kX [x,y]),(159,kV (.bool true)),(160,kV (.bool false)),(161,kV (.bool false)),(162,kV (.bool false)),(163,kV (.slice (some ⟨gI,0,none⟩) 23 23)),(164,kV (.int .i64 i)),(165,kV (.pointer (some ⟨gI,0+i*4,none⟩))),(166,kV (itV x)),(167,kX [x]),(168,kX [x]),(169,kV (.bool true)),(170,kV (.bool false)),(171,kV (.bool false))] (by kernel_rfl) (by kernel_rfl) (by kernel_rfl) (by kernel_rfl) ?_ ?_
       ·refine sU rfl ?_ (sU rfl ?_ (sU rfl ?_ (sU rfl ?_ (sU rfl ?_ (sU rfl ?_ (sU rfl ?_ (sU rfl ?_ (sU rfl ?_ (sU rfl ?_ (sU rfl ?_ (sU rfl ?_ (sU rfl ?_ (sU rfl ?_ (sU rfl ?_ (sU rfl ?_ (sU rfl ?_ (sU rfl ?_ (sU rfl ?_ (sU rfl ?_ (sU rfl ?_ (sU rfl ?_ (sU rfl ?_ (sU rfl ?_ (sU rfl ?_ (sU rfl ?_ (sU rfl ?_ (sU rfl ?_ (sU rfl ?_ (sU rfl ?_ (sU rfl ?_ (sU rfl ?_ (sU rfl ?_ (sU rfl ?_ (sU rfl ?_ (sU rfl ?_ (sU rfl ?_ (sU rfl ?_ (sU rfl ?_ (sU rfl ?_ (sU rfl ?_ (sU rfl ?_ (sU rfl ?_ (sU rfl ?_ (sU rfl ?_ (sU rfl ?_ (sU rfl ?_ (sU rfl ?_ (sU rfl ?_ (sU rfl ?_ (sU rfl ?_ (sU rfl ?_ (sU rfl ?_ (sU rfl ?_ (sU rfl ?_ (sU rfl ?_ (sU rfl ?_ (sU rfl ?_ (sU rfl ?_ (sU rfl ?_ (sU rfl ?_ (sU rfl ?_ (stepsU_nil))))))))))))))))))))))))))))))))))))))))))))))))))))))))))))))
        ·exact ZO (gn rfl) rfl (so 3 rfl rfl) rfl rfl
        ·exact ZO (gn rfl) rfl (so 5 rfl rfl) rfl rfl
        ·exact ZdM (gn rfl) rfl (si 0 110 rfl rfl) (si 1 111 rfl rfl) rfl hi rfl rfl
        ·exact Zc5 (gn rfl) rfl (si 2 112 rfl rfl) hx rfl rfl
        ·exact ZO (gn rfl) rfl (so 3 rfl rfl) rfl rfl
        ·exact ZO (gn rfl) rfl (so 6 rfl rfl) rfl rfl
        ·exact ZdM (gn rfl) rfl (si 4 114 rfl rfl) (si 5 115 rfl rfl) rfl hk rfl rfl
        ·exact Zc5 (gn rfl) rfl (si 6 116 rfl rfl) hy rfl rfl
        ·exact ZmP (gn rfl) rfl (si 3 113 rfl rfl) (si 7 117 rfl rfl) rfl rfl
        ·exact ZaZ (gn rfl) rfl (si 8 118 rfl rfl) rfl rfl
        ·exact ZO (gn rfl) rfl (so 3 rfl rfl) rfl rfl
        ·exact ZO (gn rfl) rfl (so 6 rfl rfl) rfl rfl
        ·exact ZdM (gn rfl) rfl (si 10 120 rfl rfl) (si 11 121 rfl rfl) rfl hk rfl rfl
        ·exact Zc5 (gn rfl) rfl (si 12 122 rfl rfl) hy rfl rfl
        ·exact ZeW (gn rfl) rfl (si 13 123 rfl rfl) rfl rfl
        ·exact ZaZ (gn rfl) rfl (si 14 124 rfl rfl) rfl rfl
        ·exact ZmQ (LH _ _ _ (fN2 mx my) (fN1 my)) Tryz.func8 (by kernel_rfl) (gn rfl) rfl (sc _) (sx (si 9 119 rfl rfl)) (sx (si 15 125 rfl rfl)) rfl rfl
        ·exact Zcj (gn rfl) rfl (si 16 126 rfl rfl) rfl rfl
        ·exact ZO (gn rfl) rfl (si 17 127 rfl rfl) rfl rfl
        ·exact ZO (gy 18 128 rfl rfl rfl rfl) rfl (so 3 rfl rfl) rfl rfl
        ·exact ZO (gy 18 128 rfl rfl rfl rfl) rfl (so 5 rfl rfl) rfl rfl
        ·exact ZdM (gy 18 128 rfl rfl rfl rfl) rfl (si 19 129 rfl rfl) (si 20 130 rfl rfl) rfl hi rfl rfl
        ·exact Zc5 (gy 18 128 rfl rfl rfl rfl) rfl (si 21 131 rfl rfl) hx rfl rfl
        ·exact ZO (gy 18 128 rfl rfl rfl rfl) rfl (so 3 rfl rfl) rfl rfl
        ·exact ZO (gy 18 128 rfl rfl rfl rfl) rfl (so 6 rfl rfl) rfl rfl
        ·exact ZdM (gy 18 128 rfl rfl rfl rfl) rfl (si 23 133 rfl rfl) (si 24 134 rfl rfl) rfl hk rfl rfl
        ·exact Zc5 (gy 18 128 rfl rfl rfl rfl) rfl (si 25 135 rfl rfl) hy rfl rfl
        ·exact ZmP (gy 18 128 rfl rfl rfl rfl) rfl (si 22 132 rfl rfl) (si 26 136 rfl rfl) rfl rfl
        ·exact ZaZ (gy 18 128 rfl rfl rfl rfl) rfl (si 27 137 rfl rfl) rfl rfl
        ·exact ZmQ (LM _ _ _ (fN2 mx my) fN0) Tryz.func10 (by kernel_rfl) (gy 18 128 rfl rfl rfl rfl) rfl (sc _) (sx (si 28 138 rfl rfl)) s0 rfl rfl
        ·exact Zcj (gy 18 128 rfl rfl rfl rfl) rfl (si 29 139 rfl rfl) rfl rfl
        ·exact Zca (gn rfl) rfl (si 18 128 rfl rfl) (si 30 140 rfl rfl) rfl rfl
        ·exact ZO (gn rfl) rfl (si 31 141 rfl rfl) rfl rfl
        ·exact ZO (gy 32 142 rfl rfl rfl rfl) rfl (so 3 rfl rfl) rfl rfl
        ·exact ZO (gy 32 142 rfl rfl rfl rfl) rfl (so 6 rfl rfl) rfl rfl
        ·exact ZdM (gy 32 142 rfl rfl rfl rfl) rfl (si 33 143 rfl rfl) (si 34 144 rfl rfl) rfl hk rfl rfl
        ·exact Zc5 (gy 32 142 rfl rfl rfl rfl) rfl (si 35 145 rfl rfl) hy rfl rfl
        ·exact ZeW (gy 32 142 rfl rfl rfl rfl) rfl (si 36 146 rfl rfl) rfl rfl
        ·exact ZaZ (gy 32 142 rfl rfl rfl rfl) rfl (si 37 147 rfl rfl) rfl rfl
        ·exact ZO (gy 32 142 rfl rfl rfl rfl) rfl (so 3 rfl rfl) rfl rfl
        ·exact ZO (gy 32 142 rfl rfl rfl rfl) rfl (so 5 rfl rfl) rfl rfl
        ·exact ZdM (gy 32 142 rfl rfl rfl rfl) rfl (si 39 149 rfl rfl) (si 40 150 rfl rfl) rfl hi rfl rfl
        ·exact Zc5 (gy 32 142 rfl rfl rfl rfl) rfl (si 41 151 rfl rfl) hx rfl rfl
        ·exact ZO (gy 32 142 rfl rfl rfl rfl) rfl (so 3 rfl rfl) rfl rfl
        ·exact ZO (gy 32 142 rfl rfl rfl rfl) rfl (so 6 rfl rfl) rfl rfl
        ·exact ZdM (gy 32 142 rfl rfl rfl rfl) rfl (si 43 153 rfl rfl) (si 44 154 rfl rfl) rfl hk rfl rfl
        ·exact Zc5 (gy 32 142 rfl rfl rfl rfl) rfl (si 45 155 rfl rfl) hy rfl rfl
        ·exact ZmP (gy 32 142 rfl rfl rfl rfl) rfl (si 42 152 rfl rfl) (si 46 156 rfl rfl) rfl rfl
        ·exact ZaZ (gy 32 142 rfl rfl rfl rfl) rfl (si 47 157 rfl rfl) rfl rfl
        ·exact ZmQ (LM _ _ _ (fN1 my) (fN2 mx my)) Tryz.func10 (by kernel_rfl) (gy 32 142 rfl rfl rfl rfl) rfl (sc _) (sx (si 38 148 rfl rfl)) (sx (si 48 158 rfl rfl)) rfl rfl
        ·exact Zcj (gy 32 142 rfl rfl rfl rfl) rfl (si 49 159 rfl rfl) rfl rfl
        ·exact Zca (gn rfl) rfl (si 32 142 rfl rfl) (si 50 160 rfl rfl) rfl rfl
        ·exact ZO (gn rfl) rfl (si 51 161 rfl rfl) rfl rfl
        ·exact ZO (gy 52 162 rfl rfl rfl rfl) rfl (so 3 rfl rfl) rfl rfl
        ·exact ZO (gy 52 162 rfl rfl rfl rfl) rfl (so 5 rfl rfl) rfl rfl
        ·exact ZdM (gy 52 162 rfl rfl rfl rfl) rfl (si 53 163 rfl rfl) (si 54 164 rfl rfl) rfl hi rfl rfl
        ·exact Zc5 (gy 52 162 rfl rfl rfl rfl) rfl (si 55 165 rfl rfl) hx rfl rfl
        ·exact ZeW (gy 52 162 rfl rfl rfl rfl) rfl (si 56 166 rfl rfl) rfl rfl
        ·exact ZaZ (gy 52 162 rfl rfl rfl rfl) rfl (si 57 167 rfl rfl) rfl rfl
        ·exact ZmQ (LH _ _ _ fN0 (fN1 mx)) Tryz.func8 (by kernel_rfl) (gy 52 162 rfl rfl rfl rfl) rfl (sc _) s0 (sx (si 58 168 rfl rfl)) rfl rfl
        ·exact Zcj (gy 52 162 rfl rfl rfl rfl) rfl (si 59 169 rfl rfl) rfl rfl
        ·exact Zca (gn rfl) rfl (si 52 162 rfl rfl) (si 60 170 rfl rfl) rfl rfl
       intro u w2 hr hf;have e171:u 171=_:=hf 61 171 _ (by decide) rfl;rw[ZcH _ _ _ _ 110 rfl (Nat.le_of_ble_eq_true rfl)];simp only[List.take_succ_cons,List.take_zero,List.drop_succ_cons,List.drop_zero,List.map_cons,List.map_nil,List.cons_append,List.nil_append,List.length_cons,List.length_nil,Nat.reduceAdd,Nat.zero_add,e171];have hB2:Below W1.heap.size W1 w2:=Zb hB.drew hr;clear hf e171 hr hx hy LH LM hB;go_wp2;go_roundw
       case rel=>exact⟨k+1,by omega,by go_num,hB2⟩
       case measure=>simp[intOf];omega
    ·have hk':k=23:=by omega
     subst hk';go_wp2;go_roundw
     case rel=>exact⟨i+1,by omega,by go_num,hB⟩
     case measure=>simp[intOf];omega
  ·have hi':i=23:=by omega
   subst hi';go_wp2_with fail;refine(ZkR _).mono ?_;rintro e w2 ⟨⟨gN,rfl,hn⟩,hb2⟩;have hB2:=Zb hB hb2;have HI2:=Za (HI.out.keep hB2);have HN:=Za hn;have hb3:=Zb hb1 hB2;clear hB hn hb2 hB2 HI HO hb1
   go_upto_region 18 with fail
   rename_i K1 hK1 K2 hK2;have HK:=Za hK1;clear hK1;go_wp2_with fail;go_loopw[9] (fun v W=>∃j:Nat,j≤29∧v= .int .i64 j∧Below w2.heap.size w2 W) (fun v _=>29-(intOf v).toNat)
   case atStart=>exact⟨0,Nat.zero_le _,rfl,Below.refl _ _⟩
   case round=>
    obtain⟨j,hj0,rfl,hB⟩:=hrel;by_cases hj:j<29
    ·have hJ:(j:Int)<29:=by omega
     obtain⟨s,hs0⟩:∃s,namN[j]? =some s:=⟨_,List.getElem?_eq_getElem hj⟩;have Hs0:=Za hs0;clear hs0;go_wp2_with fail;go_loopw[10] (fun v W=>∃i:Nat,i≤23∧v= .int .i64 i∧Below w2.heap.size w2 W) (fun v _=>23-(intOf v).toNat)
     case atStart=>exact⟨0,Nat.zero_le _,rfl,hB⟩
     case round=>
      clear hB;obtain⟨i,hi0,rfl,hB⟩:=hrel;by_cases hi:i<23
      ·have hI:(i:Int)<23:=by omega
       obtain⟨x,hx0⟩:∃x,itsN[i]? =some x:=⟨_,List.getElem?_eq_getElem hi⟩;obtain⟨q,hq,hqe⟩:∃q:Nat,q<23∧q=(i+3) % 23:=⟨_,Nat.mod_lt _ (by decide),rfl⟩;obtain⟨y,hy0⟩:∃y,itsN[q]? =some y:=⟨_,List.getElem?_eq_getElem hq⟩;have mx:=List.mem_of_getElem? hx0;have my:=List.mem_of_getElem? hy0;have Hx0:=Za hx0;have Hy0:=Za hy0;obtain⟨c0,c1,c2,c3⟩:=ZgH (HI2.out.keep hB) hx0;have hix:=Zr gI 0 23 23 i hi;have hiq:=Zr gI 0 23 23 q hq;obtain⟨d0,d1,d2,d3⟩:=ZgH (HI2.out.keep (hB.alloc hB.size (.cells #[.int .u8 x.kind,.int .i64 x.num,.string x.text,.int .i64 x.node] 24))) hy0;simp only[Nat.zero_add]at c0 c1 c2 c3 d0 d1 d2 d3 hix hiq;have hrem:((i:Int)+3) % 23=(q:Int):=by omega
       have hrem2:((i:Int)+3).tmod 23=(q:Int):=by rw[Int.tmod_eq_emod_of_nonneg (by omega)];exact hrem
       clear hqe;clear hx0 hy0;go_wp2_with fail;refine(Zz _ _ _ _).mono ?_;rintro e wx ⟨rfl,rfl⟩;go_wp2_with fail;refine(Zz _ _ _ _).mono ?_;rintro e wx ⟨rfl,rfl⟩;go_wp2_with fail;have wq:(wr.alloc (.cells #[.int .u8 x.kind,.int .i64 x.num,.string x.text,.int .i64 x.node] 24)).heap.size=wr.heap.size+1:=by simp
       have ha:=((RdI.new wr 24 [x]).alloc (.cells #[.int .u8 y.kind,.int .i64 y.num,.string y.text,.int .i64 y.node] 24)).keep (Below.refl _ _).drew;have hb:=(RdI.new (wr.alloc (.cells #[.int .u8 x.kind,.int .i64 x.num,.string x.text,.int .i64 x.node] 24)) 24 [y]).keep (Below.refl _ _).drew;rw[wq]at hb;have hB5:Below w2.heap.size w2 ((wr.alloc (.cells #[.int .u8 x.kind,.int .i64 x.num,.string x.text,.int .i64 x.node] 24)).alloc (.cells #[.int .u8 y.kind,.int .i64 y.num,.string y.text,.int .i64 y.node] 24)):=(hB.alloc hB.size _).alloc (hB.alloc hB.size _).size _;change RdI (World.drew ((wr.alloc (.cells #[.int .u8 x.kind,.int .i64 x.num,.string x.text,.int .i64 x.node] 24)).alloc (.cells #[.int .u8 y.kind,.int .i64 y.num,.string y.text,.int .i64 y.node] 24))) _ _ at ha;change RdI (World.drew ((wr.alloc (.cells #[.int .u8 x.kind,.int .i64 x.num,.string x.text,.int .i64 x.node] 24)).alloc (.cells #[.int .u8 y.kind,.int .i64 y.num,.string y.text,.int .i64 y.node] 24))) _ _ at hb;generalize ((wr.alloc (.cells #[.int .u8 x.kind,.int .i64 x.num,.string x.text,.int .i64 x.node] 24)).alloc (.cells #[.int .u8 y.kind,.int .i64 y.num,.string y.text,.int .i64 y.node] 24))=W0 at*;clear wq c0 c1 c2 c3 d0 d1 d2 d3 hix hiq hrem hB;have hx:=ZgH (HI2.out.keep hB5.drew) Hx0.out;have hz:ItAt W0.drew gI (0+10*4) ⟨3,0,⟨#[32,194,160,195,169,32,120,9,121,32]⟩,0⟩:=ZgH (HI2.out.keep hB5.drew) rfl;have hu:ItAt W0.drew gI (0+11*4) ⟨1,0,⟨#[50]⟩,4⟩:=ZgH (HI2.out.keep hB5.drew) rfl;have mz:(⟨3,0,⟨#[32,194,160,195,169,32,120,9,121,32]⟩,0⟩:It)∈itsN:=List.mem_of_getElem? (i:=10) rfl;have mu:(⟨1,0,⟨#[50]⟩,4⟩:It)∈itsN:=List.mem_of_getElem? (i:=11) rfl;generalize (⟨3,0,⟨#[32,194,160,195,169,32,120,9,121,32]⟩,0⟩:It)=z at hz mz;generalize (⟨1,0,⟨#[50]⟩,4⟩:It)=v at hu mu;have hs:=Zph (HN.out.keep hB5.drew) Hs0.out;have LC:=LCw.out W0.drew (Zb hb3 hB5).drew;refine Zb9 [(201,kV (.slice (some ⟨gN,0,none⟩) 29 29)),(202,kV (.int .i64 j)),(203,kV (.pointer (some ⟨gN,0+j,none⟩))),(204,kV (.string s)),(205,kV (.bool true)),(206,kV (.bool false)),(207,kV (.bool false)),(208,kV (.slice (some ⟨gN,0,none⟩) 29 29)),(209,kV (.int .i64 j)),(210,kV (.pointer (some ⟨gN,0+j,none⟩))),(211,kV (.string s)),(212,kX [x]),(213,kS [[x]]),(214,kV (.bool true)),(215,kV (.bool false)),(216,kV (.bool false)),(217,kV (.bool false)),(218,kV (.slice (some ⟨gN,0,none⟩) 29 29)),(219,kV (.int .i64 j)),(220,kV (.pointer (some ⟨gN,0+j,none⟩))),(221,kV (.string s)),(222,kX [x]),(223,kX [y]),(224,kS [[x],[y]]),(225,kV (.bool true)),(226,kV (.bool false)),(227,kV (.bool false)),(228,kV (.bool false)),(229,kV (.slice (some ⟨gN,0,none⟩) 29 29)),(230,kV (.int .i64 j)),(231,kV (.pointer (some ⟨gN,0+j,none⟩))),(232,kV (.string s)),(233,kX [x]),(234,kS [[],[x]]),(235,kV (.bool true)),(236,kV (.bool false)),(237,kV (.bool false)),(238,kV (.bool false)),(239,kV (.slice (some ⟨gN,0,none⟩) 29 29)),(240,kV (.int .i64 j)),(241,kV (.pointer (some ⟨gN,0+j,none⟩))),(242,kV (.string s)),(243,kX [x]),(244,kX [y]),(245,kV (itV ⟨2,2,⟨#[]⟩,0⟩)),(246,kX [⟨2,2,⟨#[]⟩,0⟩]),(247,kX [⟨2,2,⟨#[]⟩,0⟩]),(248,kS [[x],[y],[⟨2,2,⟨#[]⟩,0⟩]]),(249,kV (.bool true)),(250,kV (.bool false)),(251,kV (.bool false)),(252,kV (.bool false)),(253,kV (.slice (some ⟨gN,0,none⟩) 29 29)),(254,kV (.int .i64 j)),(255,kV (.pointer (some ⟨gN,0+j,none⟩))),(256,kV (.string s)),(257,kV (.slice (some ⟨gI,0,none⟩) 23 23)),(258,kV (.pointer (some ⟨gI,0+10*4,none⟩))),(259,kV (itV z)),(260,kV (.slice (some ⟨gI,0,none⟩) 23 23)),(261,kV (.int .i64 i)),(262,kV (.pointer (some ⟨gI,0+i*4,none⟩))),(263,kV (itV x)),(264,kX [z,x]),(265,kX [z,x]),(266,kX [y]),(267,kR ([z,x]++[y])),(268,kS [([z,x]++[y])]),(269,kV (.bool true)),(270,kV (.bool false)),(271,kV (.bool false)),(272,kV (.bool false)),(273,kV (.slice (some ⟨gN,0,none⟩) 29 29)),(274,kV (.int .i64 j)),(275,kV (.pointer (some ⟨gN,0+j,none⟩))),(276,kV (.string s)),(277,kV (.slice (some ⟨gI,0,none⟩) 23 23)),(278,kV (.int .i64 i)),(279,kV (.pointer (some ⟨gI,0+i*4,none⟩))),(280,kV (itV x)),(281,kV (.slice (some ⟨gI,0,none⟩) 23 23)),(282,kV (.pointer (some ⟨gI,0+11*4,none⟩))),(283,kV (itV v)),(284,kX [x,v]),(285,kX [x,v]),(286,kX [y]),(287,kX [x]),(288,kS [[x,v],[y],[],[x]]),(289,kV (.bool true)),(290,kV (.bool false)),(291,kV (.bool false))] (by kernel_rfl) (by kernel_rfl) (by kernel_rfl) (by kernel_rfl) ?_ ?_
       ·refine sU rfl ?_ (sU rfl ?_ (sU rfl ?_ (sU rfl ?_ (sU rfl ?_ (sU rfl ?_ (sU rfl ?_ (sU rfl ?_ (sU rfl ?_ (sU rfl ?_ (sU rfl ?_ (sU rfl ?_ (sU rfl ?_ (sU rfl ?_ (sU rfl ?_ (sU rfl ?_ (sU rfl ?_ (sU rfl ?_ (sU rfl ?_ (sU rfl ?_ (sU rfl ?_ (sU rfl ?_ (sU rfl ?_ (sU rfl ?_ (sU rfl ?_ (sU rfl ?_ (sU rfl ?_ (sU rfl ?_ (sU rfl ?_ (sU rfl ?_ (sU rfl ?_ (sU rfl ?_ (sU rfl ?_ (sU rfl ?_ (sU rfl ?_ (sU rfl ?_ (sU rfl ?_ (sU rfl ?_ (sU rfl ?_ (sU rfl ?_ (sU rfl ?_ (sU rfl ?_ (sU rfl ?_ (sU rfl ?_ (sU rfl ?_ (sU rfl ?_ (sU rfl ?_ (sU rfl ?_ (sU rfl ?_ (sU rfl ?_ (sU rfl ?_ (sU rfl ?_ (sU rfl ?_ (sU rfl ?_ (sU rfl ?_ (sU rfl ?_ (sU rfl ?_ (sU rfl ?_ (sU rfl ?_ (sU rfl ?_ (sU rfl ?_ (sU rfl ?_ (sU rfl ?_ (sU rfl ?_ (sU rfl ?_ (sU rfl ?_ (sU rfl ?_ (sU rfl ?_ (sU rfl ?_ (sU rfl ?_ (sU rfl ?_ (sU rfl ?_ (sU rfl ?_ (sU rfl ?_ (sU rfl ?_ (sU rfl ?_ (sU rfl ?_ (sU rfl ?_ (sU rfl ?_ (sU rfl ?_ (sU rfl ?_ (sU rfl ?_ (sU rfl ?_ (sU rfl ?_ (sU rfl ?_ (sU rfl ?_ (sU rfl ?_ (sU rfl ?_ (sU rfl ?_ (sU rfl ?_ (sU rfl ?_ (stepsU_nil)))))))))))))))))))))))))))))))))))))))))))))))))))))))))))))))))))))))))))))))))))))))))))
        ·exact ZO (gn rfl) rfl (so 8 rfl rfl) rfl rfl
        ·exact ZO (gn rfl) rfl (so 9 rfl rfl) rfl rfl
        ·exact Zep (gn rfl) rfl (si 0 201 rfl rfl) (si 1 202 rfl rfl) rfl hj rfl rfl
        ·exact Zeq (gn rfl) rfl (si 2 203 rfl rfl) hs rfl rfl
        ·exact Zj5 (LC _ _ fs0) Tryz.func12 (by kernel_rfl) (gn rfl) rfl (si 3 204 rfl rfl) s1 rfl rfl
        ·exact Zcj (gn rfl) rfl (si 4 205 rfl rfl) rfl rfl
        ·exact ZO (gn rfl) rfl (si 5 206 rfl rfl) rfl rfl
        ·exact ZO (gy 6 207 rfl rfl rfl rfl) rfl (so 8 rfl rfl) rfl rfl
        ·exact ZO (gy 6 207 rfl rfl rfl rfl) rfl (so 9 rfl rfl) rfl rfl
        ·exact Zep (gy 6 207 rfl rfl rfl rfl) rfl (si 7 208 rfl rfl) (si 8 209 rfl rfl) rfl hj rfl rfl
        ·exact Zeq (gy 6 207 rfl rfl rfl rfl) rfl (si 9 210 rfl rfl) hs rfl rfl
        ·exact ZO (gy 6 207 rfl rfl rfl rfl) rfl (sr 11 rfl rfl rfl ha) rfl rfl
        ·exact r_s1 (gy 6 207 rfl rfl rfl rfl) rfl (sx (si 11 212 rfl rfl)) rfl rfl
        ·exact Zj5 (LC _ _ (fs1 (fN1 mx))) Tryz.func12 (by kernel_rfl) (gy 6 207 rfl rfl rfl rfl) rfl (si 10 211 rfl rfl) (si 12 213 rfl rfl) rfl rfl
        ·exact Zcj (gy 6 207 rfl rfl rfl rfl) rfl (si 13 214 rfl rfl) rfl rfl
        ·exact Zca (gn rfl) rfl (si 6 207 rfl rfl) (si 14 215 rfl rfl) rfl rfl
        ·exact ZO (gn rfl) rfl (si 15 216 rfl rfl) rfl rfl
        ·exact ZO (gy 16 217 rfl rfl rfl rfl) rfl (so 8 rfl rfl) rfl rfl
        ·exact ZO (gy 16 217 rfl rfl rfl rfl) rfl (so 9 rfl rfl) rfl rfl
        ·exact Zep (gy 16 217 rfl rfl rfl rfl) rfl (si 17 218 rfl rfl) (si 18 219 rfl rfl) rfl hj rfl rfl
        ·exact Zeq (gy 16 217 rfl rfl rfl rfl) rfl (si 19 220 rfl rfl) hs rfl rfl
        ·exact ZO (gy 16 217 rfl rfl rfl rfl) rfl (sr 11 rfl rfl rfl ha) rfl rfl
        ·exact ZO (gy 16 217 rfl rfl rfl rfl) rfl (sr 12 rfl rfl rfl hb) rfl rfl
        ·exact Zof (gy 16 217 rfl rfl rfl rfl) rfl (sx (si 21 222 rfl rfl)) (sx (si 22 223 rfl rfl)) rfl rfl
        ·exact Zj5 (LC _ _ (fs2 (fN1 mx) (fN1 my))) Tryz.func12 (by kernel_rfl) (gy 16 217 rfl rfl rfl rfl) rfl (si 20 221 rfl rfl) (si 23 224 rfl rfl) rfl rfl
        ·exact Zcj (gy 16 217 rfl rfl rfl rfl) rfl (si 24 225 rfl rfl) rfl rfl
        ·exact Zca (gn rfl) rfl (si 16 217 rfl rfl) (si 25 226 rfl rfl) rfl rfl
        ·exact ZO (gn rfl) rfl (si 26 227 rfl rfl) rfl rfl
        ·exact ZO (gy 27 228 rfl rfl rfl rfl) rfl (so 8 rfl rfl) rfl rfl
        ·exact ZO (gy 27 228 rfl rfl rfl rfl) rfl (so 9 rfl rfl) rfl rfl
        ·exact Zep (gy 27 228 rfl rfl rfl rfl) rfl (si 28 229 rfl rfl) (si 29 230 rfl rfl) rfl hj rfl rfl
        ·exact Zeq (gy 27 228 rfl rfl rfl rfl) rfl (si 30 231 rfl rfl) hs rfl rfl
        ·exact ZO (gy 27 228 rfl rfl rfl rfl) rfl (sr 11 rfl rfl rfl ha) rfl rfl
        ·exact Zof (gy 27 228 rfl rfl rfl rfl) rfl s0 (sx (si 32 233 rfl rfl)) rfl rfl
        ·exact Zj5 (LC _ _ (fs2 fN0 (fN1 mx))) Tryz.func12 (by kernel_rfl) (gy 27 228 rfl rfl rfl rfl) rfl (si 31 232 rfl rfl) (si 33 234 rfl rfl) rfl rfl
        ·exact Zcj (gy 27 228 rfl rfl rfl rfl) rfl (si 34 235 rfl rfl) rfl rfl
        ·exact Zca (gn rfl) rfl (si 27 228 rfl rfl) (si 35 236 rfl rfl) rfl rfl
        ·exact ZO (gn rfl) rfl (si 36 237 rfl rfl) rfl rfl
        ·exact ZO (gy 37 238 rfl rfl rfl rfl) rfl (so 8 rfl rfl) rfl rfl
        ·exact ZO (gy 37 238 rfl rfl rfl rfl) rfl (so 9 rfl rfl) rfl rfl
        ·exact Zep (gy 37 238 rfl rfl rfl rfl) rfl (si 38 239 rfl rfl) (si 39 240 rfl rfl) rfl hj rfl rfl
        ·exact Zeq (gy 37 238 rfl rfl rfl rfl) rfl (si 40 241 rfl rfl) hs rfl rfl
        ·exact ZO (gy 37 238 rfl rfl rfl rfl) rfl (sr 11 rfl rfl rfl ha) rfl rfl
        ·exact ZO (gy 37 238 rfl rfl rfl rfl) rfl (sr 12 rfl rfl rfl hb) rfl rfl
        ·exact Zoe (gy 37 238 rfl rfl rfl rfl) rfl (sc _) rfl rfl
        ·exact ZeW (gy 37 238 rfl rfl rfl rfl) rfl (si 44 245 rfl rfl) rfl rfl
        ·exact ZaZ (gy 37 238 rfl rfl rfl rfl) rfl (si 45 246 rfl rfl) rfl rfl
        ·exact r_s3 (gy 37 238 rfl rfl rfl rfl) rfl (sx (si 42 243 rfl rfl)) (sx (si 43 244 rfl rfl)) (sx (si 46 247 rfl rfl)) rfl rfl
        ·exact Zj5 (LC _ _ (fs3 (fN1 mx) (fN1 my) fN22)) Tryz.func12 (by kernel_rfl) (gy 37 238 rfl rfl rfl rfl) rfl (si 41 242 rfl rfl) (si 47 248 rfl rfl) rfl rfl
        ·exact Zcj (gy 37 238 rfl rfl rfl rfl) rfl (si 48 249 rfl rfl) rfl rfl
        ·exact Zca (gn rfl) rfl (si 37 238 rfl rfl) (si 49 250 rfl rfl) rfl rfl
        ·exact ZO (gn rfl) rfl (si 50 251 rfl rfl) rfl rfl
        ·exact ZO (gy 51 252 rfl rfl rfl rfl) rfl (so 8 rfl rfl) rfl rfl
        ·exact ZO (gy 51 252 rfl rfl rfl rfl) rfl (so 9 rfl rfl) rfl rfl
        ·exact Zep (gy 51 252 rfl rfl rfl rfl) rfl (si 52 253 rfl rfl) (si 53 254 rfl rfl) rfl hj rfl rfl
        ·exact Zeq (gy 51 252 rfl rfl rfl rfl) rfl (si 54 255 rfl rfl) hs rfl rfl
        ·exact ZO (gy 51 252 rfl rfl rfl rfl) rfl (so 3 rfl rfl) rfl rfl
        ·exact ZdM (gy 51 252 rfl rfl rfl rfl) rfl (si 56 257 rfl rfl) (sc _) rfl (by decide) rfl rfl
        ·exact Zc5 (gy 51 252 rfl rfl rfl rfl) rfl (si 57 258 rfl rfl) hz rfl rfl
        ·exact ZO (gy 51 252 rfl rfl rfl rfl) rfl (so 3 rfl rfl) rfl rfl
        ·exact ZO (gy 51 252 rfl rfl rfl rfl) rfl (so 10 rfl rfl) rfl rfl
        ·exact ZdM (gy 51 252 rfl rfl rfl rfl) rfl (si 59 260 rfl rfl) (si 60 261 rfl rfl) rfl hi rfl rfl
        ·exact Zc5 (gy 51 252 rfl rfl rfl rfl) rfl (si 61 262 rfl rfl) hx rfl rfl
        ·exact ZmP (gy 51 252 rfl rfl rfl rfl) rfl (si 58 259 rfl rfl) (si 62 263 rfl rfl) rfl rfl
        ·exact ZaZ (gy 51 252 rfl rfl rfl rfl) rfl (si 63 264 rfl rfl) rfl rfl
        ·exact ZO (gy 51 252 rfl rfl rfl rfl) rfl (sr 12 rfl rfl rfl hb) rfl rfl
        ·exact ZpC (by simp) (by simp) (by simp) (gy 51 252 rfl rfl rfl rfl) rfl (si 64 265 rfl rfl) (sx (si 65 266 rfl rfl)) rfl rfl
        ·exact r_s1 (gy 51 252 rfl rfl rfl rfl) rfl (si 66 267 rfl rfl) rfl rfl
        ·exact Zj5 (LC _ _ (fs1 (fN3 mz mx my))) Tryz.func12 (by kernel_rfl) (gy 51 252 rfl rfl rfl rfl) rfl (si 55 256 rfl rfl) (si 67 268 rfl rfl) rfl rfl
        ·exact Zcj (gy 51 252 rfl rfl rfl rfl) rfl (si 68 269 rfl rfl) rfl rfl
        ·exact Zca (gn rfl) rfl (si 51 252 rfl rfl) (si 69 270 rfl rfl) rfl rfl
        ·exact ZO (gn rfl) rfl (si 70 271 rfl rfl) rfl rfl
        ·exact ZO (gy 71 272 rfl rfl rfl rfl) rfl (so 8 rfl rfl) rfl rfl
        ·exact ZO (gy 71 272 rfl rfl rfl rfl) rfl (so 9 rfl rfl) rfl rfl
        ·exact Zep (gy 71 272 rfl rfl rfl rfl) rfl (si 72 273 rfl rfl) (si 73 274 rfl rfl) rfl hj rfl rfl
        ·exact Zeq (gy 71 272 rfl rfl rfl rfl) rfl (si 74 275 rfl rfl) hs rfl rfl
        ·exact ZO (gy 71 272 rfl rfl rfl rfl) rfl (so 3 rfl rfl) rfl rfl
        ·exact ZO (gy 71 272 rfl rfl rfl rfl) rfl (so 10 rfl rfl) rfl rfl
        ·exact ZdM (gy 71 272 rfl rfl rfl rfl) rfl (si 76 277 rfl rfl) (si 77 278 rfl rfl) rfl hi rfl rfl
        ·exact Zc5 (gy 71 272 rfl rfl rfl rfl) rfl (si 78 279 rfl rfl) hx rfl rfl
        ·exact ZO (gy 71 272 rfl rfl rfl rfl) rfl (so 3 rfl rfl) rfl rfl
        ·exact ZdM (gy 71 272 rfl rfl rfl rfl) rfl (si 80 281 rfl rfl) (sc _) rfl (by decide) rfl rfl
        ·exact Zc5 (gy 71 272 rfl rfl rfl rfl) rfl (si 81 282 rfl rfl) hu rfl rfl
        ·exact ZmP (gy 71 272 rfl rfl rfl rfl) rfl (si 79 280 rfl rfl) (si 82 283 rfl rfl) rfl rfl
        ·exact ZaZ (gy 71 272 rfl rfl rfl rfl) rfl (si 83 284 rfl rfl) rfl rfl
        ·exact ZO (gy 71 272 rfl rfl rfl rfl) rfl (sr 12 rfl rfl rfl hb) rfl rfl
        ·exact ZO (gy 71 272 rfl rfl rfl rfl) rfl (sr 11 rfl rfl rfl ha) rfl rfl
        ·exact r_s4 (gy 71 272 rfl rfl rfl rfl) rfl (sx (si 84 285 rfl rfl)) (sx (si 85 286 rfl rfl)) s0 (sx (si 86 287 rfl rfl)) rfl rfl
        ·exact Zj5 (LC _ _ (fs4 (fN2 mx mu) (fN1 my) fN0 (fN1 mx))) Tryz.func12 (by kernel_rfl) (gy 71 272 rfl rfl rfl rfl) rfl (si 75 276 rfl rfl) (si 87 288 rfl rfl) rfl rfl
        ·exact Zcj (gy 71 272 rfl rfl rfl rfl) rfl (si 88 289 rfl rfl) rfl rfl
        ·exact Zca (gn rfl) rfl (si 71 272 rfl rfl) (si 89 290 rfl rfl) rfl rfl
       intro u w9 hr hf;have e291:u 291=_:=hf 90 291 _ (by decide) rfl;rw[ZcH _ _ _ _ 201 rfl (Nat.le_of_ble_eq_true rfl)];simp only[List.take_succ_cons,List.take_zero,List.drop_succ_cons,List.drop_zero,List.map_cons,List.map_nil,List.cons_append,List.nil_append,List.length_cons,List.length_nil,Nat.reduceAdd,Nat.zero_add,e291];have hB6:Below w2.heap.size w2 w9:=Zb hB5.drew hr;clear hf e291 hr hx hz hu hs LC hB5 ha hb;go_wp2;go_roundw
       case rel=>exact⟨i+1,by omega,by go_num,hB6⟩
       case measure=>simp[intOf];omega
      ·have hi':i=23:=by omega
       subst hi';go_wp2;go_roundw
       case rel=>exact⟨j+1,by omega,by go_num,hB⟩
       case measure=>simp[intOf];omega
    ·have hj':j=29:=by omega
     subst hj';have hW:=Zb hb3 hB;clear hB;go_wp2_with fail;exact HK.out _ _ (Zno w lx ly lz HH.out _ hW)
end Go.Proofs.YtnnfhojhbbcbmaaGreatDoor
