/- Words for memory: a block that is known whole; a string's iterator; small facts on worlds. append on bytes: laws in the words of Mem. Rows of cells of any element type: what reads as a row, what the call itself owns, append. Items: rows of four cells (kind, number, text, node). -/
import Derived.Test.YtnnfhojhbbcbmaaGreatDoorRows
import Derived.WalkKit
import Derived.WalkSpells
import Derived.WalkLawsBesides
import Derived.Deep.QuietTactic
import Derived.BigQuiet
import Derived.Deep.Draws
import Derived.Laws.OwnMore
import Derived.Laws.Rows
import Derived.Lib.OthersKept
import Derived.Lib.BufferWrite
import Derived.Maps.AppendAt
namespace Go.Proofs.YtnnfhojhbbcbmaaGreatDoor
open Go.RowKit
theorem ZdJ {k:IntKind}{a b:Int}(h:a=b):Ending.returned (.int k a)= .returned (.int k b):=by rw[h]
theorem Za {p:Prop}(h:p):Hid p:=h
def Blk(w:World)(g:Nat)(t:TypeId)(cs:Array Value):Prop:=w.heap[g]? =some (.cells cs t (0,0))
section
variable {w w' : World} {g : Nat} {t : TypeId} {cs : Array Value}
theorem ZD {o:Obj}(h:w.heap[g]? =some o):g<w.heap.size:=by
 rcases Nat.lt_or_ge g w.heap.size with hlt|hge
 ·exact hlt
 ·rw[Array.getElem?_eq_none hge]at h;cases h
theorem Blk.lt(h:Blk w g t cs):g<w.heap.size:=ZD h
theorem Blk.cell(h:Blk w g t cs)(i:Nat):w.cell? ⟨g,i,none⟩=cs[i]?:=cell_of_row w g i cs t (0,0) h
theorem Blk.frozen(h:Blk w g t cs)(i:Nat):w.frozen? ⟨g,i,none⟩=false:=by unfold Blk at h;simp[World.frozen?,h]
theorem Blk.new(w:World)(t:TypeId)(cs:Array Value):Blk (w.alloc (.cells cs t)) w.heap.size t cs:=heap_alloc_new w _
theorem Blk.drew(h:Blk w g t cs):Blk w.drew g t cs:=h
theorem Blk.drewN(h:Blk w g t cs)(n:Nat):Blk (w.drewN n) g t cs:=h
theorem Blk.alloc(h:Blk w g t cs)(o:Obj):Blk (w.alloc o) g t cs:=(Below.heap_alloc w o g h.lt).trans h
theorem Blk.set_(h:Blk w g t cs)(i:Nat)(u:Value):Blk (w.setCell ⟨g,i,none⟩ u) g t (cs.setIfInBounds i u):=by unfold Blk at h⊢;simp[World.setCell,Array.getElem?_modify,h]
theorem Blk.far(h:Blk w g t cs){p:Addr}(hp:g≠p.block)(u:Value):Blk (w.setCell p u) g t cs:=(Below.heap_setCell w p u g hp).trans h
theorem Blk.below {B:Nat}(h:Blk w g t cs)(hb:Below B w w')(hg:g<B):Blk w' g t cs:=(hb.block g hg).trans h
theorem Blk.keep(h:Blk w g t cs)(hb:Below w.heap.size w w'):Blk w' g t cs:=(hb.block g h.lt).trans h
theorem Blk.iterAt(h:Blk w g t cs){k:Nat}(hk:g≠k)(s:ByteArray)(pos:Nat):Blk (w.iterAt k s pos) g t cs:=(Lib.iterAt_other w k g s pos hk).trans h
theorem Zb5(w:World)(o:Obj)(k:Nat)(h:k=w.heap.size):(w.alloc o).heap[k]? =some o:=by subst h;exact heap_alloc_new w o
theorem ZcP {o:Obj}(h:w.heap[g]? =some o)(hb:Below w.heap.size w w'):w'.heap[g]? =some o:=(hb.block g (ZD h)).trans h
theorem Zoa {o:Obj}(h:w.heap[g]? =some o)(o':Obj):(w.alloc o').heap[g]? =some o:=(Below.heap_alloc w o' g (ZD h)).trans h
theorem ZlM {o:Obj}(h:w.heap[g]? =some o){p:Addr}(hp:g≠p.block)(u:Value):(w.setCell p u).heap[g]? =some o:=(Below.heap_setCell w p u g hp).trans h
end
theorem Zc {w w':World}{p:Addr}{v:Value}(hb:Below w.heap.size w w')(h:w.cell? p=some v):w'.cell? p=some v:=by
 rw[hb.cell (by
  rcases Nat.lt_or_ge p.block w.heap.size with hlt|hge
  ·exact hlt
  ·simp[World.cell?,Array.getElem?_eq_none hge]at h)]
 exact h
theorem Zah {B:Nat}{a w w':World}(h:Below B a w)(hB:B≤w.heap.size)(k:Below w.heap.size w w'):Below B a w':=h.trans (k.mono hB)
theorem Zb {a w w':World}(h:Below a.heap.size a w)(k:Below w.heap.size w w'):Below a.heap.size a w':=Zah h h.size k
theorem Zu {a w w':World}{o:Obj}(h:Below a.heap.size a w)(k:Below (w.alloc o).heap.size (w.alloc o) w'):Below a.heap.size a w':=Zb (h.alloc h.size _) k
theorem Z3 {a w w':World}{o o':Obj}(h:Below a.heap.size a w)(k:Below ((w.alloc o).alloc o').heap.size ((w.alloc o).alloc o') w'):Below a.heap.size a w':=Zu (h.alloc h.size _) k
def ZeS(w:World):={w':World // Below w.heap.size w w'}
instance later_some (w:World):Nonempty (ZeS w):=⟨⟨w,Below.refl _ _⟩⟩
theorem ZH {P:Program}{id:Nat}{Q:Exit→Act→World→Prop}{a:Act}{w:World}{l:List Oper}(hm:P.follows .mixedOrders=true)(hB:Region.lexB .any l.toArray=true)
  (h:wpQuiet P l.toArray (fun w'=>∃x:ZeS w,w'=x.1) (fun a'=>∀w',(∃x:ZeS w,w'=x.1)→Q .normal a' w') l a):(Code.region id l.toArray true).wp P Q a w:=
 wp_region_quiet (C:=fun w'=>∃x:ZeS w,w'=x.1) hm hB ⟨⟨w.drew,(Below.refl _ _).drew⟩,rfl⟩ (by simpa using h)
theorem Zb6 {P:Program}{f:FuncId}{args:Array Value}{w:World}{x:ZeS w}{v:Value}
  (h:Calls P f args x.1 fun e w'=>e= .returned v∧Below x.1.heap.size x.1 w'):Calls P f args x.1 fun e w''=>e= .returned v∧∃y:ZeS w,w''=y.1:=
 h.mono fun _ w'' ⟨he,hb⟩=>⟨he,⟨w'',Zb x.2 hb⟩,rfl⟩
theorem Zo {w:World}{p:Addr}{v:Value}(h:w.cell? p=some v)(x:ZeS w):x.1.cell? p=some v:=Zc x.2 h
theorem Ziu:(Tryz.prog.info? 5).map (fun i=>(i.zero,i.size,i.bytes))=some (some (.int .u8 0),1,1):=by kernel_rfl
def Bk(w:World)(g:Nat)(bs:List UInt8):Prop:=Blk w g 5 (Lib.byteCells bs).toArray
section
variable {w w' : World} {g : Nat} {bs : List UInt8}
theorem Bk.blk(h:Bk w g bs):Blk w g 5 (Lib.byteCells bs).toArray:=h
theorem Bk.cell(h:Bk w g bs)(i:Nat)(hi:i<bs.length):w.cell? ⟨g,i,none⟩=some (.int .u8 ((bs[i]'hi).toNat:Int)):=by rw[h.blk.cell i];simp[Lib.byteCells,hi]
theorem Bk.set_(h:Bk w g bs)(i:Nat)(u:UInt8):Bk (w.setCell ⟨g,i,none⟩ (.int .u8 (u.toNat:Int))) g (bs.set i u):=by have:=h.blk.set_ i (.int .u8 (u.toNat:Int));unfold Bk;rw[show(Lib.byteCells (bs.set i u)).toArray=(Lib.byteCells bs).toArray.setIfInBounds i (.int .u8 (u.toNat:Int))from by simp[Lib.byteCells,List.map_set]];exact this
theorem Bk.str(h:Bk w g bs)(n cap:Nat)(hn:n=bs.length):(convert 61 9 (.slice (some ⟨g,0,none⟩) n cap)).run Tryz.prog w= .ok (.string ⟨bs.toArray⟩) w:=by subst hn;exact run_convert_bytes_back w 61 9 5 ⟨g,0,none⟩ cap bs Tryz.underlying61 Tryz.underlying5 Tryz.underlying9 fun j hj=>by rw[show(Addr.mk g 0 none).add j=⟨g,j,none⟩from by unfold Addr.add;split<;>simp_all];exact h.cell j hj
end
section
variable {w w' : World} {g : Nat}
theorem Bk.row(bs bs':List UInt8)(h:Bk w g bs):Bk (w.setRow g (Lib.byteCells bs').toArray) g bs':=by unfold Bk Blk at h⊢;simp[World.setRow,Array.getElem?_modify,h]
theorem Zdp(w:World)(g:Nat)(cs:Array Value):w.grownBy (w.setRow g cs) (some g):=
 ⟨rfl,rfl,rfl,by simp[World.setRow],fun k _ hne=>by
  simp only[World.setRow,Array.getElem?_modify]
  rw[if_neg (fun e=>hne (by rw[e]))]⟩
end
def RdB(w:World)(a:Option Addr)(bs:List UInt8):Prop:=
 bs=[]∨∃b off,a=some ⟨b,off,none⟩∧b<w.heap.size∧∀i (h:i<bs.length),w.cell? ⟨b,off+i,none⟩=some (.int .u8 ((bs[i]'h).toNat:Int))
def Rw(w:World)(g:Nat)(full:List UInt8):Prop:=
 ∃fz:Nat×Nat,w.heap[g]? =some (.cells (Lib.byteCells full).toArray 5 fz)∧∀i,i<full.length→(decide (fz.1≤i)&&decide (i<fz.2))=false
section
variable {w w' : World} {g : Nat} {bs full : List UInt8} {a : Option Addr}
theorem RdB.keep(h:RdB w a bs)(hb:Below w.heap.size w w'):RdB w' a bs:=by
 rcases h with h|⟨b,off,ha,hlt,hc⟩
 ·exact .inl h
 ·exact .inr ⟨b,off,ha,Nat.lt_of_lt_of_le hlt hb.size,fun i hi=>(hb.cell (p:=⟨b,off+i,none⟩) hlt).trans (hc i hi)⟩
theorem RdB.alloc(h:RdB w a bs)(o:Obj):RdB (w.alloc o) a bs:=h.keep ((Below.refl _ _).alloc (Nat.le_refl _) _)
theorem RdB.drew(h:RdB w a bs):RdB w.drew a bs:=h
theorem Rw.lt(h:Rw w g full):g<w.heap.size:=by obtain⟨fz,h,_⟩:=h;exact ZD h
theorem Rw.cell(h:Rw w g full)(i:Nat)(hi:i<full.length):w.cell? ⟨g,i,none⟩=some (.int .u8 ((full[i]'hi).toNat:Int)):=by obtain⟨fz,h,_⟩:=h;simp[World.cell?,h,Lib.byteCells,hi]
theorem Rw.frozen(h:Rw w g full)(i:Nat)(hi:i<full.length):w.frozen? ⟨g,i,none⟩=false:=by obtain⟨fz,h,hf⟩:=h;have:=hf i hi;simpa[World.frozen?,h]using this
theorem Rw.keep(h:Rw w g full)(hb:Below w.heap.size w w'):Rw w' g full:=by obtain⟨fz,h,hf⟩:=h;exact⟨fz,ZcP h hb,hf⟩
theorem Rw.below {B:Nat}(h:Rw w g full)(hb:Below B w w')(hg:g<B):Rw w' g full:=by obtain⟨fz,h,hf⟩:=h;exact⟨fz,(hb.block g hg).trans h,hf⟩
theorem Rw.far(h:Rw w g full){p:Addr}(hp:g≠p.block)(u:Value):Rw (w.setCell p u) g full:=by obtain⟨fz,h,hf⟩:=h;exact⟨fz,ZlM h hp u,hf⟩
theorem Rw.set_(h:Rw w g full)(i:Nat)(u:UInt8):Rw (w.setCell ⟨g,i,none⟩ (.int .u8 (u.toNat:Int))) g (full.set i u):=by obtain⟨fz,h,hf⟩:=h;refine⟨fz,?_,fun j hj=>hf j (by simpa using hj)⟩;rw[show(Lib.byteCells (full.set i u)).toArray=(Lib.byteCells full).toArray.setIfInBounds i (.int .u8 (u.toNat:Int))from by simp[Lib.byteCells,List.map_set]];simp[World.setCell,Array.getElem?_modify,h]
theorem Rw.rd(h:Rw w g full)(n:Nat):RdB w (some ⟨g,0,none⟩) (full.take n):=
 .inr ⟨g,0,rfl,h.lt,fun i hi=>by
  rw[Nat.zero_add,h.cell i (by simp at hi;omega)]
  simp⟩
theorem RdB.str(h:RdB w a bs)(n cap:Nat)(hn:n=bs.length):(convert 61 9 (.slice a n cap)).run Tryz.prog w= .ok (.string ⟨bs.toArray⟩) w:=by
 subst hn;rcases h with rfl|⟨b,off,rfl,hlt,hc⟩
 ·cases a with
  |none=>
   simp[convert,run_underlying Tryz.underlying61,run_underlying Tryz.underlying9,run_underlying Tryz.underlying5,Conv.bytesToString];rfl
  |some x=>exact run_convert_bytes_back w 61 9 5 x cap [] Tryz.underlying61 Tryz.underlying5 Tryz.underlying9 fun j hj=>absurd hj (by simp)
 ·exact run_convert_bytes_back w 61 9 5 ⟨b,off,none⟩ cap bs Tryz.underlying61 Tryz.underlying5 Tryz.underlying9 fun j hj=>by rw[show(Addr.mk b off none).add j=⟨b,off+j,none⟩from by unfold Addr.add;split<;>simp_all];exact hc j hj
end
end Go.Proofs.YtnnfhojhbbcbmaaGreatDoor
namespace Go.Proofs.YtnnfhojhbbcbmaaGreatDoor
open Go.RowKit
def OwB(w:World)(B:Nat)(v:Value)(xs:List UInt8):Prop:=w.ownsRow B 5 1 v xs.length (Lib.byteCells xs)
section
variable {w w' : World} {B g : Nat} {v : Value} {xs ys : List UInt8} {a : Option Addr}
theorem OwB.nil(w:World)(B:Nat):OwB w B (.slice none 0 0) []:=⟨by simp[Lib.byteCells],.inl ⟨rfl,rfl⟩⟩
theorem ZaV(l:List UInt8):(Lib.byteCells l).length=l.length:=by simp[Lib.byteCells]
theorem OwB.form(h:OwB w B v xs)(h0:xs≠ []):∃g cap,v= .slice (some ⟨g,0,none⟩) xs.length cap∧B≤g∧g<w.heap.size∧xs.length≤cap:=by
 rcases h.2 with⟨_,h1⟩|⟨g,cap,cur,hv,hg,hh,hc,_⟩
 ·exact absurd (List.length_eq_zero_iff.1 h1) h0
 ·exact⟨g,cap,hv,hg,ZD hh,hc⟩
theorem OwB.forms(h:OwB w B v xs):∃a cap,v= .slice a xs.length cap:=by
 rcases h.2 with⟨h1,h2⟩|⟨g,cap,cur,hv,_⟩
 ·exact⟨none,0,by rw[h1,h2]⟩
 ·exact⟨_,cap,hv⟩
theorem OwB.rd {cap n:Nat}(h:OwB w B (.slice a n cap) xs):RdB w a xs:=by
 by_cases h0:xs=[]
 ·exact .inl h0
 ·rcases h.2 with⟨_,h1⟩|⟨g,cap',cur,hv,hg,hh,r⟩
  ·exact absurd (List.length_eq_zero_iff.1 h1) h0
  ·injection hv with hv;subst hv;refine .inr ⟨g,0,rfl,ZD hh,fun i hi=>?_⟩
   have hv':n=xs.length:=by
    rcases h.2 with⟨e1,e2⟩|⟨g,cap,cur,e,_⟩
    ·cases e1
    ·injection e
   subst hv';have:=h.cells (g:=g) rfl i (.int .u8 (xs[i].toNat:Int)) (by simp[Lib.byteCells,hi]);rw[show(Addr.mk g 0 none).add i=⟨g,0+i,none⟩from by unfold Addr.add;split<;>simp_all]at this;exact this
theorem OwB.keep(h:OwB w B v xs)(hb:Below w.heap.size w w'):OwB w' B v xs:=by
 obtain⟨h1,h2⟩:=h;refine⟨h1,?_⟩;rcases h2 with h2|⟨g,cap,cur,hv,hg,hh,r⟩
 ·exact .inl h2
 ·exact .inr ⟨g,cap,cur,hv,hg,ZcP hh hb,r⟩
theorem OwB.lt(h:OwB w B v xs):∀k,v.ownBlock=some k→B≤k∧k<w.heap.size:=World.ownsRow.lt h
theorem OwB.cell {n cap:Nat}(h:OwB w B (.slice (some ⟨g,0,none⟩) n cap) xs)(i:Nat)(hi:i<xs.length):w.cell? ⟨g,i,none⟩=some (.int .u8 ((xs[i]'hi).toNat:Int)):=by
 rcases h.rd with h|⟨b,off,e,_,hc⟩
 ·subst h;simp at hi
 ·injection e with e;injection e with e1 e2;subst e1 e2;have:=hc i hi;rwa[Nat.zero_add]at this
theorem OwB.frozen {n cap:Nat}(h:OwB w B (.slice (some ⟨g,0,none⟩) n cap) xs)(i:Nat):w.frozen? ⟨g,i,none⟩=false:=by
 rcases h.2 with⟨e,_⟩|⟨g',cap',cur,e,_,hh,_⟩
 ·cases e
 ·injection e with e1 e2 e3;injection e1 with e1;injection e1 with e1;subst e1;simp[World.frozen?,hh]
theorem OwB.set_ {n cap:Nat}(h:OwB w B (.slice (some ⟨g,0,none⟩) n cap) xs)(i:Nat)(u:UInt8):OwB (w.setCell ⟨g,i,none⟩ (.int .u8 (u.toNat:Int))) B (.slice (some ⟨g,0,none⟩) n cap) (xs.set i u):=by
 have hn:n=xs.length:=by
  rcases h.2 with⟨e1,e2⟩|⟨g',cap',cur,e,_⟩
  ·cases e1
  ·injection e
 by_cases hi:i<xs.length
 ·refine⟨by simp[Lib.byteCells],?_⟩;rcases h.2 with⟨e,_⟩|⟨g',cap',cur,e,hg,hh,h1,h2,h3,h4⟩
  ·cases e
  ·injection e with e1 e2 e3;injection e1 with e1;injection e1 with e1;subst e1 e3;refine .inr ⟨g,cap,cur.setIfInBounds i (.int .u8 (u.toNat:Int)),by rw[List.length_set,hn],hg,?_,by rw[List.length_set];exact h1,h2,by simpa using h3,?_⟩
   ·simp[World.setCell,Array.getElem?_modify,hh]
   ·rw[List.length_set,Array.toList_setIfInBounds,List.take_set,h4];simp[Lib.byteCells,List.map_set]
 ·rw[List.set_eq_of_length_le (by omega)];rcases h.2 with⟨e,_⟩|⟨g',cap',cur,e,hg,hh,h1,h2,h3,h4⟩
  ·cases e
  ·injection e with e1 e2 e3;injection e1 with e1;injection e1 with e1;subst e1 e3;refine⟨h.1,.inr ⟨g,cap,cur.setIfInBounds i (.int .u8 (u.toNat:Int)),by rw[hn],hg,?_,h1,h2,by simpa using h3,?_⟩⟩
   ·simp[World.setCell,Array.getElem?_modify,hh]
   ·rw[Array.toList_setIfInBounds,List.take_set,h4];rw[List.set_eq_of_length_le (by rw[ZaV];omega)]
theorem ZkB(l:List UInt8):∀u∈Lib.byteCells l,u.oneCell'=true:=by intro u hu;simp only[Lib.byteCells,List.mem_map]at hu;obtain⟨b,_,rfl⟩:=hu;rfl
theorem ZkC {b off:Nat}(h:RdB w (some ⟨b,off,none⟩) ys):∀j u,(Lib.byteCells ys)[j]? =some u→w.cell? ((Addr.mk b off none).add j)=some u:=by
 intro j u hu;have hj:j<ys.length:=by have:=(List.getElem?_eq_some_iff.1 hu).1;rwa[ZaV]at this
 rcases h with rfl|⟨b,off,ha,_,hc⟩
 ·simp at hj
 ·injection ha with ha;injection ha with h1 h2;subst h1 h2;rw[show(Addr.mk b off none).add j=⟨b,off+j,none⟩from by unfold Addr.add;split<;>simp_all,hc j hj];simpa[Lib.byteCells,hj]using hu
theorem ZlN(ty:TypeId)(n m c:Nat)(_hn:n=xs.length)(hown:OwB w B v xs)(hr:RdB w a ys)(hm:m=ys.length)(hle:xs.length+ys.length≤140737488355328)(hB:B≤w.heap.size):
  ∃v' w',(Builtin.append_ #[61,61] ty #[v,.slice a m c]).run Tryz.prog w= .ok v' w'∧OwB w' B v' (xs++ys)∧w.grownBy w' v.ownBlock∧
   (v'.ownBlock=v.ownBlock∨v'.ownBlock=some w.heap.size):=by
 obtain⟨i0,hi,hz0,hz1,hz2⟩:=info_parts Ziu;subst hm;by_cases h0:ys=[]
 ·subst h0;refine⟨v,w,?_,by rw[List.append_nil];exact hown,World.grownBy.refl w _,.inl rfl⟩;rcases hown.2 with⟨rfl,_⟩|⟨g,cap,cur,rfl,_,_,hnc,_⟩
  ·cases a<;>simp[Builtin.append_,run_underlying Tryz.underlying61,sizeOf,typeInfo,hi,Builtin.lenOf,Builtin.firstCells,loadCells,loadCellsFrom]
  ·cases a<;>simp[Builtin.append_,run_underlying Tryz.underlying61,sizeOf,typeInfo,hi,Builtin.lenOf,Builtin.firstCells,hnc,storeCells,loadCells,loadCellsFrom]
 ·obtain⟨b,off,rfl,hlt,hc⟩:∃b off,a=some ⟨b,off,none⟩∧b<w.heap.size∧∀i (h:i<ys.length),w.cell? ⟨b,off+i,none⟩=some (.int .u8 ((ys[i]'h).toNat:Int)):=by
   rcases hr with h|h
   ·exact absurd h h0
   ·exact h
  obtain⟨v',w',hrun,h2,h3,_,h5⟩:=run_append_own_at (P:=Tryz.prog) w B 61 ty 5 i0 (.int .u8 0) 1 1 Tryz.underlying61 hi hz0 hz1 hz2 rfl (by decide) v xs.length (Lib.byteCells xs) hown ⟨b,off,none⟩ ys.length c (Lib.byteCells ys)
   (by rw[ZaV];omega) (ZkC hr) (ZkB ys) (by unfold maxLen;omega) (by omega) hB
  refine⟨v',w',hrun,?_,h3,h5⟩;unfold OwB;rw[List.length_append,show Lib.byteCells (xs++ys)=Lib.byteCells xs++Lib.byteCells ys from by simp[Lib.byteCells]];exact h2
theorem Z4 {ops:Array Oper}{rest:List Oper}{o:Oper}{ac:Act}{Q:Exit→Act→World→Prop}(hgd:o.guard=none)(s x:Operand)
  (ho:o.op= .call {callee:= .builtin .append,args:=#[s,x],argTypes:=#[61,61]})
  (B:Nat) (v:Value) (xs:List UInt8) (a:Option Addr) (m c:Nat) (ys:List UInt8) (hs:ac.eval s=v) (hx:ac.eval x= .slice a m c)
  (hown:OwB w B v xs) (hr:RdB w a ys) (hm:m=ys.length) (hle:xs.length+ys.length≤140737488355328) (hB:B≤w.heap.size)
  (K:∀v' w',OwB w' B v' (xs++ys)→w.grownBy w' v.ownBlock→(v'.ownBlock=v.ownBlock∨v'.ownBlock=some w.heap.size)→wpList Tryz.prog ops Q rest (ac.put o.dst v') w'):
  wpList Tryz.prog ops Q (o::rest) ac w:=by
 refine wpList_plain hgd fun K' hK=>?_;obtain⟨v',w',hrun,h2,h3,h4⟩:=ZlN (w:=w) o.type xs.length m c rfl hown hr hm hle hB;have:=hK _ _ (K v' w' h2 h3 h4);unfold Oper.wp execOp;simp only[ho,resolve,invoke,builtin,Sem.run_bind,Sem.run_pure,Result.andThen_ok,List.map_toArray,List.map_cons,List.map_nil,hs,hx,hrun];exact this
theorem Zbl(w:World)(c:Int)(u:UInt8)(hc:c=(u.toNat:Int)):RdB (w.alloc (.cells #[.int .u8 c] 5)) (some ⟨w.heap.size,0,none⟩) [u]:=by
 subst hc;refine .inr ⟨w.heap.size,0,rfl,by simp,fun i hi=>?_⟩;have hi0:i=0:=by simpa using hi
 subst hi0;exact(Blk.new w 5 #[.int .u8 (u.toNat:Int)]).cell 0
end
end Go.Proofs.YtnnfhojhbbcbmaaGreatDoor
namespace Go.Proofs.YtnnfhojhbbcbmaaGreatDoor
open Go.RowKit
def Rd(w:World)(a:Option Addr)(xs:List Value):Prop:=
 xs=[]∨∃b off,a=some ⟨b,off,none⟩∧b<w.heap.size∧∀i u,xs[i]? =some u→w.cell? ⟨b,off+i,none⟩=some u
theorem Zb7(b off i:Nat):(Addr.mk b off none).add i=⟨b,off+i,none⟩:=by unfold Addr.add;split<;>simp_all
section
variable {w w' : World} {a : Option Addr} {xs ys : List Value} {B g n m size cap : Nat} {e : TypeId} {v : Value}
theorem Rd.keep(h:Rd w a xs)(hb:Below w.heap.size w w'):Rd w' a xs:=by
 rcases h with h|⟨b,off,ha,hlt,hc⟩
 ·exact .inl h
 ·exact .inr ⟨b,off,ha,Nat.lt_of_lt_of_le hlt hb.size,fun i u hu=>(hb.cell (p:=⟨b,off+i,none⟩) hlt).trans (hc i u hu)⟩
theorem Rd.alloc(h:Rd w a xs)(o:Obj):Rd (w.alloc o) a xs:=h.keep ((Below.refl _ _).alloc (Nat.le_refl _) _)
theorem Rd.drew(h:Rd w a xs):Rd w.drew a xs:=h
theorem Rd.cellAt(h:Rd w a xs)(i:Nat)(u:Value)(hu:xs[i]? =some u):∃b off,a=some ⟨b,off,none⟩∧w.cell? ⟨b,off+i,none⟩=some u:=by
 rcases h with rfl|⟨b,off,ha,_,hc⟩
 ·simp at hu
 ·exact⟨b,off,ha,hc i u hu⟩
theorem Rd.addrAt(h:Rd w a xs)(h0:xs≠ []):∃b off,a=some ⟨b,off,none⟩∧b<w.heap.size∧∀i u,xs[i]? =some u→w.cell? ⟨b,off+i,none⟩=some u:=by
 rcases h with h|h
 ·exact absurd h h0
 ·exact h
theorem Rd.take(h:Rd w a xs)(k:Nat):Rd w a (xs.take k):=by
 rcases h with rfl|⟨b,off,ha,hlt,hc⟩
 ·exact .inl (by simp)
 ·refine .inr ⟨b,off,ha,hlt,fun i u hu=>hc i u ?_⟩;rw[List.getElem?_take]at hu;split at hu
  ·exact hu
  ·cases hu
theorem Rd.nil(w:World)(a:Option Addr):Rd w a []:= .inl rfl
theorem Rd.news(h:Rd w (some ⟨g,n,none⟩) xs):∀j u,xs[j]? =some u→w.cell? ((Addr.mk g n none).add j)=some u:=by
 intro j u hu;rw[Zb7];rcases h with rfl|⟨b,off,ha,_,hc⟩
 ·simp at hu
 ·injection ha with ha;injection ha with h1 h2;subst h1 h2;exact hc j u hu
theorem Rd.new(w:World)(t:TypeId)(cs:List Value):Rd (w.alloc (.cells cs.toArray t)) (some ⟨w.heap.size,0,none⟩) cs:=
 .inr ⟨w.heap.size,0,rfl,by simp,fun i u hu=>by
  rw[Nat.zero_add];have:=(Blk.new w t cs.toArray).cell i;rw[this]
  simpa using hu⟩
theorem Blk.grown {t:TypeId}{cs:Array Value}{k:Nat}(h:Blk w g t cs)(hg:w.grownBy w' (some k))(hne:g≠k):Blk w' g t cs:=
 (hg.block g h.lt (by intro e;injection e with e;exact hne e)).trans h
theorem ZL(h:w.ownsRow B e size v n xs)(hb:Below w.heap.size w w'):w'.ownsRow B e size v n xs:=by
 obtain⟨h1,h2⟩:=h;refine⟨h1,?_⟩;rcases h2 with h2|⟨g,cap,cur,hv,hg,hh,r⟩
 ·exact .inl h2
 ·exact .inr ⟨g,cap,cur,hv,hg,ZcP hh hb,r⟩
theorem Zb8(w:World)(B:Nat)(e:TypeId)(size:Nat):w.ownsRow B e size (.slice none 0 0) 0 []:=⟨by simp,.inl ⟨rfl,rfl⟩⟩
theorem Zl(h:w.ownsRow B e size v n xs):∃a cap,v= .slice a n cap:=by
 rcases h.2 with⟨h1,h2⟩|⟨g,cap,cur,hv,_⟩
 ·exact⟨none,0,by rw[h1,h2]⟩
 ·exact⟨_,cap,hv⟩
theorem Z9(h:w.ownsRow B e size v n xs)(h0:n≠0):∃g cap,v= .slice (some ⟨g,0,none⟩) n cap∧B≤g∧g<w.heap.size∧n≤cap:=by
 rcases h.2 with⟨_,h1⟩|⟨g,cap,cur,hv,hg,hh,hc,_⟩
 ·exact absurd h1 h0
 ·exact⟨g,cap,hv,hg,ZD hh,hc⟩
theorem ZcQ(h:w.ownsRow B e size (.slice a n cap) n xs):Rd w a xs:=by
 by_cases h0:xs=[]
 ·exact .inl h0
 ·rcases h.2 with⟨h1,h2⟩|⟨g,cap',cur,hv,hg,hh,r⟩
  ·exact absurd (List.length_eq_zero_iff.1 (by rw[h.1,h2,Nat.zero_mul])) h0
  ·injection hv with hv;subst hv;refine .inr ⟨g,0,rfl,ZD hh,fun i u hu=>?_⟩;have:=h.cells (g:=g) rfl i u hu;rwa[Zb7]at this
theorem ZJ(h:w.ownsRow B e size (.slice (some ⟨g,0,none⟩) m cap) n xs)(i:Nat)(u:Value)(hu:xs[i]? =some u):w.cell? ⟨g,i,none⟩=some u:=by have:=h.cells (g:=g) rfl i u hu;rw[Zb7,Nat.zero_add]at this;exact this
theorem ZkD(h:w.ownsRow B e size (.slice (some ⟨g,0,none⟩) m cap) n xs)(i:Nat):w.frozen? ⟨g,i,none⟩=false:=by
 rcases h.2 with⟨e,_⟩|⟨g',cap',cur,e,_,hh,_⟩
 ·cases e
 ·injection e with e1 e2 e3;injection e1 with e1;injection e1 with e1;subst e1;simp[World.frozen?,hh]
theorem Z5(h:w.ownsRow B e size v n xs):∀k,v.ownBlock=some k→B≤k∧k<w.heap.size:=World.ownsRow.lt h
theorem ZdK {B':Nat}(h:w.ownsRow B e size v n xs)(hB:B'≤B):w.ownsRow B' e size v n xs:=by
 refine⟨h.1,?_⟩;rcases h.2 with h2|⟨g,cap,cur,hv,hg,r⟩
 ·exact .inl h2
 ·exact .inr ⟨g,cap,cur,hv,by omega,r⟩
theorem Zfx(i0:TypeInfo)(z:Value)(bytes:Nat)(t ty:TypeId)(c:Nat)(ht:Tryz.prog.underlying t=some (.slice e))(hi:Tryz.prog.info? e=some i0)(hz0:i0.zero=some z)(hz1:i0.size=size)(hz2:i0.bytes=bytes)
  (hzs:z.cells.size=size) (hsz:0<size) (hone:∀u∈ys,u.oneCell'=true) (hown:w.ownsRow B e size v n xs) (hr:Rd w a ys) (hm:ys.length=m*size) (hle:(n+m)*bytes≤140737488355328) (h63:n+m≤140737488355328) (hB:B≤w.heap.size):
  ∃v' w',(Builtin.append_ #[t,t] ty #[v,.slice a m c]).run Tryz.prog w= .ok v' w'∧w'.ownsRow B e size v' (n+m) (xs++ys)∧w.grownBy w' v.ownBlock∧(v'.ownBlock=v.ownBlock∨v'.ownBlock=some w.heap.size):=by
 by_cases h0:ys=[]
 ·subst h0
  have hm0:m=0:=by
   have h1:0=m*size:=by simpa using hm
   rcases Nat.mul_eq_zero.1 h1.symm with h|h
   ·exact h
   ·omega
  subst hm0;refine⟨v,w,?_,by rw[List.append_nil];exact hown,World.grownBy.refl w _,.inl rfl⟩;rcases hown.2 with⟨rfl,_⟩|⟨g,cap,cur,rfl,_,_,hnc,_⟩
  ·cases a<;>simp[Builtin.append_,run_underlying ht,sizeOf,typeInfo,hi,Builtin.lenOf,Builtin.firstCells,loadCells,loadCellsFrom]
  ·cases a<;>simp[Builtin.append_,run_underlying ht,sizeOf,typeInfo,hi,Builtin.lenOf,Builtin.firstCells,hnc,storeCells,loadCells,loadCellsFrom]
 ·obtain⟨b,off,rfl,hlt,hc⟩:=hr.addrAt h0;obtain⟨v',w',hrun,h2,h3,_,h5⟩:=run_append_own_at (P:=Tryz.prog) w B t ty e i0 z size bytes ht hi hz0 hz1 hz2 hzs hsz v n xs hown ⟨b,off,none⟩ m c ys hm (hr.news) hone (by unfold maxLen;omega) hle hB;exact⟨v',w',hrun,h2,h3,h5⟩
theorem Zk {ops:Array Oper}{rest:List Oper}{o:Oper}{ac:Act}{Q:Exit→Act→World→Prop}(hgd:o.guard=none)(s x:Operand)(t:TypeId)
  (ho:o.op= .call {callee:= .builtin .append,args:=#[s,x],argTypes:=#[t,t]})
  (i0:TypeInfo) (z:Value) (bytes:Nat) (c:Nat) (ht:Tryz.prog.underlying t=some (.slice e)) (hi:Tryz.prog.info? e=some i0) (hz0:i0.zero=some z) (hz1:i0.size=size) (hz2:i0.bytes=bytes)
  (hzs:z.cells.size=size) (hsz:0<size) (hs:ac.eval s=v) (hx:ac.eval x= .slice a m c) (hone:∀u∈ys,u.oneCell'=true) (hown:w.ownsRow B e size v n xs) (hr:Rd w a ys) (hm:ys.length=m*size)
  (hle:(n+m)*bytes≤140737488355328) (h63:n+m≤140737488355328) (hB:B≤w.heap.size)
  (K:∀v' w',w'.ownsRow B e size v' (n+m) (xs++ys)→w.grownBy w' v.ownBlock→(v'.ownBlock=v.ownBlock∨v'.ownBlock=some w.heap.size)→wpList Tryz.prog ops Q rest (ac.put o.dst v') w'):
  wpList Tryz.prog ops Q (o::rest) ac w:=by
 refine wpList_plain hgd fun K' hK=>?_;obtain⟨v',w',hrun,h2,h3,h4⟩:=Zfx (w:=w) i0 z bytes t o.type c ht hi hz0 hz1 hz2 hzs hsz hone hown hr hm hle h63 hB;have:=hK _ _ (K v' w' h2 h3 h4);unfold Oper.wp execOp;simp only[ho,resolve,invoke,builtin,Sem.run_bind,Sem.run_pure,Result.andThen_ok,List.map_toArray,List.map_cons,List.map_nil,hs,hx,hrun];exact this
end
theorem ZfP {t e:TypeId}{i0:TypeInfo}{size:Nat}(ht:Tryz.prog.underlying t=some (.slice e))(hi:Tryz.prog.info? e=some i0)(hz:i0.size=size)(g off n c k:Nat)(x:Int)(hx:x=k)(hk:k<n)(W:World):
  (Instr.indexAt t (.slice (some ⟨g,off,none⟩) n c) (.int .i64 x)).run Tryz.prog W= .ok (.pointer (some ⟨g,off+k*size,none⟩)) W:=by
 subst hx hz;have h1:(0:Int)≤(k:Int)∧(k:Int)<(n:Int):=by omega
 simp[Instr.indexAt,go_sem,run_underlying ht,sizeOf,typeInfo,hi,h1,Zb7];intro h;omega
end Go.Proofs.YtnnfhojhbbcbmaaGreatDoor
namespace Go.Proofs.YtnnfhojhbbcbmaaGreatDoor
open Go.RowKit
structure It where
 kind:Nat
 num:Int
 text:ByteArray
 node:Int
instance:Inhabited It:=⟨⟨0,0,⟨#[]⟩,0⟩⟩
def itC(x:It):List Value:=[.int .u8 x.kind,.int .i64 x.num,.string x.text,.int .i64 x.node]
def itV(x:It):Value:= .agg (itC x).toArray
def Zi(l:List It):List Value:=l.flatMap itC
def RdI(w:World)(a:Option Addr)(l:List It):Prop:=Rd w a (Zi l)
theorem Za2(x:It)(l:List It):Zi (x::l)=itC x++Zi l:=rfl
theorem Zg:∀(l:List It),(Zi l).length=l.length*4
 | []=>rfl
 |x::l=>by rw[Za2,List.length_append,Zg l];simp[itC];omega
theorem Zau:∀(l:List It) (i j:Nat) (x:It),l[i]? =some x→j<4→(Zi l)[i*4+j]? =(itC x)[j]?
 | [],i,j,x,h,_=>by simp at h
 |y::l,0,j,x,h,hj=>by
  simp at h;subst h;rw[Za2,List.getElem?_append_left (by simp[itC];omega)];simp
 |y::l,i+1,j,x,h,hj=>by
  rw[Za2,List.getElem?_append_right (by simp[itC];omega)];have:=Zau l i j x (by simpa using h) hj;rw[←this];congr 1;simp[itC];omega
theorem RdI.keep {w w':World}{a:Option Addr}{l:List It}(h:RdI w a l)(hb:Below w.heap.size w w'):RdI w' a l:=Rd.keep h hb
theorem RdI.alloc {w:World}{a:Option Addr}{l:List It}(h:RdI w a l)(o:Obj):RdI (w.alloc o) a l:=Rd.alloc h o
theorem RdI.at {w:World}{a:Option Addr}{l:List It}(h:RdI w a l)(i:Nat)(x:It)(hx:l[i]? =some x):
  ∃b off,a=some ⟨b,off,none⟩∧w.cell? ⟨b,off+i*4,none⟩=some (.int .u8 x.kind)∧w.cell? ⟨b,off+i*4+1,none⟩=some (.int .i64 x.num)∧w.cell? ⟨b,off+i*4+2,none⟩=some (.string x.text)∧w.cell? ⟨b,off+i*4+3,none⟩=some (.int .i64 x.node):=by
 have hne:Zi l≠ []:=by intro e;have h1:=Zg l;rw[e]at h1;have h2:=(List.getElem?_eq_some_iff.1 hx).1;simp at h1;omega
 obtain⟨b,off,ha,_,hc⟩:=Rd.addrAt h hne;refine⟨b,off,ha,?_,?_,?_,?_⟩
 ·exact hc (i*4) _ (by have:=Zau l i 0 x hx (by decide);simpa[itC]using this)
 ·rw[Nat.add_assoc];exact hc (i*4+1) _ (by have:=Zau l i 1 x hx (by decide);simpa[itC]using this)
 ·rw[Nat.add_assoc];exact hc (i*4+2) _ (by have:=Zau l i 2 x hx (by decide);simpa[itC]using this)
 ·rw[Nat.add_assoc];exact hc (i*4+3) _ (by have:=Zau l i 3 x hx (by decide);simpa[itC]using this)
theorem RdI.new(w:World)(t:TypeId)(l:List It):RdI (w.alloc (.cells (Zi l).toArray t)) (some ⟨w.heap.size,0,none⟩) l:=Rd.new w t (Zi l)
def Ascii(s:ByteArray):Prop:=∀(i:Nat) (h:i<s.size),32≤(s[i]'h).toNat∧(s[i]'h).toNat<127
end Go.Proofs.YtnnfhojhbbcbmaaGreatDoor
