/- parchmentlaw25.ValueNumbers, a closed statement, answers true: each sign and each function, at items of each kind and at items that are none, at the ends of the numbers and at texts past the bound, answers what is told by hand. Its conditions: the package-level variables that the row lists read as the row says when the call begins; the card ties them to the text of the program (strconv's errors and tables, value's table of counts; unicode/utf8.first is pinned by name). -/
import Derived.Test.YtnnfhojhbbcbmaaGreatDoorC48
import Derived.ChangeOld
import Derived.Below
import Derived.Test.YtnnfhojhbbcbmaaGreatDoorTie
import Derived.Test.YtnnfhojhbbcbmaaGreatDoorCards
namespace Go.Proofs.YtnnfhojhbbcbmaaGreatDoor.valueNumbers
open Go.ChangeShapes Go.WideShapes Go.ChangeAt Go.RowKit
open Go.ChangeMaps (open_string shut_string)
theorem own:ownKnob Tryz.prog.godebug=none:=by kernel_rfl
set_option maxRecDepth 100000 in
theorem ZmN {H:Type}(enc:TypeId×Value→H)(W:World)(base:Nat)(args:Array Value)(ds gs:List (DataW H))(before:List MemPlace)
  (_hval:∀(j:Nat) t v,Tryz.f3.params[j]? =some t→args[j]? =some v→Value.okWide Tryz.prog W .any base t v)
  (hW:DataW.Whole enc Tryz.prog Tryz.f3.params.toList Rows.valueNumbersSpec.vars false W args.toList ds gs before)
  (_hsz0:(DataW.weightsEach Tryz.prog (Tryz.f3.params.toList++Rows.valueNumbersSpec.plain.varTypes Tryz.prog) (ds++gs)).all (·≤reachBytes)=true) (hL:laidMetH Tryz.prog Rows.valueNumbersRow.laid W) (hsh:W.ShapedOpen Tryz.prog):
  Calls Tryz.prog 3 args W fun e W'=>∃v,e= .returned v∧Rows.valueNumbersSpec.post enc Tryz.prog Tryz.f3 false true false false W args v W':=by
 have hW':=hW;obtain⟨p,q,hA0,hV,rfl,hfz,hnd⟩:=hW;have hA:DataW.TrodAll enc Tryz.prog W 0 (fun _=>true) true Tryz.f3.params.toList args.toList ds p:=hA0;rw[Tryz.params3]at hA;obtain⟨hargs,rfl,rfl⟩:=trodAll_nil hA;obtain rfl:args=#[]:=Array.toList_inj.1 hargs;obtain⟨rfl,rfl⟩:=trodVars_none hV;clear hA0;obtain⟨henv,hcounts⟩:=Zpj hL (MakeChecks.laidMetH_plain _ _ _ (by kernel_rfl)) (by simp[Rows.valueNumbersRow]) (by simp[Rows.valueNumbersRow]) (by simp[Rows.valueNumbersRow]) (by simp[Rows.valueNumbersRow]) (by simp[Rows.valueNumbersRow]) (by simp[Rows.valueNumbersRow]);obtain⟨m,hm⟩:=ZlH hsh;refine(Zez henv hm hcounts).mono fun e W' ⟨he,bel⟩=>?_;subst he;exact⟨_,rfl,_,_,_,[],_,[],hW',trodAll_mk1 (shut_bool Tryz.underlying4 _),trodAll_mk0,rfl,bel.frame _,fun h=>by cases h⟩
set_option maxRecDepth 100000 in
theorem Zpk(os:Os)(started:os.Started)(H:Type)(enc:TypeId×Value→H):
  ReturnsInHanded {} Tryz.checked os 3 .any (fun w args=>(Rows.valueNumbersSpec.pre enc Tryz.prog Tryz.f3 [] false w args∧laidMetH Tryz.prog Rows.valueNumbersRow.laid w)∧sizedMet enc Tryz.prog Tryz.f3 (OpenSpec.ofChange Rows.valueNumbersSpec) false w args)
   (Rows.valueNumbersSpec.post enc Tryz.prog Tryz.f3 false true false false):=by
 refine returnsInHanded_of_calls own started (by kernel_rfl)
  (ChangeSpec.witness_shaped (enc:=enc) (C:=Tryz.checked) (os:=os) (X:=fun w _=>laidMetH Tryz.prog Rows.valueNumbersRow.laid w) false (World.laidAll Tryz.prog os Rows.valueNumbersRow.laid) #[] 8 (World.laidAll_os _ _ _)
   (World.shaped_of_ZipB (by kernel_rfl) (by kernel_rfl)) (by kernel_rfl) (by kernel_rfl) (by kernel_rfl)
   (by rw[MakeChecks.laidMetH_plain _ _ _ (by kernel_rfl)];exact laidMet_laidAll _ (by kernel_rfl) (by kernel_rfl))) ?_
 intro w tape i _ hsh _ hok hpre _;obtain⟨_,_,_,fn',hfn',_,_,_,_,hval⟩:=hok;have e:fn'=Tryz.f3:=Option.some.inj (hfn'.symm.trans Tryz.func3);subst e;obtain⟨⟨⟨ds,gs,before,hw,_⟩,hx⟩,hz⟩:=hpre;refine(ZmN enc (w.forCall tape i) w.heap.size i.args ds gs before hval (DataW.Whole.of_heap (w':=w.forCall tape i) (by rfl) hw) (hz.weights hw) (hx.of_heap (by rfl)) hsh).mono fun e W' ⟨v,he,hp⟩=>?_;subst he;exact ChangeSpec.post_blind hp
theorem over:Rows.ValueNumbersSaid:=
 OpenClaim.holds_of_wide 3 Tryz.f3 rfl rfl rfl rfl rfl rfl rfl ⟨rfl,rfl,rfl,rfl,rfl⟩ rfl rfl rfl rfl rfl (by kernel_rfl) Tryz.func3 (by kernel_rfl)
  (of_decide_eq_true (by kernel_rfl)) (by unfold Func.isWrapper;first|(rw[if_pos (by decide+kernel)];kernel_rfl)|(rw[if_neg (by decide+kernel)];exact⟨rfl,rfl⟩))
  (fun os started H enc _=>Zpk os started H enc)
theorem proved:Rows.ValueNumbersCardSaid:=
 Claim7.holds_tied_plain_at .later [] [.data,.data,.data,.data,.sentinel,.sentinel,.data,.pinned] true (true,"3cc9249c7e8e2a0a7b4ae69ebd67172256cc167cac4d1c29d289fdc54f39eee0") true
  over (fun _ h=>by cases h) (by kernel_rfl) (fun _ h=>by cases h) valueNumbers_row_tie rfl ⟨rfl,rfl⟩ (by kernel_rfl) rfl
  (fun f fn hf hfn=>by
   obtain rfl:f=3:=Option.some.inj ((show Tryz.prog.funcNamed "parchment/parchmentlaw25.ValueNumbers"=some 3 by kernel_rfl).symm.trans hf) |>.symm;obtain rfl:fn=Tryz.f3:=(Option.some.inj (Tryz.func3.symm.trans hfn)).symm
   exact⟨by kernel_rfl,fun j t ht=>by
    rw[Tryz.params3]at ht
    simp at ht⟩)
  (by kernel_rfl)
#print axioms proved
end Go.Proofs.YtnnfhojhbbcbmaaGreatDoor.valueNumbers
