/- A part of the proof that the law TopEntryCard holds of the given program: facts that are used there. -/
import Derived.Test.YtgokjhhcfemnhacGreatDoorPart4
import Derived.Test.YtgokjhhcfemnhacGreatDoorRows
import Derived.Test.YtgokjhhcfemnhacGreatDoorTie
import Derived.Test.YtgokjhhcfemnhacGreatDoorCards
import Derived.LaidMore
set_option linter.unusedSimpArgs false
set_option linter.unusedVariables false
set_option maxRecDepth 100000
set_option maxHeartbeats 4000000
namespace Go.Proofs.YtgokjhhcfemnhacGreatDoor
open Go.Vg Go.Mrl
noncomputable def Tryz.Cc:List (FuncId × (Bool × bO)):=[(76,(true,aP [.str] [.err] (fun _=>True) (fun s=>aN (aF s)))),
 (99,(true,aP [.str] [.int .i64] (fun _=>True) (fun s=>aF s))),
 (21,(true,aP [.err] [.int .i64] (fun _=>True) (fun e=>eK e))),
 (56,(true,iu [bD] [.bool] (fun _=>True) (fun e y=>y=true->mw e))),
 (15,(true,iu [.slice cK, .int .i64] [.bool] (fun _=>True) (fun x y=>y=true->mW x.1 x.2))),
 (26,(true,aP [] [.bool] (fun _=>True) (fun _=>true))),
 (40,(false,bS Tryz.aL [.obj 0, .d (.slice cK)] (fun _ x=>cE x) Tryz.vt)),
 (29,(false,bS [] [] (fun _ _=>True) Tryz.qo)),
 (44,(false,bS Tryz.aL [.obj 0, .d .str] (fun _ x=>x.2.1.1.length<=6) Tryz.vu)),
 (34,(false,bS Tryz.aL [.obj 0, .d .str] (fun _ x=>x.2.1.1.length<=6) Tryz.rq)),
 (46,(false,bS Tryz.aL [.d bD, .obj 0] (fun _ _=>True) Tryz.py)),
 (48,(false,bS Tryz.aL [.d bD, .obj 0] (fun a x=>a.1.2.1.length<=1000/\x.2.1.1.length<=6) Tryz.xB)),
 (49,(true,aP [bD] [.err] (fun _=>True) (fun e=>aN (gG e)))),
 (42,(true,iu [.slice cL, .slice cL] [.bool] (fun _=>True) (fun x y=>x.1=x.2->y=true)))]
theorem Tryz.FK:bX Tryz.prog Tryz.B Tryz.X Tryz.Cc:=
 aV (aE Tryz.iy) (aV (aE Tryz.eQ) (aV (aE Tryz.gX) (aV (eA Tryz.nQ) (aV (eA Tryz.s5) (aV (aE Tryz.Jc) (aV (Tryz.Kg) (aV (Tryz.xx) (aV (Tryz.Ki) (aV (Tryz.DY) (aV (Tryz.Cb) (aV (Tryz.K7) (aV (aE Tryz.HG) (aV (eA Tryz.B5) (cO Tryz.cP))))))))))))))
theorem Db (l:List (D cK)) (r:List UInt8) (hw:gC [.slice cK, .str] (l,r)):(dF Tryz.B Tryz.Cc Tryz.f11 [] [.slice cK, .str] [.bool] (fun _ y=>y=true) (l,r)).holds:=by
 refine holds_of (p:=
  let za:=false=true
  let zb:=(((0:Int),()),([],(0:Int),()),())
  let zc:=List.length (dV zb l).2.1.1<=(6:Nat)
  let zd:=aO (dV zb l)
  let ze:=aN (fO zd r).2
  let zf:=aN (fY zd r).2
  let zg:=(fO zd r).1
  let zh:=List.length zg.2.1
  let zi:=(True)/\(True)/\(((eK ze == eK zf)=true->((zh<=aJ)->(((↑zh:Int) == (0:Int))=true)))/\((eK ze == eK zf)=false->(za)))
  (True)/\(((!true)=true->(za))/\((!true)=false->(True)/\(∀x_0:Bool,((x_0=true->mW l (30:Int))->(((!x_0)=true->(true=true))/\((!x_0)=false->((List.length r<=aJ)->(((decide ((↑(List.length r):Int) > (20:Int)))=true->(true=true))/\((decide ((↑(List.length r):Int) > (20:Int)))=false->(True)/\((True)->(cE zb)/\((True)->(zc)/\((True)->(zc)/\((True)->(((!aU.isNil ze)=true->(zi))/\((!aU.isNil ze)=false->(((!aU.isNil zf)=true->(zi))/\((!aU.isNil zf)=false->(zh<=(1000:Nat)/\zc)/\((True)->(((aU.isNil (aN (kE zd zg).2))=true->(True)/\((True)->(((fK zd zg)=true->(True)/\(((aU.isNil (aN (gG zg)))=true->(True)/\(∀x_1:Bool,(((fY zd r).1=(kE zd zg).1->x_1=true)->(x_1=true))))/\((aU.isNil (aN (gG zg)))=false->(za))))/\((fK zd zg)=false->(za)))))/\((aU.isNil (aN (kE zd zg).2))=false->(za)))))))))))))))))))))) (by kernel_rfl) ?_
 dsimp -iota -proj -eta only
 refine ⟨trivial,⟨fun h0=>absurd (show false=true from h0) (by decide),fun h0=>⟨trivial,fun x_0 q_0=>iB (fun h1=>rfl) (fun h1 h2=>iL (fun h3=>rfl) (fun h3=>⟨trivial,fun h4=>⟨cE.new,fun h5=>⟨?a,fun h6=>⟨?b,fun h7=>iB (fun h8=>⟨trivial,trivial,iQ (fun h9 h10=>(by rw [((BD ((show bP (dV (((0,()),([],0,()),()):dR) l) from bP.done l bP.new)).ok h8)).2];rfl)) (fun h9=>(absurd (congrArg (fun z=>eK (aN z)) ((BD ((show bP (dV (((0,()),([],0,()),()):dR) l) from bP.done l bP.new)).ok h8)).1) h9))⟩) (fun h8=>iB (fun h9=>⟨trivial,trivial,iQ (fun h10 h11 => ?c) (fun h10 => ?d)⟩) (fun h9=>⟨⟨Nat.le_trans (IN (show bP (dV (((0,()),([],0,()),()):dR) l) from bP.done l bP.new) h8).2 (by decide),((show bP (dV (((0,()),([],0,()),()):dR) l) from bP.done l bP.new)).st.pre.1⟩,fun h10=>⟨fun h11=>⟨trivial,fun h12=>⟨fun h13=>⟨trivial,⟨fun h14=>⟨trivial,fun x_1 q_1=>(q_1 (congrArg Prod.fst ((l9 (show bP (dV (((0,()),([],0,()),()):dR) l) from bP.done l bP.new) h8)).2.1.symm))⟩,fun h14=>(absurd ((l9 (show bP (dV (((0,()),([],0,()),()):dR) l) from bP.done l bP.new) h8)).2.2.2 (gW h14))⟩⟩,fun h13=>(Bool.noConfusion (((l9 (show bP (dV (((0,()),([],0,()),()):dR) l) from bP.done l bP.new) h8)).2.2.1.symm.trans h13))⟩⟩,fun h11=>(absurd ((congrArg Prod.snd ((l9 (show bP (dV (((0,()),([],0,()),()):dR) l) from bP.done l bP.new) h8)).2.1).trans ((l9 (show bP (dV (((0,()),([],0,()),()):dR) l) from bP.done l bP.new) h8)).1) (gW h11))⟩⟩))⟩⟩⟩⟩))⟩⟩⟩
 case a|b=>exact ((show bP (dV (((0,()),([],0,()),()):dR) l) from bP.done l bP.new)).st.pre.1
 case c|d=>exact absurd ((l9 (show bP (dV (((0,()),([],0,()),()):dR) l) from bP.done l bP.new) h8)).1 (gW h9)
theorem Tryz.Dc:bT Tryz.prog Tryz.B.eT Tryz.X 11 [.slice cK, .str] [.bool] (fun _=>True) (fun _ y=>y=true):=
 cI (X:=Tryz.X) Tryz.FK Tryz.func11 (by kernel_rfl) (fun _=>[]) (fun x hw hp=>Db x.1 x.2 hw)
open Go.ChangeShapes Go.WideShapes Go.ChangeAt Go.RowKit in
theorem Tryz.vw {W:World} (hL:laidMetH Tryz.prog Rows.topEntryRow.laid W) (hsh:W.ShapedOpen Tryz.prog):Tryz.KW W:=by
 rw [MakeChecks.laidMetH_plain _ _ _ (by kernel_rfl)] at hL
 exact ⟨BB (g:=1) (t:=242) (e:=23) (n:=20) (by kernel_rfl) (by kernel_rfl) (by kernel_rfl) (by kernel_rfl) (by kernel_rfl) (by kernel_rfl) ((show (Rows.laid_internal_strconv_uint64pow10:DataW Unit)=Lib.tabData .u64 Lib.pow10Tab from by kernel_rfl)▸Lib.laidMet.reads hL (.tail _ (.tail _ (.head _)))),
  BA (g:=0) (t:=3) (zero:=#[.int .i64 0]) hsh (of_decide_eq_true (by kernel_rfl)) (by kernel_rfl) rfl (by kernel_rfl) (by kernel_rfl) (by kernel_rfl),
  qn (g:=4) (t:=36) (by kernel_rfl) (by kernel_rfl) (by kernel_rfl) (Lib.laidMet.reads hL (.tail _ (.tail _ (.tail _ (.tail _ (.tail _ (.head _))))))),
  qn (g:=5) (t:=36) (by kernel_rfl) (by kernel_rfl) (by kernel_rfl) (Lib.laidMet.reads hL (.tail _ (.tail _ (.tail _ (.tail _ (.head _))))))⟩
open Go.ChangeShapes Go.WideShapes Go.ChangeAt Go.RowKit in
set_option maxRecDepth 100000 in
theorem wW (os:Os) (started:os.Started) (H:Type) (enc:TypeId × Value->H) :
  ReturnsInHanded {} Tryz.checked os 11 .any (fun w args=>(Rows.topEntrySpec.pre enc Tryz.prog Tryz.f11 [] false w args/\laidMetH Tryz.prog Rows.topEntryRow.laid w)/\sizedMet enc Tryz.prog Tryz.f11 (OpenSpec.ofChange Rows.topEntrySpec) false w args) (Rows.topEntrySpec.post enc Tryz.prog Tryz.f11 false true false false):=by
 refine CP (C:=Tryz.checked) (X:=fun w _=>laidMetH Tryz.prog Rows.topEntryRow.laid w) (fun _ _ _ hh h=>h.of_heap hh) (by kernel_rfl) started (by kernel_rfl) Tryz.func11
  (ChangeSpec.witness_shaped (enc:=enc) (C:=Tryz.checked) (os:=os) (X:=fun w _=>laidMetH Tryz.prog Rows.topEntryRow.laid w) false (World.laidAll Tryz.prog os Rows.topEntryRow.laid) #[.slice none 0 0, .string ⟨#[]⟩] 8 (World.laidAll_os _ _ _) (World.shaped_of_ZipB (by kernel_rfl) (by kernel_rfl)) (by kernel_rfl) (by kernel_rfl) (by kernel_rfl)
   (by rw [MakeChecks.laidMetH_plain _ _ _ (by kernel_rfl)];exact laidMet_laidAll _ (by kernel_rfl) (by kernel_rfl))) ?_
 intro W base args ds gs before hval hW hL hsh
 exact Gn (C:=Tryz.checked) (n:=16) rfl (by kernel_rfl) (fun ds h=>by match ds,h with | [_,_],_=>rfl) (by kernel_rfl) (by kernel_rfl) (by kernel_rfl) (tb:=4) (by kernel_rfl) Tryz.Dc hval hW (Tryz.vw hL hsh) (fun _ _=>trivial)
open Go.ChangeShapes Go.WideShapes Go.ChangeAt Go.RowKit in
theorem zF:Rows.TopEntrySaid:=
 OpenClaim.holds_of_wide 11 Tryz.f11 rfl rfl rfl rfl rfl rfl rfl ⟨rfl,rfl,rfl,rfl,rfl⟩ rfl rfl rfl rfl rfl (by kernel_rfl) Tryz.func11 (by kernel_rfl)
  (of_decide_eq_true (by kernel_rfl)) (by unfold Func.isWrapper;first | (rw [if_pos (by decide +kernel)];kernel_rfl) | (rw [if_neg (by decide +kernel)];exact ⟨rfl,rfl⟩))
  (fun os started H enc _=>wW os started H enc)
theorem topEntry_holds:Rows.TopEntryCardSaid:=
 Claim7.holds_tied_plain_at .later [] [.data, .data, .data, .data, .sentinel, .sentinel, .pinned] true (true,"6a9693e68608825ffcfea3137400340b6490202206f494b6fbc4e452f2b457e4") true
  zF (fun _ h=>by cases h) (by kernel_rfl) (fun _ h=>by cases h) topEntry_row_tie rfl ⟨rfl,rfl⟩ (by kernel_rfl) rfl
  (fun f fn hf hfn=>by
   obtain rfl:f=11:=Option.some.inj ((show Tryz.prog.funcNamed Rows.topEntryRow.func=some 11 by kernel_rfl).symm.trans hf) |>.symm
   obtain rfl:fn=Tryz.f11:=(Option.some.inj (Tryz.func11.symm.trans hfn)).symm
   exact ⟨by kernel_rfl,fun j t ht=>by
    have hall:(Tryz.f11.params.toList.all fun t => !Tryz.prog.wantsStandIn t)=true:=by kernel_rfl
    have hm:t∈Tryz.f11.params.toList:=Array.mem_def.1 (Array.mem_of_getElem? ht)
    exact (by simpa using List.all_eq_true.1 hall t hm:Tryz.prog.wantsStandIn t=false)⟩)
  (by kernel_rfl)
#print axioms topEntry_holds
end Go.Proofs.YtgokjhhcfemnhacGreatDoor

