/- A part of the proof that the law TopKeptCard holds of the given program: facts that are used there. -/
import Derived.Test.YtgokjhhcfemnhacGreatDoorPart5
import Derived.Test.YtgokjhhcfemnhacGreatDoorRows
import Derived.Test.YtgokjhhcfemnhacGreatDoorTie
import Derived.Test.YtgokjhhcfemnhacGreatDoorCards
import Derived.LaidMore
set_option linter.unusedSimpArgs false
set_option linter.unusedVariables false
set_option maxRecDepth 100000
set_option maxHeartbeats 4000000
set_option linter.defProp false
noncomputable section
open True renaming intro->aa
open Prod renaming snd->ab,fst->ad
open List renaming length->ae
open Go.Proofs.YtgokjhhcfemnhacGreatDoor.Rows renaming topKeptRow->af,topKeptSpec->ak
open Nat renaming le_trans->ag,le_of_succ_le->ah,le_refl->ai
open Go.Lib.laidMet renaming reads->aj
open Bool renaming noConfusion->al
open Go.MakeChecks renaming laidMetH_plain->ao
open Option.some renaming inj->aq
namespace Go.Proofs.YtgokjhhcfemnhacGreatDoor
open Go.Vg Go.Mrl
def Tryz.LV:List (FuncId×(Bool×aT)):=[(76,Tryz.spZ0),(99,Tryz.spZ1),(21,Tryz.spZ2),(56,Tryz.spZ32),(15,Tryz.spZ33),(50,(false,aY [] [] (fun _ _=>True) Tryz.x4)),(51,(false,gx Tryz.B Tryz.LS Tryz.f51 Tryz.LU)),(52,Tryz.spZ38),(34,Tryz.spZ31),(42,(true,mW [.slice dF,.slice dF] [.bool] (fun _=>True) (fun x y=>x.1=x.2->y=true)))]
theorem Tryz.RM:bN Tryz.prog Tryz.B Tryz.X Tryz.LV:=
 aP (aE Tryz.jm) (aP (aE Tryz.fH) (aP (aE Tryz.im) (aP (fD Tryz.qY) (aP (fD Tryz.xZ) (aP (Tryz.Ue) (aP (eP Tryz.RL Tryz.func51 (by kernel_rfl) Tryz.LU) (aP (Tryz.Jn) (aP (Tryz.LM) (aP (fD Tryz.Js) (bR Tryz.bQ))))))))))
theorem Ok(l:List (D dB))(s:List UInt8)(hw:fY [.slice dB,.str] (l,s)):(cV Tryz.B Tryz.LV Tryz.f12 [] [.slice dB,.str] [.bool] (fun _ y=>y=true) (l,s)).holds:=by
 refine holds_of (p:=
  let za:=false=true
  let zb:=true=true
  let zc:=(iR (qV 112)).1
  let zd:=Nat×dA×Sh
  let ze:=ae l
  let zf:=(0+1,())
  let zg:=[122,122]
  let zh:=fun(F:Nat×dA×Sh)=>(↑F.1:Int)
  let zi:=fun(F:Nat×dA×Sh)=>0<=zh F/\zh F<(↑ze:Int)
  let zj:=fun(F:Nat×dA×Sh)=>(nth dB l F.1).1
  let zk:=fun(F:Nat×dA×Sh)=>F.2.2.2.2.2.2.1=F.2.2.2.2.2.2.1
  let zl:=fun(F:Nat×dA×Sh)=>aJ (zh F)
  let zm:=aJ 1
  let zn:=fun(F:Nat×dA×Sh)=>zh F+1
  let zo:=fun(F:Nat×dA×Sh)=>aJ (zn F)
  let zp:=fun(F:Nat×dA×Sh)=>(jO F.2.1 F.2.2 (nth dB l F.1).2.1).1
  let zq:=fun(F:Nat×dA×Sh)=>(gL F.2.2 (nth dB l F.1).2.1).1
  let zr:=fun(F:Nat×dA×Sh)=>(dP F.2.2.2).2
  let zs:=fun(F:Nat×dA×Sh)=>zl F->zm->zo F/\zk F/\∃(x':zd),(ad x'<=ze/\nq (ab x').1 (ab x').2 (ad x'))/\ze-ad x'<ze-F.1/\(zn F=(↑(ad x'):Int)/\True)/\True/\zb/\((),F.2.1.1,F.2.1.2.1,F.2.2)=((),(ab x').1.1,(ab x').1.2.1,(ab x').2)
  let zt:=fun(F:Nat×dA×Sh)=>js F.2.1 (List.drop F.1 (List.take (Int.toNat (zn F)) l))
  let zu:=fun(F:Nat×dA×Sh)=>ae F.2.1.2.1.1<=6
  let zv:=fun(F:Nat×dA×Sh)=>kU F.2.1 F.2.2.1.2.1 s
  True/\(True->((!true)=true->za)/\((!true)=false->True/\∀E:Bool,(E=true->rv l 40)->((!E)=true->zb)/\((!E)=false->ae s<=aK->((decide ((↑(ae s):Int) > 20))=true->zb)/\((decide ((↑(ae s):Int) > 20))=false->(zc.2.2.2.1=zc.2.2.2.1/\∃(x':zd),(ad x'<=ze/\nq (ab x').1 (ab x').2 (ad x'))/\True/\(0=(↑(ad x'):Int)/\True)/\True/\zb/\((),zf,(fU cI (eS cI (@List.nil FE) zg (AT,zf) 0) zg,mQ cI (@List.nil FE) zg 0,()),(2,[],()),zc)=((),(ab x').1.1,(ab x').1.2.1,(ab x').2))/\∀F:Nat×dA×Sh,F.1<=ze/\nq F.2.1 F.2.2 F.1->ze<=aK->((decide (zh F<(↑ze:Int)))=true->zi F/\((zj F == [98,117,105,108,100])=true->zi F/\zk F/\(gI F.2.1/\xM F.2.2)/\(True->zl F->zm->zo F/\(zp F).2.2.2.2.1=(zp F).2.2.2.2.1/\∃(x':zd),(ad x'<=ze/\nq (ab x').1 (ab x').2 (ad x'))/\ze-ad x'<ze-F.1/\(zn F=(↑(ad x'):Int)/\True)/\True/\zb/\((),F.2.1.1,F.2.1.2.1,zp F)=((),(ab x').1.1,(ab x').1.2.1,(ab x').2)))/\((zj F == [98,117,105,108,100])=false->((zj F == [100,114,111,112])=true->zi F/\zk F/\xM F.2.2/\(True->zl F->zm->zo F/\(zq F).2.2.2.2.1=(zq F).2.2.2.2.1/\∃(x':zd),(ad x'<=ze/\nq (ab x').1 (ab x').2 (ad x'))/\ze-ad x'<ze-F.1/\(zn F=(↑(ad x'):Int)/\True)/\True/\zb/\((),F.2.1.1,F.2.1.2.1,zq F)=((),(ab x').1.1,(ab x').1.2.1,(ab x').2)))/\((zj F == [100,114,111,112])=false->((zj F == [111,112,101,110])=true->zk F/\(cZ F.2.2.2 1000000/\∀(i:Nat),i<ae F.2.2.2.2.2.1->ae (nth Ty.str F.2.2.2.2.2.1 i)=64)/\(zr F≠0->((aM.isNil (aI (zr F)))=true->zl F->zm->zo F/\False)/\((aM.isNil (aI (zr F)))=false->zs F))/\(zr F=0->((aM.isNil aM.nil)=true->zl F->zm->zo F/\zk F/\∃(x':zd),(ad x'<=ze/\nq (ab x').1 (ab x').2 (ad x'))/\ze-ad x'<ze-F.1/\(zn F=(↑(ad x'):Int)/\True)/\True/\zb/\((),F.2.1.1,F.2.1.2.1,((dP F.2.2.2).1.1,(dP F.2.2.2).1.2,()),F.2.2.2)=((),(ab x').1.1,(ab x').1.2.1,(ab x').2))/\((aM.isNil aM.nil)=false->zs F)))/\((zj F == [111,112,101,110])=false->zl F->zm->zo F/\(0<=zh F/\zh F<=zn F/\zn F<=(↑ze:Int))/\dD F.2.1/\(True->zl F->zm->zo F/\zk F/\∃(x':zd),(ad x'<=ze/\nq (ab x').1 (ab x').2 (ad x'))/\ze-ad x'<ze-F.1/\(zn F=(↑(ad x'):Int)/\True)/\True/\zb/\((),(zt F).1,(zt F).2.1,F.2.2)=((),(ab x').1.1,(ab x').1.2.1,(ab x').2))))))/\((decide (zh F<(↑ze:Int)))=false->zk F/\(zu F/\vC F.2.2.1.2.1)/\(True->zu F/\(True->True/\True/\((jy (aI (zv F).2.2) == jy (aI (gH (aL F.2.1) s).2))=true->True/\∀G:Bool,((zv F).1=(gH (aL F.2.1) s).1->G=true)->(G=true->((aM.isNil (aI (zv F).2.2))=true->zb)/\((aM.isNil (aI (zv F).2.2))=false->(!(zv F).2.1)=true))/\(G=false->za))/\((jy (aI (zv F).2.2) == jy (aI (gH (aL F.2.1) s).2))=false->za))))))))) (by kernel_rfl) ?_
 dsimp -iota -proj -eta only;refine⟨aa,fun h0=>⟨fun h1=>absurd (show false=true from h1) (by decide),fun h1=>⟨aa,fun E q_0=>iB (fun h2=>rfl) (fun h2 h3=>iL (fun h4=>rfl) (fun h4=>⟨(⟨rfl,(0,IC,jl),⟨Nat.zero_le _,Vq⟩,aa,⟨rfl,aa⟩,aa,rfl,rfl⟩),fun F q_1 h5=>iL (fun h6=>⟨?a,iQ (fun h7=>⟨?b,rfl,?c,fun h8 h9 h10=>⟨?d,?e⟩⟩) (fun h7=>iQ (fun h8=>⟨?f,rfl,?g,fun h9 h10 h11=>⟨?h,?i⟩⟩) (fun h8=>iQ (fun h9=>⟨rfl,⟨q_1.2.nP.vB,q_1.2.nP.sec⟩,⟨fun h10=>⟨fun h11 h12 h13=>⟨?j,(absurd q_1.2.nP.DA ‹_›)⟩,fun h11 h12 h13=>⟨?k,?l⟩⟩,fun h10=>⟨fun h11 h12 h13=>⟨?m,?n⟩,fun h11=>absurd (show true=false from h11) (by decide)⟩⟩⟩) (fun h9 h10 h11=>⟨?o,?p,q_1.2.kept.gK.st,fun h12 h13 h14=>⟨?q,?r⟩⟩)))⟩) (fun h6=>⟨rfl,⟨q_1.2.mJ,q_1.2.nP.Wy⟩,fun h7=>⟨q_1.2.mJ,fun h8=>⟨aa,aa,iQ (fun h9=>⟨aa,fun G q_2=>⟨fun h10=>⟨fun h11=>rfl,fun h11 =>?s⟩,fun h10=>(al ((q_2 (q_1.2.kept.load s).1).symm.trans h10))⟩⟩) (fun h9=>(absurd (congrArg (fun z=>jy (aI z)) (q_1.2.kept.load s).2.1) h9))⟩⟩⟩)⟩))⟩⟩⟩
 case a|b|f|p=>omega
 case c=>
  have hk:F.1+1<=1000:=(by have a:=(q_0 h2).1;have b:=q_1.1;omega);exact⟨q_1.2.kept.gK,q_1.2.nP.Lq (ag (ah hk) (ai _))⟩
 case d|h|j|k|m|o|q=>
  have hk:F.1+1<=1000:=(by have a:=(q_0 h2).1;have b:=q_1.1;omega);simp only[aJ];omega
 case e=>
  have hk:F.1+1<=1000:=(by have a:=(q_0 h2).1;have b:=q_1.1;omega);exact⟨rfl,(F.1+1,F.2.1,(jO F.2.1 F.2.2 _).1),⟨by simp only;omega,(q_1.2.build (ag (ah hk) (ai _)) _).1⟩,by simp only;omega,⟨by simp only;omega,aa⟩,aa,rfl,rfl⟩
 case g=>
  have hk:F.1+1<=1000:=(by have a:=(q_0 h2).1;have b:=q_1.1;omega);exact q_1.2.nP.Lq (ag (ah hk) (ai _))
 case i=>
  have hk:F.1+1<=1000:=(by have a:=(q_0 h2).1;have b:=q_1.1;omega);exact⟨rfl,(F.1+1,F.2.1,(gL F.2.2 _).1),⟨by simp only;omega,(q_1.2.drop (ag (ah hk) (ai _)) _).1⟩,by simp only;omega,⟨by simp only;omega,aa⟩,aa,rfl,rfl⟩
 case l=>
  have hk:F.1+1<=1000:=(by have a:=(q_0 h2).1;have b:=q_1.1;omega);exact⟨rfl,(F.1+1,F.2.1,F.2.2),⟨by simp only;omega,q_1.2.next⟩,by simp only;omega,⟨by simp only;omega,aa⟩,aa,rfl,rfl⟩
 case n=>
  have hk:F.1+1<=1000:=(by have a:=(q_0 h2).1;have b:=q_1.1;omega);exact⟨rfl,(F.1+1,F.2.1,F.2.2),⟨by simp only;omega,q_1.2.next⟩,by simp only;omega,⟨by simp only;omega,aa⟩,aa,rfl,congrArg (fun z=>((),F.2.1.1,F.2.1.2.1,z,F.2.2.2)) q_1.2.nP.again⟩
 case r=>
  have hk:F.1+1<=1000:=(by have a:=(q_0 h2).1;have b:=q_1.1;omega);exact⟨rfl,(F.1+1,js F.2.1 _,F.2.2),⟨by simp only;omega,q_1.2.done _⟩,by simp only;omega,⟨by simp only;omega,aa⟩,aa,rfl,rfl⟩
 case s=>
  have e:=(q_1.2.kept.load s).2.2.2;have e2:=(q_1.2.kept.load s).2.1;cases hk:(kU F.2.1 F.2.2.1.2.1 s).2.1 with
  |false=>rfl
  |true=>exact al ((aQ.2 (e2.trans (e hk))).symm.trans h11)
theorem Tryz.Ol:bT Tryz.prog Tryz.B.eT Tryz.X 12 [.slice dB,.str] [.bool] (fun _=>True) (fun _ y=>y=true):=
 bW (X:=Tryz.X) Tryz.RM Tryz.func12 (by kernel_rfl) (fun _=>[]) (fun x hw hp=>Ok x.1 x.2 hw)
open Go.ChangeShapes Go.WideShapes Go.ChangeAt Go.RowKit in
theorem Tryz.CU{W:World}(hL:laidMetH Tryz.prog af.laid W)(hsh:W.ShapedOpen Tryz.prog):Tryz.WA W:=by
 rw[ao _ _ _ (by kernel_rfl)]at hL;exact⟨IE (g:=1) (t:=242) (e:=23) (n:=20) (by kernel_rfl) (by kernel_rfl) (by kernel_rfl) (by kernel_rfl) (by kernel_rfl) (by kernel_rfl) ((show(Rows.laid_internal_strconv_uint64pow10:DataW Unit)=Lib.tabData .u64 Lib.pow10Tab from by kernel_rfl)▸aj hL (.tail _ (.tail _ (.head _)))),
  ID (g:=0) (t:=3) (zero:=#[.int .i64 0]) hsh (of_decide_eq_true (by kernel_rfl)) (by kernel_rfl) rfl (by kernel_rfl) (by kernel_rfl) (by kernel_rfl),
  uk (g:=4) (t:=36) (by kernel_rfl) (by kernel_rfl) (by kernel_rfl) (aj hL (.tail _ (.tail _ (.tail _ (.tail _ (.tail _ (.head _))))))),
  uk (g:=5) (t:=36) (by kernel_rfl) (by kernel_rfl) (by kernel_rfl) (aj hL (.tail _ (.tail _ (.tail _ (.tail _ (.head _))))))⟩
open Go.ChangeShapes Go.WideShapes Go.ChangeAt Go.RowKit in
set_option maxRecDepth 100000 in
theorem DO(os:Os)(started:os.Started)(H:Type)(enc:TypeId×Value->H) :
  ReturnsInHanded {} Tryz.checked os 12 .any (fun w args=>(ak.pre enc Tryz.prog Tryz.f12 [] false w args/\laidMetH Tryz.prog af.laid w)/\sizedMet enc Tryz.prog Tryz.f12 (OpenSpec.ofChange ak) false w args) (ak.post enc Tryz.prog Tryz.f12 false true false false):=by
 refine Kc (C:=Tryz.checked) (X:=fun w _=>laidMetH Tryz.prog af.laid w) (fun _ _ _ hh h=>h.of_heap hh) (by kernel_rfl) started (by kernel_rfl) Tryz.func12
  (ChangeSpec.witness_shaped (enc:=enc) (C:=Tryz.checked) (os:=os) (X:=fun w _=>laidMetH Tryz.prog af.laid w) false (World.laidAll Tryz.prog os af.laid) #[.slice none 0 0,.string ⟨#[]⟩] 8 (World.laidAll_os _ _ _) (World.shaped_of_ZipB (by kernel_rfl) (by kernel_rfl)) (by kernel_rfl) (by kernel_rfl) (by kernel_rfl)
   (by rw[ao _ _ _ (by kernel_rfl)];exact laidMet_laidAll _ (by kernel_rfl) (by kernel_rfl))) ?_
 intro W base args ds gs before hval hW hL hsh;exact O5 (C:=Tryz.checked) (n:=16) rfl (by kernel_rfl) (fun ds h=>by match ds,h with|[_,_],_=>rfl) (by kernel_rfl) (by kernel_rfl) (by kernel_rfl) (tb:=4) (by kernel_rfl) Tryz.Ol hval hW (Tryz.CU hL hsh) (fun _ _=>trivial)
open Go.ChangeShapes Go.WideShapes Go.ChangeAt Go.RowKit in
theorem Jt:Rows.TopKeptSaid:=
 OpenClaim.holds_of_wide 12 Tryz.f12 rfl rfl rfl rfl rfl rfl rfl ⟨rfl,rfl,rfl,rfl,rfl⟩ rfl rfl rfl rfl rfl (by kernel_rfl) Tryz.func12 (by kernel_rfl)
  (of_decide_eq_true (by kernel_rfl)) (by unfold Func.isWrapper;first|(rw[if_pos (by decide+kernel)];kernel_rfl)|(rw[if_neg (by decide+kernel)];exact⟨rfl,rfl⟩))
  (fun os started H enc _=>DO os started H enc)
theorem topKept_holds:Rows.TopKeptCardSaid:=
 Claim7.holds_tied_plain_at .later [] [.data,.data,.data,.data,.sentinel,.sentinel,.pinned] true (true,"6a9693e68608825ffcfea3137400340b6490202206f494b6fbc4e452f2b457e4") true
  Jt (fun _ h=>by cases h) (by kernel_rfl) (fun _ h=>by cases h) topKept_row_tie rfl ⟨rfl,rfl⟩ (by kernel_rfl) rfl
  (fun f fn hf hfn=>by
   obtain rfl:f=12:=aq ((show Tryz.prog.funcNamed af.func=some 12 by kernel_rfl).symm.trans hf) |>.symm
   obtain rfl:fn=Tryz.f12:=(aq (Tryz.func12.symm.trans hfn)).symm;exact⟨by kernel_rfl,fun j t ht=>by
    have hall:(Tryz.f12.params.toList.all fun t =>!Tryz.prog.wantsStandIn t)=true:=by kernel_rfl
    have hm:t∈Tryz.f12.params.toList:=Array.mem_def.1 (Array.mem_of_getElem? ht);exact(by simpa using List.all_eq_true.1 hall t hm:Tryz.prog.wantsStandIn t=false)⟩)
  (by kernel_rfl)
#print axioms topKept_holds
end Go.Proofs.YtgokjhhcfemnhacGreatDoor

