/- A part of the proof that the law TopDropCard holds of the given program: facts that are used there. -/
import Derived.Test.YtgokjhhcfemnhadGreatDoorPart5
import Derived.Test.YtgokjhhcfemnhadGreatDoorRows
import Derived.Test.YtgokjhhcfemnhadGreatDoorTie
import Derived.Test.YtgokjhhcfemnhadGreatDoorCards
import Derived.LaidMore
set_option linter.unusedSimpArgs false
set_option linter.unusedVariables false
set_option maxRecDepth 100000
set_option maxHeartbeats 4000000
set_option linter.defProp false
noncomputable section
open True renaming intro->aa
open Prod renaming snd->ab,fst->ad
open List renaming length->ae
open Go.Proofs.YtgokjhhcfemnhadGreatDoor.Rows renaming topDropRow->af,topDropSpec->ak
open Nat renaming le_trans->ag,le_of_succ_le->ah,le_refl->ai
open Go.Lib.laidMet renaming reads->aj
open Go.MakeChecks renaming laidMetH_plain->al
open Option.some renaming inj->ao
namespace Go.Proofs.YtgokjhhcfemnhadGreatDoor
open Go.Vg Go.Mrl
def Tryz.CT:List (FuncId×(Bool×aT)):=[(45,Tryz.spZ0),(17,Tryz.spZ1),(29,Tryz.spZ29),(8,Tryz.spZ30),(7,(false,aV [] [] (fun _ _=>True) Tryz.xZ)),(9,(false,gx Tryz.B Tryz.LO Tryz.f9 Tryz.LP)),(11,Tryz.spZ35),(16,Tryz.spZ36),(15,(false,aV Tryz.cG [.obj 0] (fun _ x=>x.2.2.2.1.2.1.length<=1000000) Tryz.vL))]
theorem Tryz.Jp:bO Tryz.prog Tryz.B Tryz.X Tryz.CT:=
 aQ (aE Tryz.jl) (aQ (aE Tryz.im) (aQ (jg Tryz.qT) (aQ (jg Tryz.xY) (aQ (Tryz.Ue) (aQ (eQ Tryz.RG Tryz.func9 (by kernel_rfl) Tryz.LP) (aQ (Tryz.Jl) (aQ (Tryz.Jj) (aQ (Tryz.RE) (bR Tryz.bQ)))))))))
theorem Og(l:List (D dB))(s:List UInt8)(o:List UInt8)(hw:gU [.slice dB,.str,.str] (l,s,o)):(dM Tryz.B Tryz.CT Tryz.f4 [] [.slice dB,.str,.str] [.bool] (fun _ y=>y=true) (l,s,o)).holds:=by
 refine holds_of (p:=
  let za:=false=true
  let zb:=true=true
  let zc:=(iP (qQ 112)).1
  let zd:=Nat×cN×Sh
  let ze:=ae l
  let zf:=(0+1,())
  let zg:=[122,122]
  let zh:=fun(F:Nat×cN×Sh)=>(↑F.1:Int)
  let zi:=fun(F:Nat×cN×Sh)=>0<=zh F/\zh F<(↑ze:Int)
  let zj:=fun(F:Nat×cN×Sh)=>(nth dB l F.1).1
  let zk:=fun(F:Nat×cN×Sh)=>F.2.2.2.2.2.2.1=F.2.2.2.2.2.2.1
  let zl:=fun(F:Nat×cN×Sh)=>aJ (zh F)
  let zm:=aJ 1
  let zn:=fun(F:Nat×cN×Sh)=>zh F+1
  let zo:=fun(F:Nat×cN×Sh)=>aJ (zn F)
  let zp:=fun(F:Nat×cN×Sh)=>(jQ F.2.1 F.2.2 (nth dB l F.1).2.1).1
  let zq:=fun(F:Nat×cN×Sh)=>(dH F.2.2 (nth dB l F.1).2.1).1
  let zr:=fun(F:Nat×cN×Sh)=>(dP F.2.2.2).2
  let zs:=fun(F:Nat×cN×Sh)=>zl F->zm->zo F/\zk F/\∃(x':zd),(ad x'<=ze/\jG (ab x').1 (ab x').2 (ad x'))/\ze-ad x'<ze-F.1/\(zn F=(↑(ad x'):Int)/\True)/\True/\zb/\((),F.2.1.1,F.2.1.2.1,F.2.2)=((),(ab x').1.1,(ab x').1.2.1,(ab x').2)
  let zt:=fun(F:Nat×cN×Sh)=>js F.2.1 (List.drop F.1 (List.take (Int.toNat (zn F)) l))
  let zu:=fun(F:Nat×cN×Sh)=>ae F.2.1.2.1.1<=6
  let zv:=fun(F:Nat×cN×Sh)=>F.2.2.1.2.1
  let zw:=fun(F:Nat×cN×Sh)=>(dH F.2.2 s).1.2.2.2.2.1
  let zx:=fun(F:Nat×cN×Sh)=>zw F=zw F
  let zy:=fun(F:Nat×cN×Sh)=>(dH F.2.2 s).1.1.2.1
  let zz:=fun(F:Nat×cN×Sh)=>ae (fX (zy F))<=aM
  let zaa:=fun(F:Nat×cN×Sh)=>(↑(ae (fX (zy F))):Int)
  let zab:=fun(F:Nat×cN×Sh)=>(↑(ae (fX (zv F))):Int)
  let zac:=fun(F:Nat×cN×Sh) =>!(fJ F.2.1 (zy F) s).2.1
  True/\(True->((!true)=true->za)/\((!true)=false->True/\∀E:Bool,(E=true->rn l 40)->((!E)=true->zb)/\((!E)=false->ae s<=aM->((decide ((↑(ae s):Int) > 20))=true->zb)/\((decide ((↑(ae s):Int) > 20))=false->ae o<=aM->((decide ((↑(ae o):Int) > 20))=true->zb)/\((decide ((↑(ae o):Int) > 20))=false->(zc.2.2.2.1=zc.2.2.2.1/\∃(x':zd),(ad x'<=ze/\jG (ab x').1 (ab x').2 (ad x'))/\True/\(0=(↑(ad x'):Int)/\True)/\True/\zb/\((),zf,(fU cJ (eU cJ (@List.nil FE) zg (AS,zf) 0) zg,mR cJ (@List.nil FE) zg 0,()),(2,[],()),zc)=((),(ab x').1.1,(ab x').1.2.1,(ab x').2))/\∀F:Nat×cN×Sh,F.1<=ze/\jG F.2.1 F.2.2 F.1->ze<=aM->((decide (zh F<(↑ze:Int)))=true->zi F/\((zj F == [98,117,105,108,100])=true->zi F/\zk F/\(gG F.2.1/\vz F.2.2)/\(True->zl F->zm->zo F/\(zp F).2.2.2.2.1=(zp F).2.2.2.2.1/\∃(x':zd),(ad x'<=ze/\jG (ab x').1 (ab x').2 (ad x'))/\ze-ad x'<ze-F.1/\(zn F=(↑(ad x'):Int)/\True)/\True/\zb/\((),F.2.1.1,F.2.1.2.1,zp F)=((),(ab x').1.1,(ab x').1.2.1,(ab x').2)))/\((zj F == [98,117,105,108,100])=false->((zj F == [100,114,111,112])=true->zi F/\zk F/\vz F.2.2/\(True->zl F->zm->zo F/\(zq F).2.2.2.2.1=(zq F).2.2.2.2.1/\∃(x':zd),(ad x'<=ze/\jG (ab x').1 (ab x').2 (ad x'))/\ze-ad x'<ze-F.1/\(zn F=(↑(ad x'):Int)/\True)/\True/\zb/\((),F.2.1.1,F.2.1.2.1,zq F)=((),(ab x').1.1,(ab x').1.2.1,(ab x').2)))/\((zj F == [100,114,111,112])=false->((zj F == [111,112,101,110])=true->zk F/\(dA F.2.2.2 1000000/\∀(i:Nat),i<ae F.2.2.2.2.2.1->ae (nth Ty.str F.2.2.2.2.2.1 i)=64)/\(zr F≠0->((aL.isNil (aI (zr F)))=true->zl F->zm->zo F/\False)/\((aL.isNil (aI (zr F)))=false->zs F))/\(zr F=0->((aL.isNil aL.nil)=true->zl F->zm->zo F/\zk F/\∃(x':zd),(ad x'<=ze/\jG (ab x').1 (ab x').2 (ad x'))/\ze-ad x'<ze-F.1/\(zn F=(↑(ad x'):Int)/\True)/\True/\zb/\((),F.2.1.1,F.2.1.2.1,((dP F.2.2.2).1.1,(dP F.2.2.2).1.2,()),F.2.2.2)=((),(ab x').1.1,(ab x').1.2.1,(ab x').2))/\((aL.isNil aL.nil)=false->zs F)))/\((zj F == [111,112,101,110])=false->zl F->zm->zo F/\(0<=zh F/\zh F<=zn F/\zn F<=(↑ze:Int))/\dD F.2.1/\(True->zl F->zm->zo F/\zk F/\∃(x':zd),(ad x'<=ze/\jG (ab x').1 (ab x').2 (ad x'))/\ze-ad x'<ze-F.1/\(zn F=(↑(ad x'):Int)/\True)/\True/\zb/\((),(zt F).1,(zt F).2.1,F.2.2)=((),(ab x').1.1,(ab x').1.2.1,(ab x').2))))))/\((decide (zh F<(↑ze:Int)))=false->zk F/\(zu F/\sa (zv F))/\(True->zk F/\ae (zv F)<=1000000/\(True->ae (fX (zv F))<=aM->zk F/\vz F.2.2/\(True->zx F/\(zu F/\sa (zy F))/\(True->zx F/\(zu F/\sa (zy F))/\(True->((!aL.isNil (aI (dH F.2.2 s).2))=true->True/\((iA (aI (dH F.2.2 s).2) == 5)=true->zx F/\ae (zy F)<=1000000/\(True->zz F->((zaa F == zab F)=true->zac F=true)/\((zaa F == zab F)=false->za)))/\((iA (aI (dH F.2.2 s).2) == 5)=false->za))/\((!aL.isNil (aI (dH F.2.2 s).2))=false->((zac F)=true->zx F/\ae (zy F)<=1000000/\(True->zz F->aJ (zab F)->zm->aJ (zab F-1)/\((zaa F == zab F-1)=true->True/\True/\((iA (aI (fJ F.2.1 (zv F) o).2.2) == iA (aI (fJ F.2.1 (zy F) o).2.2))=true->((s == o)=true->zb)/\((s == o)=false->((fJ F.2.1 (zv F) o).2.1 == (fJ F.2.1 (zy F) o).2.1)=true))/\((iA (aI (fJ F.2.1 (zv F) o).2.2) == iA (aI (fJ F.2.1 (zy F) o).2.2))=false->za))/\((zaa F == zab F-1)=false->za)))/\((zac F)=false->za)))))))))))))) (by kernel_rfl) ?_
 dsimp -iota -proj -eta only;refine⟨aa,fun h0=>⟨fun h1=>absurd (show false=true from h1) (by decide),fun h1=>⟨aa,fun E q_0=>iB (fun h2=>rfl) (fun h2 h3=>iL (fun h4=>rfl) (fun h4 h5=>iL (fun h6=>rfl) (fun h6=>⟨(⟨rfl,(0,IB,jk),⟨Nat.zero_le _,Vq⟩,aa,⟨rfl,aa⟩,aa,rfl,rfl⟩),fun F q_1 h7=>iL (fun h8=>⟨?a,iQ (fun h9=>⟨?b,rfl,?c,fun h10 h11 h12=>⟨?d,?e⟩⟩) (fun h9=>iQ (fun h10=>⟨?f,rfl,?g,fun h11 h12 h13=>⟨?h,?i⟩⟩) (fun h10=>iQ (fun h11=>⟨rfl,⟨q_1.2.jL.vy,q_1.2.jL.sec⟩,⟨fun h12=>⟨fun h13 h14 h15=>⟨?j,(absurd q_1.2.jL.DB ‹_›)⟩,fun h13 h14 h15=>⟨?k,?l⟩⟩,fun h12=>⟨fun h13 h14 h15=>⟨?m,?n⟩,fun h13=>absurd (show true=false from h13) (by decide)⟩⟩⟩) (fun h11 h12 h13=>⟨?o,?p,q_1.2.kept.gJ.st,fun h14 h15 h16=>⟨?q,?r⟩⟩)))⟩) (fun h8=>⟨rfl,⟨q_1.2.lO,q_1.2.jL.To⟩,fun h9=>⟨rfl,q_1.2.jL.len,fun h10 h11=>⟨rfl,?s,fun h12=>⟨rfl,?t,fun h13=>⟨rfl,?u,fun h14=>iB (fun h15=>⟨aa,iQ (fun h16=>⟨rfl,?v,fun h17 h18=>iQ (fun h19 =>?w) (fun h19 =>?x)⟩) (fun h16 =>?y)⟩) (fun h15=>iB (fun h16=>⟨rfl,?z,fun h17 h18 h19 h20=>⟨(by have hf:=q_1.2.jL.lO;simp only[aJ];rw[xL];omega),iQ (fun h21=>⟨aa,aa,iQ (fun h22=>iQ (fun h23=>rfl) (fun h23 =>?a0)) (fun h22 =>?a1)⟩) (fun h21 =>?a2)⟩⟩) (fun h16 =>?a3))⟩⟩⟩⟩⟩)⟩)))⟩⟩⟩
 case a|b|f|p=>omega
 case c=>
  have hk:F.1+1<=1000:=(by have a:=(q_0 h2).1;have b:=q_1.1;omega);exact⟨q_1.2.kept.gJ,q_1.2.jL.DC (ag (ah hk) (ai _))⟩
 case d|h|j|k|m|o|q=>
  have hk:F.1+1<=1000:=(by have a:=(q_0 h2).1;have b:=q_1.1;omega);simp only[aJ];omega
 case e=>
  have hk:F.1+1<=1000:=(by have a:=(q_0 h2).1;have b:=q_1.1;omega);exact⟨rfl,(F.1+1,F.2.1,(jQ F.2.1 F.2.2 _).1),⟨by simp only;omega,(q_1.2.build (ag (ah hk) (ai _)) _).1⟩,by simp only;omega,⟨by simp only;omega,aa⟩,aa,rfl,rfl⟩
 case g=>
  have hk:F.1+1<=1000:=(by have a:=(q_0 h2).1;have b:=q_1.1;omega);exact q_1.2.jL.DC (ag (ah hk) (ai _))
 case i=>
  have hk:F.1+1<=1000:=(by have a:=(q_0 h2).1;have b:=q_1.1;omega);exact⟨rfl,(F.1+1,F.2.1,(dH F.2.2 _).1),⟨by simp only;omega,(q_1.2.drop (ag (ah hk) (ai _)) _).1⟩,by simp only;omega,⟨by simp only;omega,aa⟩,aa,rfl,rfl⟩
 case l=>
  have hk:F.1+1<=1000:=(by have a:=(q_0 h2).1;have b:=q_1.1;omega);exact⟨rfl,(F.1+1,F.2.1,F.2.2),⟨by simp only;omega,q_1.2.next⟩,by simp only;omega,⟨by simp only;omega,aa⟩,aa,rfl,rfl⟩
 case n=>
  have hk:F.1+1<=1000:=(by have a:=(q_0 h2).1;have b:=q_1.1;omega);exact⟨rfl,(F.1+1,F.2.1,F.2.2),⟨by simp only;omega,q_1.2.next⟩,by simp only;omega,⟨by simp only;omega,aa⟩,aa,rfl,congrArg (fun z=>((),F.2.1.1,F.2.1.2.1,z,F.2.2.2)) q_1.2.jL.again⟩
 case r=>
  have hk:F.1+1<=1000:=(by have a:=(q_0 h2).1;have b:=q_1.1;omega);exact⟨rfl,(F.1+1,js F.2.1 _,F.2.2),⟨by simp only;omega,q_1.2.done _⟩,by simp only;omega,⟨by simp only;omega,aa⟩,aa,rfl,rfl⟩
 case s=>
  have hk:F.1<=1000:=(by have a:=(q_0 h2).1;have b:=q_1.1;omega);exact q_1.2.jL.DC hk
 case t|u=>
  have hk:F.1<=1000:=(by have a:=(q_0 h2).1;have b:=q_1.1;omega);exact⟨q_1.2.lO,(q_1.2.drop hk s).1.jL.To⟩
 case v|z=>
  have hk:F.1<=1000:=(by have a:=(q_0 h2).1;have b:=q_1.1;omega);exact(q_1.2.drop hk s).1.jL.len
 case w=>
  have hk:F.1<=1000:=(by have a:=(q_0 h2).1;have b:=q_1.1;omega);rw[q_1.2.sW hk s];rfl
 case x=>
  have hk:F.1<=1000:=(by have a:=(q_0 h2).1;have b:=q_1.1;omega);exact absurd (congrArg (fun z=>((fX z).length:Int)) (q_1.2.Fg hk (dK h15)).2) h19
 case y=>
  have hk:F.1<=1000:=(by have a:=(q_0 h2).1;have b:=q_1.1;omega);exact absurd ((Tp _).trans (q_1.2.Fg hk (dK h15)).1) h16
 case a0=>
  have hk:F.1<=1000:=(by have a:=(q_0 h2).1;have b:=q_1.1;omega);exact beq_iff_eq.2 (congrArg (fun z=>z.2.1) (q_1.2.vC hk h23)).symm
 case a1=>
  have hk:F.1<=1000:=(by have a:=(q_0 h2).1;have b:=q_1.1;omega);exact absurd (congrArg (fun z=>iA (aI z)) (q_1.2.Tv hk s o).symm) h22
 case a2=>
  have hk:F.1<=1000:=(by have a:=(q_0 h2).1;have b:=q_1.1;omega);exact absurd (q_1.2.A0 hk (aP.1 h15)) h21
 case a3=>
  have hk:F.1<=1000:=(by have a:=(q_0 h2).1;have b:=q_1.1;omega);exact Bool.noConfusion ((q_1.2.sW hk s).symm.trans h16)
theorem Tryz.Oh:bY Tryz.prog Tryz.B.eT Tryz.X 4 [.slice dB,.str,.str] [.bool] (fun _=>True) (fun _ y=>y=true):=
 cF (X:=Tryz.X) Tryz.Jp Tryz.func4 (by kernel_rfl) (fun _=>[]) (fun x hw hp=>Og x.1 x.2.1 x.2.2 hw)
open Go.ChangeShapes Go.WideShapes Go.ChangeAt Go.RowKit in
theorem Tryz.CU{W:World}(hL:laidMetH Tryz.prog af.laid W)(hsh:W.ShapedOpen Tryz.prog):Tryz.WA W:=by
 rw[al _ _ _ (by kernel_rfl)]at hL;exact⟨IE (g:=5) (t:=236) (e:=48) (n:=20) (by kernel_rfl) (by kernel_rfl) (by kernel_rfl) (by kernel_rfl) (by kernel_rfl) (by kernel_rfl) ((show(Rows.laid_internal_strconv_uint64pow10:DataW Unit)=Lib.tabData .u64 Lib.pow10Tab from by kernel_rfl)▸aj hL (.tail _ (.tail _ (.head _)))),
  ID (g:=0) (t:=3) (zero:=#[.int .i64 0]) hsh (of_decide_eq_true (by kernel_rfl)) (by kernel_rfl) rfl (by kernel_rfl) (by kernel_rfl) (by kernel_rfl),
  ui (g:=3) (t:=31) (by kernel_rfl) (by kernel_rfl) (by kernel_rfl) (aj hL (.tail _ (.tail _ (.tail _ (.tail _ (.tail _ (.head _))))))),
  ui (g:=4) (t:=31) (by kernel_rfl) (by kernel_rfl) (by kernel_rfl) (aj hL (.tail _ (.tail _ (.tail _ (.tail _ (.head _))))))⟩
open Go.ChangeShapes Go.WideShapes Go.ChangeAt Go.RowKit in
set_option maxRecDepth 100000 in
theorem DN(os:Os)(started:os.Started)(H:Type)(enc:TypeId×Value->H) :
  ReturnsInHanded {} Tryz.checked os 4 .any (fun w args=>(ak.pre enc Tryz.prog Tryz.f4 [] false w args/\laidMetH Tryz.prog af.laid w)/\sizedMet enc Tryz.prog Tryz.f4 (OpenSpec.ofChange ak) false w args) (ak.post enc Tryz.prog Tryz.f4 false true false false):=by
 refine Kc (C:=Tryz.checked) (X:=fun w _=>laidMetH Tryz.prog af.laid w) (fun _ _ _ hh h=>h.of_heap hh) (by kernel_rfl) started (by kernel_rfl) Tryz.func4
  (ChangeSpec.witness_shaped (enc:=enc) (C:=Tryz.checked) (os:=os) (X:=fun w _=>laidMetH Tryz.prog af.laid w) false (World.laidAll Tryz.prog os af.laid) #[.slice none 0 0,.string ⟨#[]⟩,.string ⟨#[]⟩] 8 (World.laidAll_os _ _ _) (World.shaped_of_ZipB (by kernel_rfl) (by kernel_rfl)) (by kernel_rfl) (by kernel_rfl) (by kernel_rfl)
   (by rw[al _ _ _ (by kernel_rfl)];exact laidMet_laidAll _ (by kernel_rfl) (by kernel_rfl))) ?_
 intro W base args ds gs before hval hW hL hsh;exact O0 (C:=Tryz.checked) (n:=16) rfl (by kernel_rfl) (fun ds h=>by match ds,h with|[_,_,_],_=>rfl) (by kernel_rfl) (by kernel_rfl) (by kernel_rfl) (tb:=4) (by kernel_rfl) Tryz.Oh hval hW (Tryz.CU hL hsh) (fun _ _=>trivial)
open Go.ChangeShapes Go.WideShapes Go.ChangeAt Go.RowKit in
theorem Jq:Rows.TopDropSaid:=
 OpenClaim.holds_of_wide 4 Tryz.f4 rfl rfl rfl rfl rfl rfl rfl ⟨rfl,rfl,rfl,rfl,rfl⟩ rfl rfl rfl rfl rfl (by kernel_rfl) Tryz.func4 (by kernel_rfl)
  (of_decide_eq_true (by kernel_rfl)) (by unfold Func.isWrapper;first|(rw[if_pos (by decide+kernel)];kernel_rfl)|(rw[if_neg (by decide+kernel)];exact⟨rfl,rfl⟩))
  (fun os started H enc _=>DN os started H enc)
theorem topDrop_holds:Rows.TopDropCardSaid:=
 Claim7.holds_tied_plain_at .later [] [.data,.data,.data,.data,.sentinel,.sentinel,.pinned] true (true,"3c5c196b774b4365299062fcc3dd1242738f58e7d9c08bc0263c732c0257cea6") true
  Jq (fun _ h=>by cases h) (by kernel_rfl) (fun _ h=>by cases h) topDrop_row_tie rfl ⟨rfl,rfl⟩ (by kernel_rfl) rfl
  (fun f fn hf hfn=>by
   obtain rfl:f=4:=ao ((show Tryz.prog.funcNamed af.func=some 4 by kernel_rfl).symm.trans hf) |>.symm
   obtain rfl:fn=Tryz.f4:=(ao (Tryz.func4.symm.trans hfn)).symm;exact⟨by kernel_rfl,fun j t ht=>by
    have hall:(Tryz.f4.params.toList.all fun t =>!Tryz.prog.wantsStandIn t)=true:=by kernel_rfl
    have hm:t∈Tryz.f4.params.toList:=Array.mem_def.1 (Array.mem_of_getElem? ht);exact(by simpa using List.all_eq_true.1 hall t hm:Tryz.prog.wantsStandIn t=false)⟩)
  (by kernel_rfl)
#print axioms topDrop_holds
end Go.Proofs.YtgokjhhcfemnhadGreatDoor

