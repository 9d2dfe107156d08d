/- A part of the proof that the law LoaderSaysCard holds of the given program: facts that are used there. -/
import Derived.Test.YtgokjhhcfemnhabGreatDoorPart5
import Derived.Test.YtgokjhhcfemnhabGreatDoorRows
import Derived.Test.YtgokjhhcfemnhabGreatDoorTie
import Derived.Test.YtgokjhhcfemnhabGreatDoorCards
import Derived.LaidMore
set_option linter.unusedSimpArgs false
set_option linter.unusedVariables false
set_option maxRecDepth 100000
set_option maxHeartbeats 4000000
set_option linter.defProp false
noncomputable section
open True renaming intro->au
open Prod renaming snd->av,fst->aw
open List renaming length->ax,nil->az
open Bool renaming noConfusion->ay
open Go.Proofs.YtgokjhhcfemnhabGreatDoor.Rows renaming loaderSaysRow->ba,loaderSaysSpec->bc
open Go.Lib.laidMet renaming reads->bb
open Go.MakeChecks renaming laidMetH_plain->bd
open Option.some renaming inj->bf
namespace Go.Proofs.YtgokjhhcfemnhabGreatDoor
open Go.Vg Go.Mrl
def Tryz.spZ39:Bool×aX:=(true,bX [.slice .str,.slice .str] [.bool] (fun _=>True) (fun x=>lC x.1 x.2))
def Tryz.spZ40:Bool×aX:=(false,aW [] [] (fun _ _=>True) Tryz.vZ)
def Tryz.spZ41:Bool×aX:=(false,aW [] [] (fun _ _=>True) Tryz.Hb)
def Tryz.spZ42:Bool×aX:=(false,aW Tryz.bK [.obj 0,.d .str,.d .str] (fun _ x=>x.2.1.1.length<=6/\0<=x.1.1/\x.1.1<=1000000) Tryz.yB)
def Tryz.spZ43:Bool×aX:=(false,aW Tryz.vk [.obj 0,.obj 2] (fun _ x=>dN x.2.2 1000000/\∀i,i<x.2.2.2.2.1.length->(nth .str x.2.2.2.2.1 i).length=64) Tryz.El)
def Tryz.spZ44:Bool×aX:=(false,aW Tryz.dB [.obj 0,.d .str] (fun _ x=>ig (x.2.1,x.2.2.1,())/\vU x.2.2.2) Tryz.yE)
def Tryz.spZ45:Bool×aX:=(false,aW Tryz.dB [.obj 0,.d .str] (fun _ x=>x.2.2.1.1.length<=6/\vV x.2.2.2.1.2.1) Tryz.Bx)
def Tryz.NO:List (FuncId×(Bool×aX)):=[(49,Tryz.spZ0),(50,Tryz.spZ1),(156,Tryz.spZ2),(83,Tryz.spZ3),(11,Tryz.spZ4),(45,Tryz.spZ37),(23,Tryz.spZ39),(8,Tryz.spZ40),(9,Tryz.spZ41),(12,Tryz.spZ42),(10,Tryz.spZ43),(16,Tryz.spZ44),(20,Tryz.spZ45)]
theorem Tryz.TX:bL Tryz.prog Tryz.B Tryz.X Tryz.NO:=
 aM (aE Tryz.js) (aM (aE Tryz.fI) (aM (aE Tryz.kE) (aM (aE Tryz.jt) (aM (aE Tryz.kG) (aM (aE Tryz.rY) (aM (aE Tryz.Bu) (aM (Tryz.Gg) (aM (Tryz.QK) (aM (Tryz.I7) (aM (Tryz.QW) (aM (Tryz.Jr) (aM (Tryz.Nx) (bJ Tryz.bI)))))))))))))
theorem aaC  (hw:eD [] ()):(cL Tryz.B Tryz.NO Tryz.f6 [] [] [.bool] (fun x y=>y=(fun _=>true) x) ()).holds:=by
 refine holds_of (p:=
  let za:=false=true
  let zb:=(0:Int)<=(0:Int)
  let zc:=(lR (DL (112:Int))).1
  let zd:=zc.2.2.2.1=zc.2.2.2.1
  let ze:=(dP zc).2
  let zf:=[(97:UInt8)]
  let zg:=((0:Int)+(1:Int),())
  let zh:=gG dI (@az FE) zf ([(119:UInt8),111,114,100,32,53,10,98,97,115,101,32,48,32,51,10],zg) (0:Int)
  let zi:=ax zh<=6
  let zj:=(dP zc).1.2
  let zk:=(zg,(zh,pM dI (@az FE) zf (0:Int),()),())
  let zl:=(((dP zc).1.1,zj,()),zc)
  let zm:=jC zk zl zf
  let zn:=zm.1.2.2.2.2.1
  let zo:=(iC zk zj zf).2
  let zp:=iC zk zm.1.1.2.1 zf
  let zq:=(↑(ax zp.1):Int)
  True/\(True->True/\(True->((!true)=true->za)/\((!true)=false->(ax (@az FE)<=6/\zb/\(0:Int)<=(1000000:Int))/\(True->((!aS.isNil (aL (0:Int)))=true->za)/\((!aS.isNil (aL (0:Int)))=false->zd/\(dN zc 1000000/\∀(i:Nat),i<ax zc.2.2.1->ax (nth Ty.str zc.2.2.1 i)=64)/\(ze≠(0:Int)->((!aS.isNil (aL ze))=true->za)/\((!aS.isNil (aL ze))=false->za))/\(ze=(0:Int)->((!aS.isNil aS.nil)=true->za)/\((!aS.isNil aS.nil)=false->zd/\(zi/\vV zj)/\(True->zd/\(ig zk/\vU zl)/\(True->zn=zn/\(zi/\vV zm.1.1.2.1)/\(True->((!zo.1)=true->((zp.2.1)=true->True/\((fJ (aL zo.2) (0:Int))=true->True/\((fJ (aL zm.2) (0:Int))=true->True/\((fJ (aL zp.2.2) (0:Int))=true->ax zp.1<=aI->((zq == (1:Int))=true->(zb/\(0:Int)<zq)/\True/\mR (nth cE zp.1 0).2.2.1 [(3:Int)]=true)/\((zq == (1:Int))=false->za))/\((fJ (aL zp.2.2) (0:Int))=false->za))/\((fJ (aL zm.2) (0:Int))=false->za))/\((fJ (aL zo.2) (0:Int))=false->za))/\((zp.2.1)=false->za))/\((!zo.1)=false->za)))))))))))) (by kernel_rfl) ?_
 dsimp -iota -proj -eta only;refine⟨au,fun h0=>⟨au,fun h1=>⟨fun h2=>absurd (show false=true from h2) (by decide),fun h2=>⟨(by trivial),fun h3=>⟨fun h4=>absurd (show false=true from h4) (by decide),fun h4=>⟨rfl,⟨gL.vh,gL.sec⟩,⟨fun h5=>iB (fun h6 =>?a) (fun h6 =>?b),fun h5=>⟨fun h6=>absurd (show false=true from h6) (by decide),fun h6=>⟨rfl,⟨qz.st.pre.1,qh.ZG⟩,fun h7=>⟨rfl,⟨qz,qh.Qt (by decide)⟩,fun h8=>⟨rfl,⟨qz.st.pre.1,G2.2.ZG⟩,fun h9=>iB (fun h10=>⟨fun h11=>⟨au,⟨fun h12=>⟨au,⟨fun h13=>⟨au,⟨fun h14 h15=>iQ (fun h16=>⟨(by omega),au,((congrArg (fun z:List (D cE)×Bool×Int=>mR (nth cE z.1 0).2.2.1 [3]) B9).trans rfl)⟩) (fun h16=>(absurd (congrArg (fun z:List (D cE)×Bool×Int=>(z.1.length:Int)) B9) h16)),fun h14=>(ay ((congrArg (fun z:List (D cE)×Bool×Int=>fJ (aL z.2.2) 0) B9).symm.trans h14))⟩⟩,fun h13=>(ay ((congrArg (fun z:Int=>fJ (aL z) 0) G2.1).symm.trans h13))⟩⟩,fun h12=>(ay ((congrArg (fun z:List (D cE)×Bool×Int=>fJ (aL z.2.2) 0) MI).symm.trans h12))⟩⟩,fun h11=>(ay ((congrArg (fun z:List (D cE)×Bool×Int=>z.2.1) B9).symm.trans h11))⟩) (fun h10=>(ay ((congrArg (fun z:List (D cE)×Bool×Int=>z.2.1) MI).symm.trans h10)))⟩⟩⟩⟩⟩⟩⟩⟩⟩⟩⟩
 case a|b=>exact absurd gL.B8 h5
theorem Tryz.aaD:bO Tryz.prog Tryz.B.eT Tryz.X 6 [] [.bool] (fun _=>True) (fun x y=>y=(fun _=>true) x):=
 bP (X:=Tryz.X) Tryz.TX Tryz.func6 (by kernel_rfl) (fun _=>[]) (fun x hw hp=>aaC  hw)
@[reducible] def Tryz.acq:List Ob:=Tryz.dB++[.box 39 [.d (.slice dF),.d (.int .i64)],.box 43 [.d (.slice aB)]]
def Tryz.Gm:List (FuncId×(Bool×aX)):=[(49,Tryz.spZ0),(50,Tryz.spZ1),(156,Tryz.spZ2),(83,Tryz.spZ3),(11,Tryz.spZ4),(27,Tryz.spZ38),(7,(true,qq [.slice jI,.int .i64] [.bool] (fun _=>True) (fun x y=>y=true->tz x.1 x.2))),(45,Tryz.spZ37),(23,Tryz.spZ39),(6,(true,bX [] [.bool] (fun _=>True) (fun _=>true))),(8,Tryz.spZ40),(9,Tryz.spZ41),(12,Tryz.spZ42),(14,(false,aW Tryz.bK [.obj 0,.d .str] (fun _ _=>True) Tryz.v7)),(10,Tryz.spZ43),(16,Tryz.spZ44),(18,(false,aW Tryz.dB [.obj 0,.d .str] (fun _ x=>vU x.2.2.2) Tryz.Bw)),(20,Tryz.spZ45),(24,(false,aW Tryz.dB [.obj 0] (fun _ x=>x.2.2.2.1.2.1.length<=1000000) Tryz.yF)),(13,(false,aW Tryz.bW [.obj 0,.d .str,.d .str] (fun _ x=>x.1.1.length<=6/\0<=x.1.2.1/\x.1.2.1<=1000000) Tryz.yI)),(15,(false,aW Tryz.bW [.obj 0,.d .str] (fun _ x=>x.1.1.length<=6) Tryz.wa)),(17,(false,aW Tryz.jW [.obj 0,.obj 1,.d .str] (fun _ x=>x.1.1.length<=1000000/\x.2.1.1.length<=6) Tryz.yL)),(19,(false,aW Tryz.gw [.obj 0,.d .str] (fun _ x=>x.1.1.length<=1000000) Tryz.By)),(21,(false,aW Tryz.jW [.obj 0,.obj 1,.d .str] (fun _ x=>x.2.1.1.length<=6) Tryz.Hh)),(25,(false,aW Tryz.gw [.obj 0] (fun _ x=>x.1.1.length<=1000000) Tryz.yG)),(22,(true,qq [.slice cE,.slice cE] [.bool] (fun _=>True) (fun x y=>x.1=x.2->y=true)))]
theorem Tryz.NP:bL Tryz.prog Tryz.B Tryz.X Tryz.Gm:=
 aM (aE Tryz.js) (aM (aE Tryz.fI) (aM (aE Tryz.kE) (aM (aE Tryz.jt) (aM (aE Tryz.kG) (aM (ju Tryz.zA) (aM (ju Tryz.NN) (aM (aE Tryz.rY) (aM (aE Tryz.Bu) (aM (aE Tryz.aaD) (aM (Tryz.Gg) (aM (Tryz.QK) (aM (Tryz.I7) (aM (Tryz.Tt) (aM (Tryz.QW) (aM (Tryz.Jr) (aM (Tryz.aav) (aM (Tryz.Nx) (aM (Tryz.Xv) (aM (Tryz.XE) (aM (Tryz.TS) (aM (Tryz.XT) (aM (Tryz.aay) (aM (Tryz.XW) (aM (Tryz.XC) (aM (ju Tryz.NK) (bJ Tryz.bI))))))))))))))))))))))))))
def Tryz.Gn(l:List (D jI)):cU:=[
 (200000,fun st=>{X:=Nat×cY×RS×Sh,inv:=fun x=>x.1<=ax l/\gu x.2.1 x.2.2.1 x.2.2.2 x.1,bF:=fun x=>ax l-x.1,aY:=fun x=>[(11,sI x.1)],keep:=[0,4,6,9,10],aU:=Tryz.acq,refs:=[(4,4),(6,1),(7,0),(9,8),(10,9)],pd:=fun x=>((),x.2.1.1,x.2.1.2.1,x.2.2.2.1,x.2.2.2.2.1,x.2.2.2.2.2.1,x.2.2.2.2.2.2.1,x.2.2.2.2.2.2.2.1,x.2.2.1,(x.2.2.2.1.2.1,()),())})]
theorem J0(l:List (D jI))(hw:eD [.slice jI] l):(cL Tryz.B Tryz.Gm Tryz.f3 (Tryz.Gn l) [.slice jI] [.bool] (fun _ y=>y=true) l).holds:=by
 refine holds_of (p:=
  let za:=true=true
  let zb:=false=true
  let zc:=(lR (DL (112:Int))).1
  let zd:=zc.2.2.2.1
  let ze:=zc.2.2.1
  let zf:=(dP zc).2
  let zg:=!aS.isNil aS.nil
  let zh:=Nat×cY×RS×Sh
  let zi:=ax l
  let zj:=@az (List UInt8×List (List UInt8×Int×Int×Unit)×List (Int×Int×Int×Unit)×Unit)=@az (List UInt8×List (List UInt8×Int×Int×Unit)×List (Int×Int×Int×Unit)×Unit)
  let zk:=C.ref 1 0
  let zl:=zj/\@az (List UInt8×List UInt8×Int×Unit)=@az (List UInt8×List UInt8×Int×Unit)/\(zk=zk/\(2:Int)=(2:Int)/\zj/\True)/\True
  let zm:=!false
  let zn:=(zm&&(zm&&(zm&&true)))=true
  let zo:=((0:Int),())
  let zp:=fun(F:Nat×cY×RS×Sh)=>(↑F.1:Int)<(↑zi:Int)
  let zq:=fun(F:Nat×cY×RS×Sh)=>(nth jI l F.1).1
  let zr:=fun(F:Nat×cY×RS×Sh)=>ax F.2.1.2.1.1<=6
  let zs:=fun(F:Nat×cY×RS×Sh)=>ax F.2.2.1.1<=6
  let zt:=fun(F:Nat×cY×RS×Sh)=>(nth jI l F.1).2.1
  let zu:=fun(F:Nat×cY×RS×Sh)=>cW F.2.1 (zt F) (nth jI l F.1).2.2.1
  let zv:=fun(F:Nat×cY×RS×Sh)=>jk F.2.2.1 (zt F) (nth jI l F.1).2.2.1
  let zw:=fun(F:Nat×cY×RS×Sh)=>F.2.2.2.2.2.2.2.1
  let zx:=fun(F:Nat×cY×RS×Sh)=>zw F=zw F
  let zy:=fun(F:Nat×cY×RS×Sh)=>F.2.2.2.1.2.1
  let zz:=fun(F:Nat×cY×RS×Sh)=>ax (zy F)<=1000000
  let zaa:=fun(F:Nat×cY×RS×Sh) =>!lC (dH (zy F)) (dH (zy F))
  let zab:=fun(F:Nat×cY×RS×Sh)=>aF (↑F.1:Int)
  let zac:=aF (1:Int)
  let zad:=fun(F:Nat×cY×RS×Sh)=>(↑F.1:Int)+(1:Int)
  let zae:=fun(F:Nat×cY×RS×Sh)=>aF (zad F)
  let zaf:=fun(F:Nat×cY×RS×Sh)=>zi-F.1
  let zag:=fun(F:Nat×cY×RS×Sh)=>F.2.2.2.2.2.2.1
  let zah:=fun(F:Nat×cY×RS×Sh)=>(F.2.2.2.1.2,())
  let zai:=fun(F:Nat×cY×RS×Sh)=>(zr F/\(0:Int)<=F.2.1.1.1/\F.2.1.1.1<=(1000000:Int))/\(True->(zs F/\(0:Int)<=F.2.2.1.2.1/\F.2.2.1.2.1<=(1000000:Int))/\(True->True/\((!fJ (aL (zu F).2) (zv F).2)=true->zb)/\((!fJ (aL (zu F).2) (zv F).2)=false->zx F/\zz F/\(True->zz F/\(True->True/\((zaa F)=true->zb)/\((zaa F)=false->zab F->zac->zae F/\zx F/\∃(x':zh),(aw x'<=zi/\gu (av x').1 (av x').2.1 (av x').2.2 (aw x'))/\zi-aw x'<zaf F/\(zad F=(↑(aw x'):Int)/\True)/\zl/\zn/\((),(zu F).1.1,(zu F).1.2.1,F.2.2.2.1,F.2.2.2.2.1,F.2.2.2.2.2.1,zag F,zw F,(zv F).1,zah F)=((),(av x').1.1,(av x').1.2.1,(av x').2.2.1,(av x').2.2.2.1,(av x').2.2.2.2.1,(av x').2.2.2.2.2.1,(av x').2.2.2.2.2.2.1,(av x').2.1,(av x').2.2.1.2,())))))))
  let zaj:=fun(F:Nat×cY×RS×Sh)=>jC F.2.1 F.2.2.2 (zt F)
  let zak:=fun(F:Nat×cY×RS×Sh)=>bU F.2.2.1.1
  let zal:=fun(F:Nat×cY×RS×Sh)=>(zaj F).1.2.2.2.2.1
  let zam:=fun(F:Nat×cY×RS×Sh)=>(kY (zak F) (zy F) (zt F)).1
  let zan:=fun(F:Nat×cY×RS×Sh)=>(ir F.2.2.2 (zt F)).1.2
  let zao:=fun(F:Nat×cY×RS×Sh)=>(zan F).2.2.2.1=(zan F).2.2.2.1
  let zap:=fun(F:Nat×cY×RS×Sh)=>(ir F.2.2.2 (zt F)).1.1
  let zaq:=fun(F:Nat×cY×RS×Sh)=>(jo (zy F) (zt F)).1
  let zar:=fun(F:Nat×cY×RS×Sh)=>(dP F.2.2.2.2).2
  let zas:=fun(F:Nat×cY×RS×Sh)=>(dP F.2.2.2.2).1.2
  let zat:=fun(F:Nat×cY×RS×Sh)=>(F.2.2.2.2.1,F.2.2.2.2.2.1,zag F,zw F,F.2.2.1,zah F)
  let zau:=fun(F:Nat×cY×RS×Sh)=>(iC F.2.1 (zy F) (zt F)).2
  let zav:=fun(F:Nat×cY×RS×Sh)=>zx F/\zz F/\(True->zz F/\(True->True/\((zaa F)=true->zb)/\((zaa F)=false->zab F->zac->zae F/\zx F/\∃(x':zh),(aw x'<=zi/\gu (av x').1 (av x').2.1 (av x').2.2 (aw x'))/\zi-aw x'<zaf F/\(zad F=(↑(aw x'):Int)/\True)/\zl/\zn/\((),F.2.1.1,F.2.1.2.1,F.2.2.2.1,zat F)=((),(av x').1.1,(av x').1.2.1,(av x').2.2.1,(av x').2.2.2.1,(av x').2.2.2.2.1,(av x').2.2.2.2.2.1,(av x').2.2.2.2.2.2.1,(av x').2.1,(av x').2.2.1.2,()))))
  True/\((!true)=true->za)/\((!true)=false->True/\∀E:Bool,(E=true->tz l (40:Int))->((!E)=true->za)/\((!E)=false->True/\(True->True/\(True->((!true)=true->zb)/\((!true)=false->zd=zd/\(dN zc 1000000/\∀(i:Nat),i<ax ze->ax (nth Ty.str ze i)=64)/\(zf≠(0:Int)->((!aS.isNil (aL zf))=true->zb)/\((!aS.isNil (aL zf))=false->zb))/\(zf=(0:Int)->(zg=true->zb)/\(zg=false->(zd=zd/\∃(x':zh),(aw x'<=zi/\gu (av x').1 (av x').2.1 (av x').2.2 (aw x'))/\True/\((0:Int)=(↑(aw x'):Int)/\True)/\zl/\zn/\((),zo,([],zo),((dP zc).1.1,(dP zc).1.2,()),zc.1,zc.2.1,ze,zd,([],zo),([],()),())=((),(av x').1.1,(av x').1.2.1,(av x').2.2.1,(av x').2.2.2.1,(av x').2.2.2.2.1,(av x').2.2.2.2.2.1,(av x').2.2.2.2.2.2.1,(av x').2.1,(av x').2.2.1.2,()))/\∀F:Nat×cY×RS×Sh,F.1<=zi/\gu F.2.1 F.2.2.1 F.2.2.2 F.1->zi<=aI->((decide (zp F))=true->((0:Int)<=(↑F.1:Int)/\zp F)/\((zq F == [(119:UInt8),114,105,116,101])=true->(fun a0 a1:Prop=>a0/\a1/\a0/\a0) (zai F) ((fun a0:Prop=>a0/\a0) (zai F)))/\((zq F == [(119:UInt8),114,105,116,101])=false->((zq F == [(114:UInt8),101,109,111,118,101])=true->(fun a0:Prop=>a0/\a0) (True/\(True->zs F/\(True->True/\((!fJ (aL (eP F.2.1 (zt F)).2) (jg F.2.2.1 (zt F)).2)=true->zb)/\((!fJ (aL (eP F.2.1 (zt F)).2) (jg F.2.2.1 (zt F)).2)=false->zx F/\zz F/\(True->zz F/\(True->True/\((zaa F)=true->zb)/\((zaa F)=false->zab F->zac->zae F/\zx F/\∃(x':zh),(aw x'<=zi/\gu (av x').1 (av x').2.1 (av x').2.2 (aw x'))/\zi-aw x'<zaf F/\(zad F=(↑(aw x'):Int)/\True)/\zl/\zn/\((),(eP F.2.1 (zt F)).1.1,(eP F.2.1 (zt F)).1.2.1,F.2.2.2.1,F.2.2.2.2.1,F.2.2.2.2.2.1,zag F,zw F,(jg F.2.2.1 (zt F)).1,zah F)=((),(av x').1.1,(av x').1.2.1,(av x').2.2.1,(av x').2.2.2.1,(av x').2.2.2.2.1,(av x').2.2.2.2.2.1,(av x').2.2.2.2.2.2.1,(av x').2.1,(av x').2.2.1.2,())))))))))/\((zq F == [(114:UInt8),101,109,111,118,101])=false->((zq F == [(98:UInt8),117,105,108,100])=true->(fun a0:Prop=>a0/\a0) (zx F/\(ig F.2.1/\vU F.2.2.2)/\(True->(zz F/\zs F)/\(True->True/\((!fJ (aL (zaj F).2) (kY (zak F) (zy F) (zt F)).2)=true->zb)/\((!fJ (aL (zaj F).2) (kY (zak F) (zy F) (zt F)).2)=false->zal F=zal F/\ax (zaj F).1.1.2.1<=1000000/\(True->ax (zam F)<=1000000/\(True->True/\((!lC (dH (zaj F).1.1.2.1) (dH (zam F)))=true->zb)/\((!lC (dH (zaj F).1.1.2.1) (dH (zam F)))=false->zab F->zac->zae F/\zal F=zal F/\∃(x':zh),(aw x'<=zi/\gu (av x').1 (av x').2.1 (av x').2.2 (aw x'))/\zi-aw x'<zaf F/\(zad F=(↑(aw x'):Int)/\True)/\zl/\zn/\((),F.2.1.1,F.2.1.2.1,(zaj F).1.1,(zaj F).1.2.1,(zaj F).1.2.2.1,(zaj F).1.2.2.2.1,zal F,F.2.2.1,(zam F,()),())=((),(av x').1.1,(av x').1.2.1,(av x').2.2.1,(av x').2.2.2.1,(av x').2.2.2.2.1,(av x').2.2.2.2.2.1,(av x').2.2.2.2.2.2.1,(av x').2.1,(av x').2.2.1.2,())))))))))/\((zq F == [(98:UInt8),117,105,108,100])=false->((zq F == [(100:UInt8),114,111,112])=true->(fun a0:Prop=>a0/\a0) (zx F/\vU F.2.2.2/\(True->zz F/\(True->True/\((!fJ (aL (ir F.2.2.2 (zt F)).2) (jo (zy F) (zt F)).2)=true->zb)/\((!fJ (aL (ir F.2.2.2 (zt F)).2) (jo (zy F) (zt F)).2)=false->zao F/\ax (zap F).2.1<=1000000/\(True->ax (zaq F)<=1000000/\(True->True/\((!lC (dH (zap F).2.1) (dH (zaq F)))=true->zb)/\((!lC (dH (zap F).2.1) (dH (zaq F)))=false->zab F->zac->zae F/\zao F/\∃(x':zh),(aw x'<=zi/\gu (av x').1 (av x').2.1 (av x').2.2 (aw x'))/\zi-aw x'<zaf F/\(zad F=(↑(aw x'):Int)/\True)/\zl/\zn/\((),F.2.1.1,F.2.1.2.1,zap F,(zan F).1,(zan F).2.1,(zan F).2.2.1,(zan F).2.2.2.1,F.2.2.1,(zaq F,()),())=((),(av x').1.1,(av x').1.2.1,(av x').2.2.1,(av x').2.2.2.1,(av x').2.2.2.2.1,(av x').2.2.2.2.2.1,(av x').2.2.2.2.2.2.1,(av x').2.1,(av x').2.2.1.2,())))))))))/\((zq F == [(100:UInt8),114,111,112])=false->((zq F == [(111:UInt8),112,101,110])=true->zx F/\(dN F.2.2.2.2 1000000/\∀(i:Nat),i<ax (zag F)->ax (nth Ty.str (zag F) i)=64)/\(zar F≠(0:Int)->((!aS.isNil (aL (zar F)))=true->zb)/\((!aS.isNil (aL (zar F)))=false->zb))/\(zar F=(0:Int)->(zg=true->zb)/\(zg=false->zx F/\ax (zas F)<=1000000/\(True->zz F/\(True->True/\((!lC (dH (zas F)) (dH (zy F)))=true->zb)/\((!lC (dH (zas F)) (dH (zy F)))=false->zab F->zac->zae F/\zx F/\∃(x':zh),(aw x'<=zi/\gu (av x').1 (av x').2.1 (av x').2.2 (aw x'))/\zi-aw x'<zaf F/\(zad F=(↑(aw x'):Int)/\True)/\zl/\zn/\((),F.2.1.1,F.2.1.2.1,((dP F.2.2.2.2).1.1,zas F,()),zat F)=((),(av x').1.1,(av x').1.2.1,(av x').2.2.1,(av x').2.2.2.1,(av x').2.2.2.2.1,(av x').2.2.2.2.2.1,(av x').2.2.2.2.2.2.1,(av x').2.1,(av x').2.2.1.2,())))))))/\((zq F == [(111:UInt8),112,101,110])=false->zx F/\(zr F/\vV (zy F))/\(True->zs F/\(True->True/\((fJ (aL (zau F).2) (cI (zak F) (zt F)).2)=true->True/\∀G:Bool,((iC F.2.1 (zy F) (zt F)).1=(cI (zak F) (zt F)).1->G=true)->(G=true->(((dA (zy F) (zt F)).2&&eG (zak F) (dA (zy F) (zt F)).1)=true->((!(zau F).1 == ((cI (zak F) (zt F)).2 == (0:Int)))=true->zb)/\((!(zau F).1 == ((cI (zak F) (zt F)).2 == (0:Int)))=false->zav F))/\(((dA (zy F) (zt F)).2&&eG (zak F) (dA (zy F) (zt F)).1)=false->((!(zau F).1 == false)=true->zb)/\((!(zau F).1 == false)=false->zav F)))/\(G=false->zb))/\((fJ (aL (zau F).2) (cI (zak F) (zt F)).2)=false->zb)))))))))/\((decide (zp F))=false->za))))))))) (by kernel_rfl) ?_
 dsimp -iota -proj -eta only;refine⟨au,⟨fun h0=>absurd (show false=true from h0) (by decide),fun h0=>⟨au,fun E q_0=>iB (fun h1=>rfl) (fun h1=>⟨au,fun h2=>⟨au,fun h3=>⟨fun h4=>absurd (show false=true from h4) (by decide),fun h4=>⟨rfl,⟨gL.vh,gL.sec⟩,⟨fun h5=>iB (fun h6 =>?a) (fun h6 =>?b),fun h5=>⟨fun h6=>absurd (show false=true from h6) (by decide),fun h6=>⟨(⟨rfl,(0,oE,([],0,()),kD),⟨Nat.zero_le _,ZH⟩,au,⟨rfl,au⟩,⟨rfl,rfl,⟨rfl,rfl,rfl,au⟩,au⟩,rfl,congrArg (fun z=>((),oE.1,oE.2.1,z,kD.2.1,kD.2.2.1,kD.2.2.2.1,kD.2.2.2.2.1,(([],0,()):RS),(([]:List (D aB)),()),())) gL.again⟩),fun F q_1 h7=>iL (fun h8=>⟨(by omega),iQ (fun h9=>(show ∀{a0 a1:Prop},a0->a1->a0/\a1/\a0/\a0 from fun g0 g1=>⟨g0,g1,g0,g0⟩) (⟨?c,fun h10=>⟨?d,fun h11=>⟨au,iB (fun h12 =>?e) (fun h12=>⟨rfl,?f,fun h13=>⟨?g,fun h14=>⟨au,iB (fun h15 =>?h) (fun h15 h16 h17=>⟨?i,?j⟩)⟩⟩⟩)⟩⟩⟩) ((show ∀{a0:Prop},a0->a0/\a0 from fun g0=>⟨g0,g0⟩) (⟨?k,fun h10=>⟨?l,fun h11=>⟨au,iB (fun h12 =>?m) (fun h12=>⟨rfl,?n,fun h13=>⟨?o,fun h14=>⟨au,iB (fun h15 =>?p) (fun h15 h16 h17=>⟨?q,?r⟩)⟩⟩⟩)⟩⟩⟩))) (fun h9=>iQ (fun h10=>(show ∀{a0:Prop},a0->a0/\a0 from fun g0=>⟨g0,g0⟩) (⟨au,fun h11=>⟨?s,fun h12=>⟨au,iB (fun h13=>(ay ((q_1.2.files.abo _).symm.trans h13))) (fun h13=>⟨rfl,?t,fun h14=>⟨?u,fun h15=>⟨au,iB (fun h16=>(ay ((rX rfl).symm.trans h16))) (fun h16 h17 h18=>⟨?v,(by exact⟨rfl,(F.1+1,(eP F.2.1 _).1,(jg F.2.2.1 _).1,F.2.2.2),⟨by simp only;omega,q_1.2.remove _⟩,by simp only;omega,⟨by simp only;omega,au⟩,⟨rfl,rfl,⟨rfl,rfl,rfl,au⟩,au⟩,rfl,rfl⟩)⟩)⟩⟩⟩)⟩⟩⟩)) (fun h10=>iQ (fun h11=>(show ∀{a0:Prop},a0->a0/\a0 from fun g0=>⟨g0,g0⟩) (⟨rfl,?w,fun h12=>⟨⟨q_1.2.kR.len,q_1.2.files.YN⟩,fun h13=>⟨au,iB (fun h14 =>?x) (fun h14=>⟨rfl,?y,fun h15=>⟨?z,fun h16=>⟨au,iB (fun h17 =>?a0) (fun h17 h18 h19=>⟨?a1,?a2⟩)⟩⟩⟩)⟩⟩⟩)) (fun h11=>iQ (fun h12=>(show ∀{a0:Prop},a0->a0/\a0 from fun g0=>⟨g0,g0⟩) (⟨rfl,?a3,fun h13=>⟨?a4,fun h14=>⟨au,iB (fun h15 =>?a5) (fun h15=>⟨rfl,?a6,fun h16=>⟨?a7,fun h17=>⟨au,iB (fun h18 =>?a8) (fun h18 h19 h20=>⟨?a9,?aa⟩)⟩⟩⟩)⟩⟩⟩)) (fun h12=>iQ (fun h13=>⟨rfl,⟨q_1.2.kR.vh,q_1.2.kR.sec⟩,⟨fun h14=>iB (fun h15 =>?ab) (fun h15 =>?ac),fun h14=>⟨fun h15=>absurd (show false=true from h15) (by decide),fun h15=>⟨rfl,q_1.2.kR.Ss,fun h16=>⟨?ad,fun h17=>⟨au,iB (fun h18=>(ay ((rX (congrArg dH q_1.2.kR.aa1)).symm.trans h18))) (fun h18 h19 h20=>⟨?ae,(by exact⟨rfl,(F.1+1,F.2.1,F.2.2.1,F.2.2.2),⟨by simp only;omega,q_1.2.next⟩,by simp only;omega,⟨by simp only;omega,au⟩,⟨rfl,rfl,⟨rfl,rfl,rfl,au⟩,au⟩,rfl,congrArg (fun z=>((),_,_,z,_,_,_,_,_,_,())) q_1.2.kR.again⟩)⟩)⟩⟩⟩⟩⟩⟩) (fun h13=>⟨rfl,⟨q_1.2.files.len,q_1.2.kR.ZG⟩,fun h14=>⟨?af,fun h15=>⟨au,⟨fun h16=>⟨au,fun G q_2=>⟨fun h17=>⟨fun h18=>⟨fun h19 =>?ag,fun h19=>⟨rfl,?ah,fun h20=>⟨?ai,fun h21=>⟨au,iB (fun h22 =>?aj) (fun h22 h23 h24=>⟨?ak,?al⟩)⟩⟩⟩⟩,fun h18=>⟨fun h19 =>?am,fun h19=>⟨rfl,?an,fun h20=>⟨?ao,fun h21=>⟨au,iB (fun h22 =>?ap) (fun h22 h23 h24=>⟨?aq,?ar⟩)⟩⟩⟩⟩⟩,fun h17=>(ay ((q_2 (q_1.2.load _).1).symm.trans h17))⟩⟩,fun h16=>(ay ((q_1.2.adT _).symm.trans h16))⟩⟩⟩⟩)))))⟩) (fun h8=>rfl)⟩⟩⟩⟩⟩⟩⟩)⟩⟩⟩
 case a|b=>exact absurd gL.B8 h5
 case c|k=>exact q_1.2.files.pre
 case d|l=>exact q_1.2.files.ad7
 case e|m=>exact ay ((q_1.2.files.acU _ _).symm.trans h12)
 case f|g|n|o|t|u|a4|ad=>exact q_1.2.kR.len
 case h|p=>exact ay ((rX rfl).symm.trans h15)
 case i|q|v|a1|a9|ae=>
  have hk:F.1<=1000:=(by have a:=(q_0 h1).1;have b:=q_1.1;omega);simp only[aF];omega
 case j|r=>exact⟨rfl,(F.1+1,(cW F.2.1 _ _).1,(jk F.2.2.1 _ _).1,F.2.2.2),⟨by simp only;omega,q_1.2.write _ _⟩,by simp only;omega,⟨by simp only;omega,au⟩,⟨rfl,rfl,⟨rfl,rfl,rfl,au⟩,au⟩,rfl,rfl⟩
 case s|af=>exact q_1.2.files.YN
 case w=>
  have hk:F.1<=1000:=(by have a:=(q_0 h1).1;have b:=q_1.1;omega);exact⟨q_1.2.kept.iV,q_1.2.adg hk⟩
 case x=>
  have hk:F.1<=1000:=(by have a:=(q_0 h1).1;have b:=q_1.1;omega);exact ay ((q_1.2.adh hk _).symm.trans h14)
 case y=>
  have hk:F.1<=1000:=(by have a:=(q_0 h1).1;have b:=q_1.1;omega);exact(q_1.2.build hk _).2.2.kR.len
 case z=>
  have hk:F.1<=1000:=(by have a:=(q_0 h1).1;have b:=q_1.1;omega);rw[<-(q_1.2.build hk _).2.1];exact(q_1.2.build hk _).2.2.kR.len
 case a0=>
  have hk:F.1<=1000:=(by have a:=(q_0 h1).1;have b:=q_1.1;omega);exact ay ((rX (congrArg dH (q_1.2.build hk _).2.1)).symm.trans h17)
 case a2=>
  have hk:F.1<=1000:=(by have a:=(q_0 h1).1;have b:=q_1.1;omega);exact⟨rfl,(F.1+1,F.2.1,F.2.2.1,(jC F.2.1 F.2.2.2 _).1),⟨by simp only;omega,(q_1.2.build hk _).2.2⟩,by simp only;omega,⟨by simp only;omega,au⟩,⟨rfl,rfl,⟨rfl,rfl,rfl,au⟩,au⟩,rfl,congrArg (fun z=>((),_,_,_,_,_,_,_,_,(z,()),())) (q_1.2.build hk _).2.1.symm⟩
 case a3=>
  have hk:F.1<=1000:=(by have a:=(q_0 h1).1;have b:=q_1.1;omega);exact q_1.2.adg hk
 case a5=>
  have hk:F.1<=1000:=(by have a:=(q_0 h1).1;have b:=q_1.1;omega);exact ay ((q_1.2.kR.adS hk _).symm.trans h15)
 case a6=>
  have hk:F.1<=1000:=(by have a:=(q_0 h1).1;have b:=q_1.1;omega);exact(q_1.2.drop hk _).2.2.kR.len
 case a7=>
  have hk:F.1<=1000:=(by have a:=(q_0 h1).1;have b:=q_1.1;omega);rw[<-(q_1.2.drop hk _).2.1];exact(q_1.2.drop hk _).2.2.kR.len
 case a8=>
  have hk:F.1<=1000:=(by have a:=(q_0 h1).1;have b:=q_1.1;omega);exact ay ((rX (congrArg dH (q_1.2.drop hk _).2.1)).symm.trans h18)
 case aa=>
  have hk:F.1<=1000:=(by have a:=(q_0 h1).1;have b:=q_1.1;omega);exact⟨rfl,(F.1+1,F.2.1,F.2.2.1,(ir F.2.2.2 _).1),⟨by simp only;omega,(q_1.2.drop hk _).2.2⟩,by simp only;omega,⟨by simp only;omega,au⟩,⟨rfl,rfl,⟨rfl,rfl,rfl,au⟩,au⟩,rfl,congrArg (fun z=>((),_,_,_,_,_,_,_,_,(z,()),())) (q_1.2.drop hk _).2.1.symm⟩
 case ab|ac=>exact absurd q_1.2.kR.B8 h14
 case ag=>
  simp only[bl,reduceCtorEq]at h18 h19;exact absurd (q_1.2.adU ‹_›) h19
 case ah|ai|an|ao=>
  simp only[bl,reduceCtorEq]at h18 h19;exact q_1.2.kR.len
 case aj|ap=>
  simp only[bl,reduceCtorEq]at h18 h19;exact ay ((rX rfl).symm.trans h22)
 case ak|aq=>
  simp only[bl,reduceCtorEq]at h18 h19;have hk:F.1<=1000:=(by have a:=(q_0 h1).1;have b:=q_1.1;omega);simp only[aF];omega
 case al|ar=>
  simp only[bl,reduceCtorEq]at h18 h19;exact⟨rfl,(F.1+1,F.2.1,F.2.2.1,F.2.2.2),⟨by simp only;omega,q_1.2.next⟩,by simp only;omega,⟨by simp only;omega,au⟩,⟨rfl,rfl,⟨rfl,rfl,rfl,au⟩,au⟩,rfl,rfl⟩
 case am=>
  simp only[bl,reduceCtorEq]at h18 h19;exact ay ((q_1.2.tj ‹_›).symm.trans h19)
theorem Tryz.J1:bO Tryz.prog Tryz.B.eT Tryz.X 3 [.slice jI] [.bool] (fun _=>True) (fun _ y=>y=true):=
 bP (X:=Tryz.X) Tryz.NP Tryz.func3 (by kernel_rfl) (fun x=>Tryz.Gn x) (fun x hw hp=>J0 x hw)
open Go.ChangeShapes Go.WideShapes Go.ChangeAt Go.RowKit in
theorem Tryz.BC{W:World}(hL:laidMetH Tryz.prog ba.laid W)(hsh:W.ShapedOpen Tryz.prog):Tryz.adi W:=by
 rw[bd _ _ _ (by kernel_rfl)]at hL;exact⟨MG (g:=0) (t:=286) (e:=44) (n:=20) (by kernel_rfl) (by kernel_rfl) (by kernel_rfl) (by kernel_rfl) (by kernel_rfl) (by kernel_rfl) ((show(Rows.laid_internal_strconv_uint64pow10:DataW Unit)=Lib.tabData .u64 Lib.pow10Tab from by kernel_rfl)▸bb hL (.tail _ (.tail _ (.head _)))),
  MF (g:=1) (t:=3) (zero:=#[.int .i64 0]) hsh (of_decide_eq_true (by kernel_rfl)) (by kernel_rfl) rfl (by kernel_rfl) (by kernel_rfl) (by kernel_rfl),
  wV (g:=2) (t:=33) (by kernel_rfl) (by kernel_rfl) (by kernel_rfl) (bb hL (.tail _ (.tail _ (.tail _ (.tail _ (.tail _ (.head _))))))),
  wV (g:=3) (t:=33) (by kernel_rfl) (by kernel_rfl) (by kernel_rfl) (bb hL (.tail _ (.tail _ (.tail _ (.tail _ (.head _))))))⟩
open Go.ChangeShapes Go.WideShapes Go.ChangeAt Go.RowKit in
set_option maxRecDepth 100000 in
theorem Ce(os:Os)(started:os.Started)(H:Type)(enc:TypeId×Value->H) :
  ReturnsInHanded {} Tryz.checked os 3 .any (fun w args=>(bc.pre enc Tryz.prog Tryz.f3 [] false w args/\laidMetH Tryz.prog ba.laid w)/\sizedMet enc Tryz.prog Tryz.f3 (OpenSpec.ofChange bc) false w args) (bc.post enc Tryz.prog Tryz.f3 false true false false):=by
 refine ON (C:=Tryz.checked) (X:=fun w _=>laidMetH Tryz.prog ba.laid w) (fun _ _ _ hh h=>h.of_heap hh) (by kernel_rfl) started (by kernel_rfl) Tryz.func3
  (ChangeSpec.witness_shaped (enc:=enc) (C:=Tryz.checked) (os:=os) (X:=fun w _=>laidMetH Tryz.prog ba.laid w) false (World.laidAll Tryz.prog os ba.laid) #[.slice none 0 0] 8 (World.laidAll_os _ _ _) (World.shaped_of_ZipB (by kernel_rfl) (by kernel_rfl)) (by kernel_rfl) (by kernel_rfl) (by kernel_rfl)
   (by rw[bd _ _ _ (by kernel_rfl)];exact laidMet_laidAll _ (by kernel_rfl) (by kernel_rfl))) ?_
 intro W base args ds gs before hval hW hL hsh;exact UC (C:=Tryz.checked) (n:=16) rfl (by kernel_rfl) (fun ds h=>by match ds,h with|[_],_=>rfl) (by kernel_rfl) (by kernel_rfl) (by kernel_rfl) (tb:=4) (by kernel_rfl) Tryz.J1 hval hW (Tryz.BC hL hsh) (fun _ _=>trivial)
open Go.ChangeShapes Go.WideShapes Go.ChangeAt Go.RowKit in
theorem Gp:Rows.LoaderSaysSaid:=
 OpenClaim.holds_of_wide 3 Tryz.f3 rfl rfl rfl rfl rfl rfl rfl ⟨rfl,rfl,rfl,rfl,rfl⟩ rfl rfl rfl rfl rfl (by kernel_rfl) Tryz.func3 (by kernel_rfl)
  (of_decide_eq_true (by kernel_rfl)) (by unfold Func.isWrapper;first|(rw[if_pos (by decide+kernel)];kernel_rfl)|(rw[if_neg (by decide+kernel)];exact⟨rfl,rfl⟩))
  (fun os started H enc _=>Ce os started H enc)
theorem loaderSays_holds:Rows.LoaderSaysCardSaid:=
 Claim7.holds_tied_plain_at .later [] [.data,.data,.data,.data,.sentinel,.sentinel,.pinned] true (true,"64b551b93bc23007624950252e9486f0c7d9283b8d81061eb003e81ef0f36483") true
  Gp (fun _ h=>by cases h) (by kernel_rfl) (fun _ h=>by cases h) loaderSays_row_tie rfl ⟨rfl,rfl⟩ (by kernel_rfl) rfl
  (fun f fn hf hfn=>by
   obtain rfl:f=3:=bf ((show Tryz.prog.funcNamed ba.func=some 3 by kernel_rfl).symm.trans hf) |>.symm
   obtain rfl:fn=Tryz.f3:=(bf (Tryz.func3.symm.trans hfn)).symm;exact⟨by kernel_rfl,fun j t ht=>by
    have hall:(Tryz.f3.params.toList.all fun t =>!Tryz.prog.wantsStandIn t)=true:=by kernel_rfl
    have hm:t∈Tryz.f3.params.toList:=Array.mem_def.1 (Array.mem_of_getElem? ht);exact(by simpa using List.all_eq_true.1 hall t hm:Tryz.prog.wantsStandIn t=false)⟩)
  (by kernel_rfl)
#print axioms loaderSays_holds
end Go.Proofs.YtgokjhhcfemnhabGreatDoor

