/- A part of the proof that the law TopFallCard holds of the given program: facts that are used there. -/
import Derived.Test.YtgokjhhcfemnhadGreatDoorPart4
set_option linter.unusedSimpArgs false
set_option linter.unusedVariables false
set_option maxRecDepth 100000
set_option maxHeartbeats 4000000
set_option linter.defProp false
noncomputable section
open True renaming intro->dT
open List renaming length->gE,take->gN,nil->ha,length_singleton->hh
open Go.IntKind renaming i64->hb,wrap->hf
open Bool renaming noConfusion->hc
open Nat renaming zero_le->hg,not_lt_zero->hk
namespace Go.Proofs.YtgokjhhcfemnhadGreatDoor
open Go.Vg Go.Mrl
def Tryz.Mg:List (FuncId×(Bool×aT)):=[(40,Tryz.spZ30),(13,Tryz.spZ27)]
def Tryz.R7:bP Tryz.prog Tryz.B Tryz.X Tryz.Mg:=
 aO (Tryz.F2) (aO (Tryz.sy) (bR Tryz.bQ))
def Tryz.Mh(s:List UInt8)(f:cG):dX:=[
 (0,fun st=>{X:=Nat,inv:=fun i=>i<=gE (cY (.slice .str) st 6),cB:=fun i=>gE (cY (.slice .str) st 6)-i,bM:=fun i=>[(35,sI i)],keep:=[0,4,8,11,33,34],aF:=fun i=>[(bJ st 11,.cells 53 [.d .str s,.app aG (cE (aL f) (cY (.slice .str) st 6) (cY (.slice (.int .i64)) st 8) i) (mJ st (bJ st 11) 1),.d (.slice aR) (cY (.slice aR) st 9)]),(mJ st (bJ st 11) 1,.tok aG (cE (aL f) (cY (.slice .str) st 6) (cY (.slice (.int .i64)) st 8) i))],ib:=[bJ st 11,mJ st (bJ st 11) 1]})]
def Tryz.Bv:List (Alt Tryz.aU [.obj 0,.d .str]):=[{bO:=Tryz.aU,res:=[.d aC,.d .err],out:=fun _ x=>x,ret:=fun a x=>((eI (aL x) a.1).1,aI (eI (aL x) a.1).2,())}]
def Wl(s:List UInt8)(f:cG)(hw:hU [.obj 0,.d .str] (s,()))(hp:(fun _ x=>x.2.1.1.length<=6) (s,()) f):(dA Tryz.B Tryz.Mg Tryz.f30 (Tryz.Mh s f) Tryz.aU [.obj 0,.d .str] Tryz.Bv (s,()) f).holds:=by
 refine holds_of (p:=
  let za:=aL f
  let zb:=aY za s
  let zc:=aI zb.2.2.2.2
  let zd:=([],[],[],())
  let ze:=((eI za s).1,aI (eI za s).2,())
  let zf:=zb.1
  let zg:=gE zf
  let zh:=zb.2.2.1
  let zi:=zb.2.2.2.1
  let zj:=zi=zi/\True
  let zk:=fun(F:Nat)=>aI (aL f (nth Ty.str zf F)).2.2
  let zl:=fun(F:Nat)=>cE za zf zh F
  let zm:=fun(F:Nat)=>[(nth Ty.str zf F,(aL f (nth Ty.str zf F)).2.1,nth (Ty.int hb) zh F,())]
  let zn:=@ha (Int×Int×Int×Unit)=@ha (Int×Int×Int×Unit)
  let zo:=@ha (List UInt8×Int×Int×Unit)=@ha (List UInt8×Int×Int×Unit)
  gE f.2.1.1<=6/\(True->((!aK.isNil zc)=true->True/\f=f/\(zd,zc,())=ze)/\((!aK.isNil zc)=false->zg<=aM->(∃(x:Nat),x<=zg/\(0=(↑x:Int)/\True)/\(s=s/\@ha (List UInt8×Int×Int×Unit)=cE za zf zh x/\zj)/\@ha (List UInt8×Int×Int×Unit)=cE za zf zh x/\True)/\∀F:Nat,F<=zg->((decide ((↑F:Int)<(↑zg:Int)))=true->(0<=(↑F:Int)/\(↑F:Int)<(↑zg:Int))/\True/\(True->((!aK.isNil (zk F))=true->True/\f=f/\(zd,zk F,())=ze)/\((!aK.isNil (zk F))=false->(0<=(↑F:Int)/\(↑F:Int)<(↑(gE zh):Int))/\(zl F=zl F/\gE (zl F)+gE (zm F)<=1000000000)/\(aJ (↑F:Int)->aJ 1->aJ ((↑F:Int)+1)/\∃(x':Nat),x'<=zg/\zg-x'<zg-F/\((↑F:Int)+1=(↑x':Int)/\True)/\(s=s/\zl F++zm F=cE za zf zh x'/\zj)/\zl F++zm F=cE za zf zh x'/\zn/\zo/\(C.eW 1=C.eW 1/\f.1.1=f.1.1/\True)/\f.2.1=f.2.1/\(@ha UInt8=@ha UInt8/\zo/\zn/\True)/\zn/\zo/\True))))/\((decide ((↑F:Int)<(↑zg:Int)))=false->True/\f=f/\((s,zl F,zi,()),aK.nil,())=ze)))) (by kernel_rfl) ?_
 dsimp -iota -proj -eta only;exact⟨(by trivial),fun h0=>iB (fun h1=>(by exact⟨dT,rfl,by rw[Ia (eG h1)];rfl⟩)) (fun h1 h2=>⟨(⟨0,hg _,⟨rfl,dT⟩,⟨rfl,rfl,rfl,dT⟩,rfl,(by trivial)⟩),fun F q_0=>iL (fun h3=>⟨(by omega),dT,fun h4=>iB (fun h5=>(absurd (Fa (jD hp) (aQ.1 h1) (by omega)) (eG h5))) (fun h5=>⟨(by have:=(Fb (jD hp) (aQ.1 h1)).1;omega),(by exact⟨rfl,by rw[fC];have:=(Fb (jD hp) (aQ.1 h1)).2;simp only[hh];omega⟩),fun h6 h7=>⟨(by simp only[aJ,aM]at*;omega),(⟨F+1,by omega,by omega,⟨by omega,dT⟩,⟨rfl,(xL _ _ _ _).symm,rfl,dT⟩,(xL _ _ _ _).symm,(by trivial)⟩)⟩⟩)⟩) (fun h3=>(by exact⟨dT,rfl,by rw[yF (aQ.1 h1),show F=gE (aY (aL f) s).1 by omega];rfl⟩))⟩)⟩
def Tryz.Wm:bX Tryz.prog Tryz.B.eT Tryz.X 30 false (aX Tryz.aU [.obj 0,.d .str] (fun _ x=>x.2.1.1.length<=6) Tryz.Bv):=
 bH (X:=Tryz.X) Tryz.R7 Tryz.func30 (by kernel_rfl) (fun(a:CD [.obj 0,.d .str]) (x:PD Tryz.aU)=>Tryz.Mh a.1 x) (fun(a:CD [.obj 0,.d .str]) (x:PD Tryz.aU) hw hp=>Wl a.1 x hw hp)
def Tryz.JH:List (FuncId×(Bool×aT)):=[(13,Tryz.spZ27)]
def Tryz.OG:bP Tryz.prog Tryz.B Tryz.X Tryz.JH:=
 aO (Tryz.sy) (bR Tryz.bQ)
def Tryz.JI(e:D aC)(f:cG):dX:=[
 (0,fun st=>{X:=Nat,inv:=fun i=>i<=gE e.2.1/\∀j,j<i->jm (aL f) (nth aG e.2.1 j)=true,cB:=fun i=>gE e.2.1-i,bM:=fun i=>[(13,sI i)],keep:=[1,2,11,12]})]
def Tryz.x7:List (Alt Tryz.aU [.d aC,.obj 0]):=[{bO:=Tryz.aU,res:=[.d .bool],out:=fun _ x=>x,ret:=fun a x=>(fP (aL x) a.1,())}]
def UB(e:D aC)(f:cG)(hw:hU [.d aC,.obj 0] (e,())):(dA Tryz.B Tryz.JH Tryz.f33 (Tryz.JI e f) Tryz.aU [.d aC,.obj 0] Tryz.x7 (e,()) f).holds:=by
 refine holds_of (p:=
  let za:=e.2.1
  let zb:=gE za
  let zc:=aL f
  let zd:=fun(F:Nat)=>(aL f (nth aG za F).1).2
  let ze:=(fP zc e,())
  let zf:=True/\f=f/\(false,())=ze
  zb<=aM->(∃(x:Nat),(x<=zb/\∀(j:Nat),j<x->jm zc (nth aG za j)=true)/\(0=(↑x:Int)/\True)/\True)/\∀F:Nat,(F<=zb/\∀(j:Nat),j<F->jm zc (nth aG za j)=true)->((decide ((↑F:Int)<(↑zb:Int)))=true->(0<=(↑F:Int)/\(↑F:Int)<(↑zb:Int))/\True/\(True->((!aK.isNil (aI (zd F).2))=true->zf)/\((!aK.isNil (aI (zd F).2))=false->(((zd F).1 != (nth aG za F).2.1)=true->zf)/\(((zd F).1 != (nth aG za F).2.1)=false->aJ (↑F:Int)->aJ 1->aJ ((↑F:Int)+1)/\∃(x':Nat),(x'<=zb/\∀(j:Nat),j<x'->jm zc (nth aG za j)=true)/\zb-x'<zb-F/\((↑F:Int)+1=(↑x':Int)/\True)/\(e.1=e.1/\za=za/\e.2.2.1=e.2.2.1/\True)/\(C.eW 1=C.eW 1/\f.1.1=f.1.1/\True)/\f.2.1=f.2.1/\True))))/\((decide ((↑F:Int)<(↑zb:Int)))=false->zb<=aM->True/\f=f/\(decide ((↑zb:Int) > 0),())=ze)) (by kernel_rfl) ?_
 dsimp -iota -proj -eta only;exact fun h0=>⟨(⟨0,⟨hg _,fun j hj=>absurd hj (hk _)⟩,⟨rfl,dT⟩,dT⟩),fun F q_0=>iL (fun h1=>⟨(by omega),dT,fun h2=>iB (fun h3=>⟨dT,rfl,by rw[Ib (i:=F) (by omega) (Qi h3)]⟩) (fun h3=>iN (fun h4=>⟨dT,rfl,by rw[Ib (i:=F) (by omega) (NB h4)]⟩) (fun h4 h5 h6=>⟨(by simp only[aJ,aM]at*;omega),(⟨F+1,⟨by omega,lY q_0.2 (NC ‹_› ‹_›)⟩,by omega,⟨by omega,dT⟩,(by trivial)⟩)⟩))⟩) (fun h1 h2=>(by exact⟨dT,rfl,by rw[E5 fun i hi=>q_0.2 i (by omega)];simp⟩))⟩
def Tryz.JJ:bX Tryz.prog Tryz.B.eT Tryz.X 33 false (aX Tryz.aU [.d aC,.obj 0] (fun _ _=>True) Tryz.x7):=
 bH (X:=Tryz.X) Tryz.OG Tryz.func33 (by kernel_rfl) (fun(a:CD [.d aC,.obj 0]) (x:PD Tryz.aU)=>Tryz.JI a.1 x) (fun(a:CD [.d aC,.obj 0]) (x:PD Tryz.aU) hw hp=>UB a.1 x hw)
def Tryz.spZ32:Bool×aT:=(false,aX Tryz.aU [.d aC,.obj 0] (fun _ _=>True) Tryz.x7)
def Tryz.R8:List (FuncId×(Bool×aT)):=[(33,Tryz.spZ32),(13,Tryz.spZ27),(35,Tryz.spZ28),(41,Tryz.spZ31)]
def Tryz.UC:bP Tryz.prog Tryz.B Tryz.X Tryz.R8:=
 aO (Tryz.JJ) (aO (Tryz.sy) (aO (aE Tryz.FW) (aO (aE Tryz.R4) (bR Tryz.bQ))))
def Tryz.R9(e:D aC)(f:cG):dX:=[
 (0,fun st=>{X:=Nat,inv:=fun i=>i<=gE e.2.1/\∀j,j<i->(cW (aL f (nth aG e.2.1 j).1).1).2=0,cB:=fun i=>gE e.2.1-i,bM:=fun i=>[(23,sI i),(6,.s (.one (.app .str (fX (gN i e.2.1)) (bJ st 6)))),(7,.s (.one (.app (.int .i64) (fY (gN i e.2.1)) (bJ st 7)))),(8,.s (.one (.app aB (fT (aL f) (gN i e.2.1)) (bJ st 8))))],aF:=fun i=>[(bJ st 6,.tok .str (fX (gN i e.2.1))),(bJ st 7,.tok (.int .i64) (fY (gN i e.2.1))),(bJ st 8,.tok aB (fT (aL f) (gN i e.2.1)))],keep:=[1,2,21,22],ib:=[bJ st 6,bJ st 7,bJ st 8]}),
 (300015,fun st=>{X:=Nat,inv:=fun i=>i=(cY (.int .i64) st 23).toNat+1,cB:=fun _=>0,bM:=fun i=>[(6,.s (.one (.app .str (fX (gN i e.2.1)) (bJ st 6)))),(7,.s (.one (.app (.int .i64) (fY (gN i e.2.1)) (bJ st 7)))),(8,.s (.one (.app aB (fT (aL f) (gN i e.2.1)) (bJ st 8))))],aF:=fun i=>[(bJ st 6,.tok .str (fX (gN i e.2.1))),(bJ st 7,.tok (.int .i64) (fY (gN i e.2.1))),(bJ st 8,.tok aB (fT (aL f) (gN i e.2.1)))],keep:=[1,2,4,5,10,11,13,14,21,22,23,24,25,26,27,28,29,30,31,32,33,34,35,36,37,38,39,40,41,42,43,44,45],ib:=[bJ st 6,bJ st 7,bJ st 8]})]
def Tryz.D3:List (Alt Tryz.aU [.d aC,.obj 0]):=[{bO:=Tryz.aU,res:=[.d (.slice dG),.d .err],out:=fun _ x=>x,ret:=fun a x=>((kB (aL x) a.1).1,aI (kB (aL x) a.1).2,())}]
def Xl(e:D aC)(f:cG)(hw:hU [.d aC,.obj 0] (e,()))(hp:(fun a x=>a.1.2.1.length<=1000/\x.2.1.1.length<=6) (e,()) f):(dA Tryz.B Tryz.R8 Tryz.f34 (Tryz.R9 e f) Tryz.aU [.d aC,.obj 0] Tryz.D3 (e,()) f).holds:=by
 refine holds_of (p:=
  let za:=aL f
  let zb:=f=f
  let zc:=((kB za e).1,aI (kB za e).2,())
  let zd:=e.2.1
  let ze:=gE zd
  let zf:=fun(F:Nat)=>(nth aG zd F).1
  let zg:=fun(F:Nat)=>aI (aL f (zf F)).2.2
  let zh:=fun(F:Nat)=>aI (cW (aL f (zf F)).1).2
  let zi:=fun(F:Nat)=>fX (gN F zd)
  let zj:=fun(F:Nat)=>zi F=zi F/\gE (zi F)+gE [zf F]<=1000000000
  let zk:=fun(F:Nat)=>fY (gN F zd)
  let zl:=fun(F:Nat)=>(nth aG zd F).2.2.1
  let zm:=fun(F:Nat)=>fT za (gN F zd)
  let zn:=fun(F:Nat)=>(cW (aL f (zf F)).1).1
  let zo:=C.eW 1=C.eW 1/\f.1.1=f.1.1/\True
  let zp:=f.2.1=f.2.1
  let zq:=e.2.2.1
  let zr:=@ha (List UInt8×Int×List Int×Unit)=@ha (List UInt8×Int×List Int×Unit)/\(e.1=e.1/\zd=zd/\zq=zq/\True)/\True
  let zs:=fun(F:Nat)=>(zk F=zk F/\gE (zk F)+gE [zl F]<=1000000000)/\(zm F=zm F/\gE (zm F)+gE [zn F]<=1000000000)/\∃(x':Nat),x'=F+1/\(zi F++[zf F]=fX (gN x' zd)/\zk F++[zl F]=fY (gN x' zd)/\zm F++[zn F]=fT za (gN x' zd)/\True)/\zi F++[zf F]=fX (gN x' zd)/\zk F++[zl F]=fY (gN x' zd)/\zm F++[zn F]=fT za (gN x' zd)/\((zn F).1=(zn F).1/\(zn F).2.1=(zn F).2.1/\(zn F).2.2.1=(zn F).2.2.1/\(zn F).2.2.2.1=(zn F).2.2.2.1/\True)/\@ha (Int×Int×Int×List UInt8×Bool×Unit)=@ha (Int×Int×Int×List UInt8×Bool×Unit)/\@ha (List UInt8×Int×Bool×Unit)=@ha (List UInt8×Int×Bool×Unit)/\@ha Int=@ha Int/\@ha (List UInt8)=@ha (List UInt8)/\zo/\zp/\(zf F=zf F/\(nth aG zd F).2.1=(nth aG zd F).2.1/\zl F=zl F/\True)/\zr
  let zt:=fun(F:Nat)=>zj F/\(fun a0:Prop=>a0/\a0/\a0) (zs F)/\(fun a0:Prop=>a0/\a0) (zs F)/\zs F
  let zu:=fun(F:Nat)=>zj F/\zs F
  let zv:=fun(F:Nat)=>(zj F/\(fun a0:Prop=>a0/\a0/\a0) (zs F))/\(zj F/\(fun a0:Prop=>a0/\a0) (zs F))/\zu F
  let zw:=fun(F:Nat)=>zj F/\(fun a0:Prop=>a0/\a0) (zs F)/\zs F
  let zx:=fun(F:Nat)=>(zj F/\(fun a0:Prop=>a0/\a0) (zs F))/\zu F
  let zy:=fun(F:Nat)=>(fun a0 a1 a2 a3 a4:Prop=>a0/\a1/\a2/\a3/\a4/\a4) (zt F) (zv F) (zw F) (zx F) (zu F)
  let zz:=fun(F:Nat)=>(fun a0 a1 a2:Prop=>a0/\a1/\a2/\a2) (zw F) (zx F) (zu F)
  let zaa:=fun(F:Nat)=>jO (zi F) (zk F) (zm F) zq
  True/\(True->((!fP za e)=true->True/\zb/\([],aK.no 10,())=zc)/\((!fP za e)=false->ze<=aM->(∃(x:Nat),(x<=ze/\∀(j:Nat),j<x->(cW (aL f (nth aG zd j).1).1).2=0)/\(0=(↑x:Int)/\@ha (List UInt8)=fX (gN x zd)/\@ha Int=fY (gN x zd)/\@ha (List (List UInt8)×List Int×List (List UInt8×Int×Bool×Unit)×List (Int×Int×Int×List UInt8×Bool×Unit)×Unit)=fT za (gN x zd)/\True)/\@ha (List UInt8)=fX (gN x zd)/\@ha Int=fY (gN x zd)/\@ha (List (List UInt8)×List Int×List (List UInt8×Int×Bool×Unit)×List (Int×Int×Int×List UInt8×Bool×Unit)×Unit)=fT za (gN x zd)/\True)/\∀F:Nat,(F<=ze/\∀(j:Nat),j<F->(cW (aL f (nth aG zd j).1).1).2=0)->((decide ((↑F:Int)<(↑ze:Int)))=true->(0<=(↑F:Int)/\(↑F:Int)<(↑ze:Int))/\True/\(True->((!aK.isNil (zg F))=true->True/\zb/\([],zg F,())=zc)/\((!aK.isNil (zg F))=false->True/\((!aK.isNil (zh F))=true->True/\zb/\([],zh F,())=zc)/\((!aK.isNil (zh F))=false->((fun a0 a1 a2 a3 a4:Prop=>a0/\a1/\a2/\a3/\a4/\a4/\a4) (zt F) (zy F) (zw F) (zz F) (zu F)/\(zy F/\(zv F/\zx F/\zu F)/\zz F/\(zx F/\zu F)/\(fun a0:Prop=>a0/\a0) (zu F)/\zu F)/\(fun a0 a1 a2:Prop=>a0/\a1/\a2/\a2/\a2) (zw F) (zz F) (zu F)/\(zz F/\(zx F/\zu F)/\(fun a0:Prop=>a0/\a0) (zu F)/\zu F)/\(fun a0:Prop=>a0/\a0/\a0) (zu F)/\(fun a0:Prop=>a0/\a0) (zu F)/\zu F)/\∀G:Nat,G=F+1->aJ (↑F:Int)->aJ 1->aJ ((↑F:Int)+1)/\∃(x':Nat),(x'<=ze/\∀(j:Nat),j<x'->(cW (aL f (nth aG zd j).1).1).2=0)/\ze-x'<ze-F/\((↑F:Int)+1=(↑x':Int)/\zi G=fX (gN x' zd)/\zk G=fY (gN x' zd)/\zm G=fT za (gN x' zd)/\True)/\zi G=fX (gN x' zd)/\zk G=fY (gN x' zd)/\zm G=fT za (gN x' zd)/\zo/\zp/\zr))))/\((decide ((↑F:Int)<(↑ze:Int)))=false->(gE (zm F)<=1000/\∀(i:Nat),i<gE (zm F)->gE (nth aB (zm F) i).2.1<=1000)/\True/\zb/\((zaa F).1,(zaa F).2,())=zc)))) (by kernel_rfl) ?_
 dsimp -iota -proj -eta only;dsimp only at hp;refine⟨dT,fun h0=>iB (fun h1=>(by exact⟨dT,rfl,by rw[Qc h1];rfl⟩)) (fun h1 h2=>⟨(⟨0,⟨hg _,fun j hj=>absurd hj (hk _)⟩,⟨rfl,rfl,rfl,rfl,dT⟩,(by trivial)⟩),fun F q_0=>iL (fun h3=>⟨(by omega),dT,fun h4=>iB (fun h5=>(absurd ((E6 h1).2 F (by omega)).1 (eG h5))) (fun h5=>⟨dT,iB (fun h6=>⟨dT,rfl,by rw[VD h1 (Ic q_0.2 (by omega) (eG h6)) (eG h6)]⟩) (fun h6=>⟨⟨(show ∀{a0 a1 a2 a3 a4:Prop},a0->a1->a2->a3->a4->a0/\a1/\a2/\a3/\a4/\a4/\a4 from fun g0 g1 g2 g3 g4=>⟨g0,g1,g2,g3,g4,g4,g4⟩) (⟨?a,⟨(show ∀{a0:Prop},a0->a0/\a0/\a0 from fun g0=>⟨g0,g0,g0⟩) (⟨?b,?c,?d⟩),(show ∀{a0:Prop},a0->a0/\a0 from fun g0=>⟨g0,g0⟩) (⟨?e,?f,?g⟩),⟨?h,?i,?j⟩⟩⟩) ((show ∀{a0 a1 a2 a3 a4:Prop},a0->a1->a2->a3->a4->a0/\a1/\a2/\a3/\a4/\a4 from fun g0 g1 g2 g3 g4=>⟨g0,g1,g2,g3,g4,g4⟩) (⟨?k,⟨(show ∀{a0:Prop},a0->a0/\a0/\a0 from fun g0=>⟨g0,g0,g0⟩) (⟨?l,?m,?n⟩),(show ∀{a0:Prop},a0->a0/\a0 from fun g0=>⟨g0,g0⟩) (⟨?o,?p,?q⟩),⟨?r,?s,?t⟩⟩⟩) (⟨⟨?u,(show ∀{a0:Prop},a0->a0/\a0/\a0 from fun g0=>⟨g0,g0,g0⟩) (⟨?v,?w,?x⟩)⟩,⟨?y,(show ∀{a0:Prop},a0->a0/\a0 from fun g0=>⟨g0,g0⟩) (⟨?z,?a0,?a1⟩)⟩,⟨?a2,?a3,?a4,?a5⟩⟩) (⟨?a6,⟨(show ∀{a0:Prop},a0->a0/\a0 from fun g0=>⟨g0,g0⟩) (⟨?a7,?a8,?a9⟩),⟨?aa,?ab,?ac⟩⟩⟩) (⟨⟨?ad,(show ∀{a0:Prop},a0->a0/\a0 from fun g0=>⟨g0,g0⟩) (⟨?ae,?af,?ag⟩)⟩,⟨?ah,?ai,?aj,?ak⟩⟩) (⟨?al,?am,?an,?ao⟩)) (⟨?ap,⟨(show ∀{a0:Prop},a0->a0/\a0 from fun g0=>⟨g0,g0⟩) (⟨?aq,?ar,?au⟩),⟨?av,?aw,?ax⟩⟩⟩) ((show ∀{a0 a1 a2:Prop},a0->a1->a2->a0/\a1/\a2/\a2 from fun g0 g1 g2=>⟨g0,g1,g2,g2⟩) (⟨?ay,⟨(show ∀{a0:Prop},a0->a0/\a0 from fun g0=>⟨g0,g0⟩) (⟨?az,?b0,?b1⟩),⟨?b2,?b3,?b4⟩⟩⟩) (⟨⟨?b5,(show ∀{a0:Prop},a0->a0/\a0 from fun g0=>⟨g0,g0⟩) (⟨?b6,?b7,?b8⟩)⟩,⟨?b9,?ba,?bb,?bc⟩⟩) (⟨?bd,?be,?bf,?bg⟩)) (⟨?bh,?bi,?bj,?bk⟩),⟨(show ∀{a0 a1 a2 a3 a4:Prop},a0->a1->a2->a3->a4->a0/\a1/\a2/\a3/\a4/\a4 from fun g0 g1 g2 g3 g4=>⟨g0,g1,g2,g3,g4,g4⟩) (⟨?bl,⟨(show ∀{a0:Prop},a0->a0/\a0/\a0 from fun g0=>⟨g0,g0,g0⟩) (⟨?bm,?bn,?bo⟩),(show ∀{a0:Prop},a0->a0/\a0 from fun g0=>⟨g0,g0⟩) (⟨?bp,?bq,?br⟩),⟨?bs,?bt,?bu⟩⟩⟩) (⟨⟨?bv,(show ∀{a0:Prop},a0->a0/\a0/\a0 from fun g0=>⟨g0,g0,g0⟩) (⟨?bw,?bx,?bz⟩)⟩,⟨?c0,(show ∀{a0:Prop},a0->a0/\a0 from fun g0=>⟨g0,g0⟩) (⟨?c1,?c2,?c3⟩)⟩,⟨?c4,?c5,?c6,?c7⟩⟩) (⟨?c8,⟨(show ∀{a0:Prop},a0->a0/\a0 from fun g0=>⟨g0,g0⟩) (⟨?c9,?ca,?cb⟩),⟨?cc,?cd,?ce⟩⟩⟩) (⟨⟨?cf,(show ∀{a0:Prop},a0->a0/\a0 from fun g0=>⟨g0,g0⟩) (⟨?cg,?ch,?ci⟩)⟩,⟨?cj,?ck,?cl,?cm⟩⟩) (⟨?cn,?co,?cp,?cq⟩),⟨⟨⟨?cr,(show ∀{a0:Prop},a0->a0/\a0/\a0 from fun g0=>⟨g0,g0,g0⟩) (⟨?cs,?ct,?cu⟩)⟩,⟨?cv,(show ∀{a0:Prop},a0->a0/\a0 from fun g0=>⟨g0,g0⟩) (⟨?cw,?cx,?cy⟩)⟩,⟨?cz,?d0,?d1,?d2⟩⟩,⟨⟨?d3,(show ∀{a0:Prop},a0->a0/\a0 from fun g0=>⟨g0,g0⟩) (⟨?d4,?d5,?d6⟩)⟩,⟨?d7,?d8,?d9,?da⟩⟩,⟨?db,?dc,?dd,?de⟩⟩,(show ∀{a0 a1 a2:Prop},a0->a1->a2->a0/\a1/\a2/\a2 from fun g0 g1 g2=>⟨g0,g1,g2,g2⟩) (⟨?df,⟨(show ∀{a0:Prop},a0->a0/\a0 from fun g0=>⟨g0,g0⟩) (⟨?dg,?dh,?di⟩),⟨?dj,?dk,?dl⟩⟩⟩) (⟨⟨?dm,(show ∀{a0:Prop},a0->a0/\a0 from fun g0=>⟨g0,g0⟩) (⟨?dn,?dp,?dq⟩)⟩,⟨?dr,?ds,?dt,?du⟩⟩) (⟨?dv,?dw,?dx,?dy⟩),⟨⟨⟨?dz,(show ∀{a0:Prop},a0->a0/\a0 from fun g0=>⟨g0,g0⟩) (⟨?e0,?e1,?e2⟩)⟩,⟨?e3,?e4,?e5,?e6⟩⟩,⟨?e7,?e8,?e9,?ea⟩⟩,(show ∀{a0:Prop},a0->a0/\a0 from fun g0=>⟨g0,g0⟩) (⟨?eb,?ec,?ed,?ee⟩),⟨?ef,?eg,?eh,?ei⟩⟩,(show ∀{a0 a1 a2:Prop},a0->a1->a2->a0/\a1/\a2/\a2/\a2 from fun g0 g1 g2=>⟨g0,g1,g2,g2,g2⟩) (⟨?ej,⟨(show ∀{a0:Prop},a0->a0/\a0 from fun g0=>⟨g0,g0⟩) (⟨?ek,?el,?em⟩),⟨?en,?eo,?ep⟩⟩⟩) ((show ∀{a0 a1 a2:Prop},a0->a1->a2->a0/\a1/\a2/\a2 from fun g0 g1 g2=>⟨g0,g1,g2,g2⟩) (⟨?eq,⟨(show ∀{a0:Prop},a0->a0/\a0 from fun g0=>⟨g0,g0⟩) (⟨?er,?es,?et⟩),⟨?eu,?ev,?ew⟩⟩⟩) (⟨⟨?ex,(show ∀{a0:Prop},a0->a0/\a0 from fun g0=>⟨g0,g0⟩) (⟨?ey,?ez,?f0⟩)⟩,⟨?f1,?f2,?f3,?f4⟩⟩) (⟨?f5,?f6,?f7,?f8⟩)) (⟨?f9,?fa,?fb,?fc⟩),⟨(show ∀{a0 a1 a2:Prop},a0->a1->a2->a0/\a1/\a2/\a2 from fun g0 g1 g2=>⟨g0,g1,g2,g2⟩) (⟨?fd,⟨(show ∀{a0:Prop},a0->a0/\a0 from fun g0=>⟨g0,g0⟩) (⟨?fe,?ff,?fg⟩),⟨?fh,?fi,?fj⟩⟩⟩) (⟨⟨?fk,(show ∀{a0:Prop},a0->a0/\a0 from fun g0=>⟨g0,g0⟩) (⟨?fl,?fm,?fn⟩)⟩,⟨?fo,?fp,?fq,?fr⟩⟩) (⟨?fs,?ft,?fu,?fv⟩),⟨⟨⟨?fw,(show ∀{a0:Prop},a0->a0/\a0 from fun g0=>⟨g0,g0⟩) (⟨?fx,?fy,?fz⟩)⟩,⟨?g0,?g1,?g2,?g3⟩⟩,⟨?g4,?g5,?g6,?g7⟩⟩,(show ∀{a0:Prop},a0->a0/\a0 from fun g0=>⟨g0,g0⟩) (⟨?g8,?g9,?ga,?gb⟩),⟨?gc,?gd,?ge,?gf⟩⟩,(show ∀{a0:Prop},a0->a0/\a0/\a0 from fun g0=>⟨g0,g0,g0⟩) (⟨?gg,?gh,?gi,?gj⟩),(show ∀{a0:Prop},a0->a0/\a0 from fun g0=>⟨g0,g0⟩) (⟨?gk,?gl,?gm,?gn⟩),⟨?go,?gp,?gq,?gr⟩⟩,fun G q_1 h7 h8=>⟨(by simp only[aJ,aM]at*;omega),?gs⟩⟩)⟩)⟩) (fun h3=>⟨(by rw[H8 (by omega)];exact Qh hp.1 fun j hj=>q_0.2 j (by omega)),(by rw[H8 (by omega)];exact⟨dT,rfl,Tw h1 (vC fun j hj=>q_0.2 j (by omega))⟩)⟩)⟩)⟩
 case a|b|c|e|f|h|i|k|l|m|o|p|r|s|u|v|w|y|z|a0|a2|a3|a4|a6|a7|a8|aa|ab|ad|ae|af|ah|ai|aj|al|am|an|ap|aq|ar|av|aw|ay|az|b0|b2|b3|b5|b6|b7|b9|ba|bb|bd|be|bf|bh|bi|bj|bl|bm|bn|bp|bq|bs|bt|bv|bw|bx|c0|c1|c2|c4|c5|c6|c8|c9|ca|cc|cd|cf|cg|ch|cj|ck|cl|cn|co|cp|cr|cs|ct|cv|cw|cx|cz|d0|d1|d3|d4|d5|d7|d8|d9|db|dc|dd|df|dg|dh|dj|dk|dm|dn|dp|dr|ds|dt|dv|dw|dx|dz|e0|e1|e3|e4|e5|e7|e8|e9|eb|ec|ed|ef|eg|eh|ej|ek|el|en|eo|eq|er|es|eu|ev|ex|ey|ez|f1|f2|f3|f5|f6|f7|f9|fa|fb|fd|fe|ff|fh|fi|fk|fl|fm|fo|fp|fq|fs|ft|fu|fw|fx|fy|g0|g1|g2|g4|g5|g6|g8|g9|ga|gc|gd|ge|gg|gh|gi|gk|gl|gm|go|gp|gq=>exact⟨rfl,by simp only[fX,fY,fT,List.length_map,List.length_take,hh];have:=hp.1;omega⟩
 case d|g|j|n|q|t|x|a1|a5|a9|ac|ag|ak|ao|au|ax|b1|b4|b8|bc|bg|bk|bo|br|bu|bz|c3|c7|cb|ce|ci|cm|cq|cu|cy|d2|d6|da|de|di|dl|dq|du|dy|e2|e6|ea|ee|ei|em|ep|et|ew|f0|f4|f8|fc|fg|fj|fn|fr|fv|fz|g3|g7|gb|gf|gj|gn|gr=>exact⟨F+1,rfl,⟨zW (by omega),zX (by omega),CA (by omega),dT⟩,zW (by omega),zX (by omega),CA (by omega),(by trivial)⟩
 case gs=>
  subst q_1;exact⟨F+1,⟨by omega,lY q_0.2 (aQ.1 ‹_›)⟩,by omega,⟨by omega,rfl,rfl,rfl,dT⟩,rfl,rfl,rfl,(by trivial)⟩
def Tryz.Xm:bX Tryz.prog Tryz.B.eT Tryz.X 34 false (aX Tryz.aU [.d aC,.obj 0] (fun a x=>a.1.2.1.length<=1000/\x.2.1.1.length<=6) Tryz.D3):=
 bH (X:=Tryz.X) Tryz.UC Tryz.func34 (by kernel_rfl) (fun(a:CD [.d aC,.obj 0]) (x:PD Tryz.aU)=>Tryz.R9 a.1 x) (fun(a:CD [.d aC,.obj 0]) (x:PD Tryz.aU) hw hp=>Xl a.1 x hw hp)
@[reducible] def Tryz.dM:List Ob:=[.box 75 [.obj 1,.obj 3],.box 93 [.obj 2,.d (.int .i64)],.ext 1 (jb cK),.box 117 [.obj 4,.d (.int .i64),.d (.slice aC)],.box 98 [.obj 5,.obj 6,.obj 7,.d (.int .i64),.d .bool],.row true .str,.row true .str,.tok fG]
@[reducible] def Tryz.tn:List Ob:=[.box 93 [.obj 1,.d (.int .i64)],.ext 1 (jb cK),.box 98 [.obj 3,.obj 4,.obj 5,.d (.int .i64),.d .bool],.row true .str,.row true .str,.tok fG]
def Tryz.Mi:List (FuncId×(Bool×aT)):=[(39,Tryz.spZ24)]
def Tryz.Sa:bP Tryz.prog Tryz.B Tryz.X Tryz.Mi:=
 aO (Tryz.L5) (bR Tryz.bQ)
def Tryz.Bw:List (Alt Tryz.tn [.obj 0,.obj 2]):=[
 {bO:=Tryz.tn,res:=[.ia,.d .err],ok:=fun _ x=>(cP x.2.2).2≠0,out:=fun _ x=>x,ret:=fun _ x=>(aI (cP x.2.2).2,())},
 {bO:=Tryz.tn++[.box 75 [.obj 0,.obj 7],.box 117 [.obj 2,.d (.int .i64),.d (.slice aC)]],res:=[.obj 6,.d .err],ok:=fun _ x=>(cP x.2.2).2=0,out:=fun _ x=>(x.1,x.2.1,x.2.2.1,x.2.2.2.1,x.2.2.2.2.1,x.2.2.2.2.2.1,(),((cP x.2.2).1.1,(cP x.2.2).1.2,()),()),ret:=fun _ _=>(aK.nil,())}]
def Wn(n:Int×Unit)(m:List FE×Int×Unit)(d:Dk)(hw:hU [.obj 0,.obj 2] ())(hp:(fun _ x=>dD x.2.2 1000000/\∀i,i<x.2.2.2.2.1.length->(nth .str x.2.2.2.2.1 i).length=64) () (n,m,d)):(dA Tryz.B Tryz.Mi Tryz.f21 [] Tryz.tn [.obj 0,.obj 2] Tryz.Bw () (n,m,d)).holds:=by
 refine holds_of (p:=
  let za:=d.2.2.2.1
  let zb:=za=za
  let zc:=d.2.2.1
  let zd:=(cP d).2
  let ze:=zd≠0
  let zf:=(n,m,d)=(n,m,d)
  let zg:=(aI zd,())
  let zh:=(n,m,d.1,d.2.1,zc,za,(),((cP d).1.1,(cP d).1.2,()),())
  zb/\(dD d 1000000/\∀(i:Nat),i<gE zc->gE (nth Ty.str zc i)=64)/\(ze->((!aK.isNil (aI zd))=true->zb/\ze/\zf/\zg=zg)/\((!aK.isNil (aI zd))=false->False))/\(zd=0->((!aK.isNil aK.nil)=true->zb/\ze/\zf/\(aK.nil,())=zg)/\((!aK.isNil aK.nil)=false->zb/\zd=0/\zh=zh/\(aK.nil,())=(aK.nil,())))) (by kernel_rfl) ?_
 dsimp -iota -proj -eta only;dsimp only at hp;refine⟨rfl,?a,⟨fun h0=>iB (fun h1 =>?b) (fun h1=>(absurd (aQ.1 h1) h0)),fun h0=>⟨fun h1=>absurd (show false=true from h1) (by decide),fun h1 =>?c⟩⟩⟩
 case a|b|c=>trivial
def Tryz.D4:bX Tryz.prog Tryz.B.eT Tryz.X 21 false (aX Tryz.tn [.obj 0,.obj 2] (fun _ x=>dD x.2.2 1000000/\∀i,i<x.2.2.2.2.1.length->(nth .str x.2.2.2.2.1 i).length=64) Tryz.Bw):=
 bH (X:=Tryz.X) Tryz.Sa Tryz.func21 (by kernel_rfl) (fun(a:CD [.obj 0,.obj 2]) (x:PD Tryz.tn)=>[]) (fun(a:CD [.obj 0,.obj 2]) (x:PD Tryz.tn) hw hp=>Wn x.1 x.2.1 x.2.2 hw hp)
def Tryz.F3:List (FuncId×(Bool×aT)):=[(30,(false,aX Tryz.aU [.obj 0,.d .str] (fun _ x=>x.2.1.1.length<=6) Tryz.Bv)),(31,(false,aX Tryz.cH [.obj 0,.d aC] (fun a x=>(a.1.2.1.length<=1000000/\a.1.2.2.1.length<=1000000)/\x.1.2.1.length<=99/\0<=(x.1.1:Int)/\(x.1.1:Int)<=1000000000/\dD x.2 1000000) Tryz.DV))]
def Tryz.K5:bP Tryz.prog Tryz.B Tryz.X Tryz.F3:=
 aO (Tryz.Wm) (aO (Tryz.Uh) (bR Tryz.bQ))
def Tryz.vZ:List (Alt Tryz.dM [.obj 0,.d .str]):=[{bO:=Tryz.dM,res:=[.d .err],out:=fun a x=>((),x.2.1,x.2.2.1,(lK (x.2.1,x.2.2.1,()) x.2.2.2 a.1).1),ret:=fun a x=>(aI (lK (x.2.1,x.2.2.1,()) x.2.2.2 a.1).2,())}]
def Sb(s:List UInt8)(n:Int×Unit)(m:List FE×Int×Unit)(r:Int)(o:List (D aC))(d:Dk)(hw:hU [.obj 0,.d .str] (s,()))(hp:(fun _ x=>gY (x.2.1,x.2.2.1,())/\vN x.2.2.2) (s,()) ((),n,m,(r,o,()),d)):(dA Tryz.B Tryz.F3 Tryz.f10 [] Tryz.dM [.obj 0,.d .str] Tryz.vZ (s,()) ((),n,m,(r,o,()),d)).holds:=by
 refine holds_of (p:=
  let za:=eI (aL (n,m,())) s
  let zb:=d.2.2.2.1=d.2.2.2.1
  let zc:=((r,o,()),d)
  let zd:=lK (n,m,()) zc s
  let ze:=((),n,m,zd.1)
  let zf:=(aI zd.2,())
  let zg:=ky zc za.1
  let zh:=zg.1.2.2.2.2.1
  gE m.1<=6/\(True->((!aK.isNil (aI za.2))=true->zb/\True/\((),n,m,zc)=ze/\(aI za.2,())=zf)/\((!aK.isNil (aI za.2))=false->zb/\((gE za.1.2.1<=1000000/\gE za.1.2.2.1<=1000000)/\gE o<=99/\0<=r/\r<=1000000000/\dD d 1000000)/\(True->zh=zh/\True/\((),n,m,zg.1)=ze/\(aI zg.2,())=zf)))) (by kernel_rfl) ?_
 dsimp -iota -proj -eta only;dsimp only at hp;exact⟨hp.1.st.pre.1,fun h0=>iB (fun h1=>(by rw[Q3 (eG h1)];exact⟨rfl,dT,rfl,rfl⟩)) (fun h1=>⟨rfl,⟨N6 hp.1 (aQ.1 h1),hp.2⟩,fun h2=>(by rw[N5 (aQ.1 h1)];exact⟨rfl,dT,rfl,rfl⟩)⟩)⟩
def Tryz.Sc:bX Tryz.prog Tryz.B.eT Tryz.X 10 false (aX Tryz.dM [.obj 0,.d .str] (fun _ x=>gY (x.2.1,x.2.2.1,())/\vN x.2.2.2) Tryz.vZ):=
 bH (X:=Tryz.X) Tryz.K5 Tryz.func10 (by kernel_rfl) (fun(a:CD [.obj 0,.d .str]) (x:PD Tryz.dM)=>[]) (fun(a:CD [.obj 0,.d .str]) (x:PD Tryz.dM) hw hp=>Sb a.1 x.2.1 x.2.2.1 x.2.2.2.1.1 x.2.2.2.1.2.1 x.2.2.2.2 hw hp)
def Tryz.JK:List (FuncId×(Bool×aT)):=[(38,(false,aX Tryz.cH [.obj 0,.d .str] (fun _ x=>x.1.2.1.length<=100/\0<=(x.1.1:Int)/\(x.1.1:Int)<=1000000000/\dD x.2 1000000) Tryz.Bs))]
def Tryz.OH:bP Tryz.prog Tryz.B Tryz.X Tryz.JK:=
 aO (Tryz.Wg) (bR Tryz.bQ)
def Tryz.x8:List (Alt Tryz.dM [.obj 0,.d .str]):=[{bO:=Tryz.dM,res:=[.d .err],out:=fun a x=>((),x.2.1,x.2.2.1,(gC x.2.2.2 a.1).1),ret:=fun a x=>(aI (gC x.2.2.2 a.1).2,())}]
def UD(s:List UInt8)(n:Int×Unit)(m:List FE×Int×Unit)(r:Int)(o:List (D aC))(d:Dk)(hw:hU [.obj 0,.d .str] (s,()))(hp:(fun _ x=>vN x.2.2.2) (s,()) ((),n,m,(r,o,()),d)):(dA Tryz.B Tryz.JK Tryz.f16 [] Tryz.dM [.obj 0,.d .str] Tryz.x8 (s,()) ((),n,m,(r,o,()),d)).holds:=by
 refine holds_of (p:=
  let za:=gC ((r,o,()),d) s
  let zb:=za.1.2.2.2.2.1
  let zc:=((),n,m,za.1)
  let zd:=(aI za.2,())
  d.2.2.2.1=d.2.2.2.1/\(gE o<=100/\0<=r/\r<=1000000000/\dD d 1000000)/\(True->zb=zb/\True/\zc=zc/\zd=zd)) (by kernel_rfl) ?_
 dsimp -iota -proj -eta only;dsimp only at hp;exact⟨rfl,⟨Nat.le_trans hp.1 (by decide),hp.2⟩,fun h0=>(by trivial)⟩
def Tryz.UE:bX Tryz.prog Tryz.B.eT Tryz.X 16 false (aX Tryz.dM [.obj 0,.d .str] (fun _ x=>vN x.2.2.2) Tryz.x8):=
 bH (X:=Tryz.X) Tryz.OH Tryz.func16 (by kernel_rfl) (fun(a:CD [.obj 0,.d .str]) (x:PD Tryz.dM)=>[]) (fun(a:CD [.obj 0,.d .str]) (x:PD Tryz.dM) hw hp=>UD a.1 x.2.1 x.2.2.1 x.2.2.2.1.1 x.2.2.2.1.2.1 x.2.2.2.2 hw hp)
def Tryz.spZ33:Bool×aT:=(false,aX Tryz.aU [.obj 0,.d .str] (fun _ x=>x.2.1.1.length<=6) Tryz.Bu)
def Tryz.JL:List (FuncId×(Bool×aT)):=[(32,(false,aX Tryz.cH [.obj 0,.d .str] (fun _ x=>∀i,i<x.1.2.1.length->(nth aC x.1.2.1 i).2.1.length<=1000000/\(nth aC x.1.2.1 i).2.2.1.length<=1000000) Tryz.DW)),(33,Tryz.spZ32),(34,(false,aX Tryz.aU [.d aC,.obj 0] (fun a x=>a.1.2.1.length<=1000/\x.2.1.1.length<=6) Tryz.D3)),(22,Tryz.spZ33)]
def Tryz.OI:bP Tryz.prog Tryz.B Tryz.X Tryz.JL:=
 aO (Tryz.Xc) (aO (Tryz.JJ) (aO (Tryz.Xm) (aO (Tryz.Mf) (bR Tryz.bQ))))
def Tryz.x9:List (Alt Tryz.dM [.obj 0,.d .str]):=[{bO:=Tryz.dM,res:=[.d (.slice dG),.d .bool,.d .err],out:=fun _ x=>x,ret:=fun a x=>((ll (x.2.1,x.2.2.1,()) x.2.2.2.1.2.1 a.1).1,(ll (x.2.1,x.2.2.1,()) x.2.2.2.1.2.1 a.1).2.1,aI (ll (x.2.1,x.2.2.1,()) x.2.2.2.1.2.1 a.1).2.2,())}]
def UF(s:List UInt8)(n:Int×Unit)(m:List FE×Int×Unit)(r:Int)(o:List (D aC))(d:Dk)(hw:hU [.obj 0,.d .str] (s,()))(hp:(fun _ x=>x.2.2.1.1.length<=6/\vO x.2.2.2.1.2.1) (s,()) ((),n,m,(r,o,()),d)):(dA Tryz.B Tryz.JL Tryz.f11 [] Tryz.dM [.obj 0,.d .str] Tryz.x9 (s,()) ((),n,m,(r,o,()),d)).holds:=by
 refine holds_of (p:=
  let za:=d.2.2.2.1=d.2.2.2.1
  let zb:=aL (n,m,())
  let zc:=(fO o s).1
  let zd:=gE m.1<=6
  let ze:=((),n,m,(r,o,()),d)
  let zf:=aI (kB zb zc).2
  let zg:=ll (n,m,()) o s
  let zh:=(zg.1,zg.2.1,aI zg.2.2,())
  let zi:=zd/\(True->za/\True/\ze=ze/\((gK zb s).1,false,aI (gK zb s).2,())=zh)
  za/\(∀(i:Nat),i<gE o->gE (nth aC o i).2.1<=1000000/\gE (nth aC o i).2.2.1<=1000000)/\(True->(((fO o s).2)=true->True/\(True->((fP zb zc)=true->(gE zc.2.1<=1000/\zd)/\(True->za/\True/\ze=ze/\((kB zb zc).1,aK.isNil zf,zf,())=zh))/\((fP zb zc)=false->zi)))/\(((fO o s).2)=false->zi))) (by kernel_rfl) ?_
 dsimp -iota -proj -eta only;dsimp only at hp;refine⟨rfl,hp.2.wide,fun h0=>⟨fun h1=>⟨dT,fun h2=>⟨fun h3=>⟨⟨Q4 hp.2 h1,hp.1⟩,fun h4=>(by rw[Q5 h1 h3,VP];exact⟨rfl,dT,rfl,rfl⟩)⟩,fun h3=>⟨?a,fun h4=>(by rw[xV fun z=>hc (z.2.symm.trans h3)];exact⟨rfl,dT,rfl,rfl⟩)⟩⟩⟩,fun h1=>⟨?b,fun h2=>(by rw[xV fun z=>hc (z.1.symm.trans h1)];exact⟨rfl,dT,rfl,rfl⟩)⟩⟩⟩
 case a|b=>omega
def Tryz.JM:bX Tryz.prog Tryz.B.eT Tryz.X 11 false (aX Tryz.dM [.obj 0,.d .str] (fun _ x=>x.2.2.1.1.length<=6/\vO x.2.2.2.1.2.1) Tryz.x9):=
 bH (X:=Tryz.X) Tryz.OI Tryz.func11 (by kernel_rfl) (fun(a:CD [.obj 0,.d .str]) (x:PD Tryz.dM)=>[]) (fun(a:CD [.obj 0,.d .str]) (x:PD Tryz.dM) hw hp=>UF a.1 x.2.1 x.2.2.1 x.2.2.2.1.1 x.2.2.2.1.2.1 x.2.2.2.2 hw hp)
def F4(e:D aC):dX:=[
 (0,fun st=>{X:=Nat,inv:=fun i=>i<=e.2.1.length/\∀j,j<i->(nth aG e.2.1 j).1.length<=20,cB:=fun i=>e.2.1.length-i,bM:=fun i=>[(3,sI i)],keep:=[1]})]
def Gp(e:D aC)(hw:gM [aC] e):(dL Tryz.B [] Tryz.f29 (F4 e) [aC] [.bool] (fun e y=>y=true->se e) e).holds:=by
 refine holds_of (p:=
  let za:=false=true->se e
  let zb:=e.2.1
  let zc:=gE zb
  let zd:=e.2.2.1
  let ze:=fun(F:Nat)=>gE (nth aG zb F).1
  gE e.1<=aM->((decide ((↑(gE e.1):Int) > 20))=true->za)/\((decide ((↑(gE e.1):Int) > 20))=false->zc<=aM->((decide ((↑zc:Int) > 8))=true->za)/\((decide ((↑zc:Int) > 8))=false->gE zd<=aM->((decide ((↑(gE zd):Int) > 40))=true->za)/\((decide ((↑(gE zd):Int) > 40))=false->(∃(x:Nat),(x<=zc/\∀(j:Nat),j<x->gE (nth aG zb j).1<=20)/\(0=(↑x:Int)/\True)/\True)/\∀F:Nat,(F<=zc/\∀(j:Nat),j<F->gE (nth aG zb j).1<=20)->zc<=aM->((decide ((↑F:Int)<(↑zc:Int)))=true->(0<=(↑F:Int)/\(↑F:Int)<(↑zc:Int))/\(ze F<=aM->((decide ((↑(ze F):Int) > 20))=true->za)/\((decide ((↑(ze F):Int) > 20))=false->aJ (↑F:Int)->aJ 1->aJ ((↑F:Int)+1)/\∃(x':Nat),(x'<=zc/\∀(j:Nat),j<x'->gE (nth aG zb j).1<=20)/\zc-x'<zc-F/\((↑F:Int)+1=(↑x':Int)/\True)/\(e.1=e.1/\zb=zb/\zd=zd/\True)/\True)))/\((decide ((↑F:Int)<(↑zc:Int)))=false->true=true->se e))))) (by kernel_rfl) ?_
 dsimp -iota -proj -eta only;refine fun h0=>iL (fun h1 =>?a) (fun h1 h2=>iL (fun h3 =>?b) (fun h3 h4=>iL (fun h5 =>?c) (fun h5=>⟨?d,fun F q_0 h6=>iL (fun h7=>⟨(by omega),fun h8=>iL (fun h9 =>?e) (fun h9 h10 h11=>⟨(by simp only[aJ,aM]at*;omega),(⟨F+1,⟨by omega,lY q_0.2 (by omega)⟩,by omega,⟨by omega,dT⟩,(by trivial)⟩)⟩)⟩) (fun h7=>(fun _=>⟨by omega,by omega,by omega,fun i hi=>q_0.2 i (by omega)⟩))⟩)))
 case a|b|c|e=>simp_all
 case d=>refine⟨0,?_⟩;(repeat' (first|exact trivial|rfl|omega|assumption|apply And.intro))
def Tryz.ri:bW Tryz.prog Tryz.B.eT Tryz.X 29 [aC] [.bool] (fun _=>True) (fun e y=>y=true->se e):=
 cD (X:=Tryz.X) (bR Tryz.bQ) Tryz.func29 (by kernel_rfl) (fun x=>F4 x) (fun x hw hp=>Gp x hw)
def Tryz.spZ34:Bool×aT:=(true,p7 [aC] [.bool] (fun _=>True) (fun e y=>y=true->se e))
def Tryz.JN:List (FuncId×(Bool×aT)):=[(29,Tryz.spZ34)]
def Tryz.OJ:bP Tryz.prog Tryz.B Tryz.X Tryz.JN:=
 aO (ir Tryz.ri) (bR Tryz.bQ)
def F5(l:List (D bT))(m:Int):dX:=[
 (0,fun st=>{X:=Nat×Int,inv:=fun x=>x.1<=l.length/\(0<=x.2/\x.2<=20000)/\∀j,j<x.1->xp (nth bT l j),cB:=fun x=>l.length-x.1,bM:=fun x=>[(6,sI x.1),(5,sI x.2)],keep:=[0]})]
def JO(l:List (D bT))(m:Int)(hw:gM [.slice bT,.int .i64] (l,m)):(dL (MT Tryz.B) Tryz.JN Tryz.f8 (F5 l m) [.slice bT,.int .i64] [.bool] (fun x y=>y=true->rH x.1 x.2) (l,m)).holds:=by
 refine holds_of (p:=
  let za:=gE l
  let zb:=false=true->rH l m
  let zc:=fun(F:Nat×Int)=>(↑F.1:Int)<(↑za:Int)
  let zd:=fun(F:Nat×Int)=>0<=(↑F.1:Int)/\zc F
  let ze:=fun(F:Nat×Int)=>gE (nth bT l F.1).2.2.1
  let zf:=fun(F:Nat×Int)=>gE (nth bT l F.1).2.1
  za<=aM->((decide ((↑za:Int) > m))=true->zb)/\((decide ((↑za:Int) > m))=false->(∃(x:Nat×Int),(x.1<=za/\(0<=x.2/\x.2<=20000)/\∀(j:Nat),j<x.1->xp (nth bT l j))/\(0=(↑x.1:Int)/\0=x.2/\True)/\True)/\∀F:Nat×Int,(F.1<=za/\(0<=F.2/\F.2<=20000)/\∀(j:Nat),j<F.1->xp (nth bT l j))->za<=aM->((decide (zc F))=true->zd F/\(ze F<=aM->∀G:Int,G=hf hb (F.2+(↑(ze F):Int))->zd F/\(zf F<=aM->((decide ((↑(zf F):Int) > 100))=true->zb)/\((decide ((↑(zf F):Int) > 100))=false->zd F/\(ze F<=aM->((decide ((↑(ze F):Int) > 1300))=true->zb)/\((decide ((↑(ze F):Int) > 1300))=false->((decide (G > 20000))=true->zb)/\((decide (G > 20000))=false->zd F/\True/\∀I:Bool,(I=true->se (nth bT l F.1).2.2.2.2.2.1)->((!I)=true->zb)/\((!I)=false->∀K:Int,K=hf hb ((↑F.1:Int)+1)->∃(x':Nat×Int),(x'.1<=za/\(0<=x'.2/\x'.2<=20000)/\∀(j:Nat),j<x'.1->xp (nth bT l j))/\za-x'.1<za-F.1/\(K=(↑x'.1:Int)/\G=x'.2/\True)/\True))))))))/\((decide (zc F))=false->true=true->rH l m))) (by kernel_rfl) ?_
 dsimp -iota -proj -eta only;refine fun h0=>iL (fun h1 =>?a) (fun h1=>⟨(by exact⟨(0,0),⟨by omega,by simp,fun j hj=>by simp only at hj;omega⟩,⟨rfl,rfl,dT⟩,dT⟩),fun F q_0 h2=>iL (fun h3=>⟨?b,fun h4 G q_1=>⟨?c,fun h5=>iL (fun h6 =>?d) (fun h6=>⟨?e,fun h7=>iL (fun h8 =>?f) (fun h8=>iL (fun h9 =>?g) (fun h9=>⟨?h,dT,fun I q_2=>iB (fun h10 =>?i) (fun h10 K q_3 =>?j)⟩))⟩)⟩⟩) (fun h3=>(fun _=>⟨by omega,fun i hi=>q_0.2.2 i (by omega)⟩))⟩)
 case a|d|f|g|i=>simp_all
 case b|c|e|h=>omega
 case j=>
  have hw2:hf hb (F.2+(gE (nth bT l F.1).2.2.1:Int))=F.2+(gE (nth bT l F.1).2.2.1:Int):=lD (by omega) (by omega);have hw3:hf hb ((F.1:Int)+1)=(F.1:Int)+1:=lD (by omega) (by have:(aM:Int)=9223372036854775807:=rfl;omega);exact⟨(F.1+1,_),⟨by omega,by simp only;omega,lY q_0.2.2 ⟨by omega,by omega,by simp_all⟩⟩,by simp only;omega,⟨by simp only;omega,rfl,dT⟩,(by trivial)⟩
def Tryz.ya:bW Tryz.prog Tryz.B.eT Tryz.X 8 [.slice bT,.int .i64] [.bool] (fun _=>True) (fun x y=>y=true->rH x.1 x.2):=
 cD (B:=(MT Tryz.B)) (X:=Tryz.X) (bP.wrap Tryz.OJ) Tryz.func8 (by kernel_rfl) (fun x=>F5 x.1 x.2) (fun x hw hp=>JO x.1 x.2 hw)
def Tryz.spZ35:Bool×aT:=(true,p7 [.slice bT,.int .i64] [.bool] (fun _=>True) (fun x y=>y=true->rH x.1 x.2))
def Tryz.spZ36:Bool×aT:=(false,aX [] [] (fun _ _=>True) Tryz.DZ)
def Tryz.spZ37:Bool×aT:=(false,aX Tryz.aU [.obj 0,.d .str,.d .str] (fun _ x=>x.2.1.1.length<=6/\0<=x.1.1/\x.1.1<=1000000) Tryz.vW)
def Tryz.spZ38:Bool×aT:=(false,aX Tryz.aU [.obj 0,.d .str] (fun _ _=>True) Tryz.tR)
def Tryz.F6:List (FuncId×(Bool×aT)):=[(45,Tryz.spZ0),(17,Tryz.spZ1),(29,Tryz.spZ34),(8,Tryz.spZ35),(26,Tryz.spZ36),(13,Tryz.spZ27),(27,Tryz.spZ37),(28,Tryz.spZ38)]
def Tryz.K6:bP Tryz.prog Tryz.B Tryz.X Tryz.F6:=
 aO (aE Tryz.jt) (aO (aE Tryz.iw) (aO (ir Tryz.ri) (aO (ir Tryz.ya) (aO (Tryz.L7) (aO (Tryz.sy) (aO (Tryz.FN) (aO (Tryz.C5) (bR Tryz.bQ))))))))
def Tryz.Mj(l:List (D bT))(f:cG):dX:=[(0,fun st=>{X:=Nat,inv:=fun i=>i<=l.length,cB:=fun i=>l.length-i,bM:=fun i=>[(4,sI i)],keep:=[0,1],aF:=fun i=>[(0,.cells 93 [.eW 1,.d (.int .i64) (jh f (l.take i)).1.1]),(1,.ext 1 (jb cK) (jh f (l.take i)).2.1)],ib:=[0,1]})]
def Tryz.Bx:List (Alt Tryz.aU [.obj 0,.d (.slice bT)]):=[{bO:=Tryz.aU,res:=[],out:=fun a x=>jh x a.1,ret:=fun _ _=>()}]
def Wo(l:List (D bT))(f:cG)(hw:hU [.obj 0,.d (.slice bT)] (l,()))(hp:(fun _ x=>dH x) (l,()) f):(dA Tryz.B Tryz.F6 Tryz.f14 (Tryz.Mj l f) Tryz.aU [.obj 0,.d (.slice bT)] Tryz.Bx (l,()) f).holds:=by
 refine holds_of (p:=
  let za:=gE l
  let zb:=C.eW 1=C.eW 1
  let zc:=fun(F:Nat)=>0<=(↑F:Int)/\(↑F:Int)<(↑za:Int)
  let zd:=fun(F:Nat)=>jh f (gN F l)
  let ze:=aJ 1
  let zf:=fun(F:Nat)=>(↑F:Int)+1
  let zg:=fun(F:Nat)=>(cL (zd F) (nth bT l F).2.1 (nth bT l F).2.2.1).1
  let zh:=fun(F:Nat)=>(fL (zd F) (nth bT l F).2.1).1
  (∃(x:Nat),x<=za/\(0=(↑x:Int)/\True)/\(zb/\f.1.1=(jh f (gN x l)).1.1/\True)/\f.2.1=(jh f (gN x l)).2.1/\True)/\∀F:Nat,F<=za->za<=aM->((decide ((↑F:Int)<(↑za:Int)))=true->zc F/\(((nth bT l F).1 == [119,114,105,116,101])=true->zc F/\zc F/\(gE (zd F).2.1.1<=6/\0<=(zd F).1.1/\(zd F).1.1<=1000000)/\(True->aJ (↑F:Int)->ze->aJ (zf F)/\∃(x':Nat),x'<=za/\za-x'<za-F/\(zf F=(↑x':Int)/\True)/\(zb/\(zg F).1.1=(jh f (gN x' l)).1.1/\True)/\(zg F).2.1=(jh f (gN x' l)).2.1/\True))/\(((nth bT l F).1 == [119,114,105,116,101])=false->zc F/\(((nth bT l F).1 == [114,101,109,111,118,101])=true->zc F/\True/\(True->aJ (↑F:Int)->ze->aJ (zf F)/\∃(x':Nat),x'<=za/\za-x'<za-F/\(zf F=(↑x':Int)/\True)/\(zb/\(zh F).1.1=(jh f (gN x' l)).1.1/\True)/\(zh F).2.1=(jh f (gN x' l)).2.1/\True))/\(((nth bT l F).1 == [114,101,109,111,118,101])=false->aJ (↑F:Int)->ze->aJ (zf F)/\∃(x':Nat),x'<=za/\za-x'<za-F/\(zf F=(↑x':Int)/\True)/\(zb/\(zd F).1.1=(jh f (gN x' l)).1.1/\True)/\(zd F).2.1=(jh f (gN x' l)).2.1/\True)))/\((decide ((↑F:Int)<(↑za:Int)))=false->True/\zd F=jh f l/\()=())) (by kernel_rfl) ?_
 dsimp -iota -proj -eta only;refine⟨(⟨0,by omega,⟨rfl,dT⟩,⟨rfl,rfl,dT⟩,rfl,dT⟩),fun F q_0 h0=>iL (fun h1=>⟨?a,iQ (fun h2=>⟨?b,?c,((dH.done _ hp).pre),fun h3 h4 h5=>⟨?d,(by exact⟨F+1,by omega,by omega,⟨by omega,dT⟩,by rw[vr (by omega),Km (by unfold sf;assumption)];exact⟨⟨rfl,rfl,dT⟩,rfl,dT⟩⟩)⟩⟩) (fun h2=>⟨?e,iQ (fun h3=>⟨?f,dT,fun h4 h5 h6=>⟨?g,(by exact⟨F+1,by omega,by omega,⟨by omega,dT⟩,by rw[vr (by omega),HR (by unfold sf;assumption) (by unfold uo;assumption)];exact⟨⟨rfl,rfl,dT⟩,rfl,dT⟩⟩)⟩⟩) (fun h3 h4 h5=>⟨?h,(by exact⟨F+1,by omega,by omega,⟨by omega,dT⟩,by rw[vr (by omega),M5 (by unfold sf;assumption) (by unfold uo;assumption)];exact⟨⟨rfl,rfl,dT⟩,rfl,dT⟩⟩)⟩)⟩)⟩) (fun h1=>(by rw[List.take_of_length_le (by omega)];exact⟨dT,rfl,rfl⟩))⟩
 case a|b|c|e|f=>omega
 case d|g|h=>simp only[aJ,aM]at*;omega
def Tryz.Wp:bX Tryz.prog Tryz.B.eT Tryz.X 14 false (aX Tryz.aU [.obj 0,.d (.slice bT)] (fun _ x=>dH x) Tryz.Bx):=
 bH (X:=Tryz.X) Tryz.K6 Tryz.func14 (by kernel_rfl) (fun(a:CD [.obj 0,.d (.slice bT)]) (x:PD Tryz.aU)=>Tryz.Mj a.1 x) (fun(a:CD [.obj 0,.d (.slice bT)]) (x:PD Tryz.aU) hw hp=>Wo a.1 x hw hp)
def Tryz.spZ39:Bool×aT:=(false,aX Tryz.tn [.obj 0,.obj 2] (fun _ x=>dD x.2.2 1000000/\∀i,i<x.2.2.2.2.1.length->(nth .str x.2.2.2.2.1 i).length=64) Tryz.Bw)
def Tryz.spZ40:Bool×aT:=(false,aX Tryz.dM [.obj 0,.d .str] (fun _ x=>x.2.2.1.1.length<=6/\vO x.2.2.2.1.2.1) Tryz.x9)
def Tryz.JP:List (FuncId×(Bool×aT)):=[(45,Tryz.spZ0),(17,Tryz.spZ1),(25,(false,aX [] [] (fun _ _=>True) Tryz.tQ)),(26,Tryz.spZ36),(27,Tryz.spZ37),(28,Tryz.spZ38),(21,Tryz.spZ39),(11,Tryz.spZ40)]
def Tryz.OK:bP Tryz.prog Tryz.B Tryz.X Tryz.JP:=
 aO (aE Tryz.jt) (aO (aE Tryz.iw) (aO (Tryz.On) (aO (Tryz.L7) (aO (Tryz.FN) (aO (Tryz.C5) (aO (Tryz.D4) (aO (Tryz.JM) (bR Tryz.bQ))))))))
def Tryz.yb:List (Alt [] []):=[{bO:=Tryz.dM,res:=[.obj 1,.obj 0,.obj 4,.d .bool],out:=fun _ _=>((),I5.1,I5.2.1,gv),ret:=fun _ _=>(true,())}]
def UG  (hw:hU [] ()):(dA Tryz.B Tryz.JP Tryz.f7 [] [] [] Tryz.yb () ()).holds:=by
 refine holds_of (p:=
  let za:=(iX (rb (112:Int))).1
  let zb:=za.2.2.2.1=za.2.2.2.1
  let zc:=(cP za).2
  let zd:=gE (@ha FE)<=6/\(0:Int)<=(0:Int)/\(0:Int)<=(1000000:Int)
  let ze:=!aK.isNil (aI (0:Int))
  let zf:=[(122:UInt8),122]
  let zg:=((0:Int)+(1:Int),())
  let zh:=eZ cK (@ha FE) zf ([(119:UInt8),111,114,100,32,53,10,98,97,115,101,32,48,32,51,10],zg) (0:Int)
  let zi:=(cP za).1.2
  let zj:=(mT cK (@ha FE) zf (0:Int),())
  let zk:=ll (zg,(zh,zj),()) zi zf
  True/\(True->True/\(True->((!true)=true->False)/\((!true)=false->zb/\(dD za 1000000/\∀(i:Nat),i<gE za.2.2.1->gE (nth Ty.str za.2.2.1 i)=64)/\(zc≠(0:Int)->((!aK.isNil (aI zc))=true->False)/\((!aK.isNil (aI zc))=false->zd/\(True->(ze=true->False)/\(ze=false->False))))/\(zc=(0:Int)->((!aK.isNil aK.nil)=true->False)/\((!aK.isNil aK.nil)=false->zd/\(True->(ze=true->False)/\(ze=false->zb/\(gE zh<=6/\vO zi)/\(True->((!aK.isNil (aI zk.2.2))=true->False)/\((!aK.isNil (aI zk.2.2))=false->((zk.2.1)=true->False)/\((zk.2.1)=false->gE zk.1<=aM->(((↑(gE zk.1):Int) != (1:Int))=true->False)/\(((↑(gE zk.1):Int) != (1:Int))=false->True/\(True->(ze=true->False)/\(ze=false->zb/\True/\((),zg,(fW cK zh zf,zj),((cP za).1.1,zi,()),za)=((),zg,(fW cK (eZ cK (@ha FE) zf (A7,zg) (0:Int)) zf,zj),gv)/\(true,())=(true,()))))))))))))))) (by kernel_rfl) ?_
 dsimp -iota -proj -eta only;refine⟨dT,fun h0=>⟨dT,fun h1=>⟨fun h2=>absurd (show false=true from h2) (by decide),fun h2=>⟨rfl,⟨jH.yK,jH.sec⟩,⟨fun h3=>iB (fun h4 =>?a) (fun h4=>⟨?b,fun h5=>⟨fun h6=>absurd (show false=true from h6) (by decide),fun h6 =>?c⟩⟩),fun h3=>⟨fun h4=>absurd (show false=true from h4) (by decide),fun h4=>⟨?d,fun h5=>⟨fun h6=>absurd (show false=true from h6) (by decide),fun h6=>⟨rfl,⟨VU,wi.TW⟩,fun h7=>iB (fun h8=>(hc ((congrArg (fun z:List (D dG)×Bool×Int=>(aI z.2.2).isNil) DS).symm.trans h8))) (fun h8=>⟨fun h9=>(hc ((congrArg (fun z:List (D dG)×Bool×Int=>z.2.1) DS).symm.trans h9)),fun h9 h10=>iN (fun h11=>(absurd (congrArg (fun z:List (D dG)×Bool×Int=>(z.1.length:Int)) DS) h11)) (fun h11=>⟨dT,fun h12=>⟨fun h13=>absurd (show false=true from h13) (by decide),fun h13=>⟨rfl,dT,congrArg (fun z=>((),I5.1,I5.2.1,z)) Af,rfl⟩⟩⟩)⟩)⟩⟩⟩⟩⟩⟩⟩⟩⟩
 case a|c=>exact absurd jH.yJ ‹_›
 case b|d=>trivial
def Tryz.UH:bX Tryz.prog Tryz.B.eT Tryz.X 7 false (aX [] [] (fun _ _=>True) Tryz.yb):=
 bH (X:=Tryz.X) Tryz.OK Tryz.func7 (by kernel_rfl) (fun(a:CD []) (x:PD [])=>[]) (fun(a:CD []) (x:PD []) hw hp=>UG  hw)
def Tryz.Mk:List (FuncId×(Bool×aT)):=[(10,(false,aX Tryz.dM [.obj 0,.d .str] (fun _ x=>gY (x.2.1,x.2.2.1,())/\vN x.2.2.2) Tryz.vZ)),(16,(false,aX Tryz.dM [.obj 0,.d .str] (fun _ x=>vN x.2.2.2) Tryz.x8)),(21,Tryz.spZ39),(14,(false,aX Tryz.aU [.obj 0,.d (.slice bT)] (fun _ x=>dH x) Tryz.Bx))]
def Tryz.Sd:bP Tryz.prog Tryz.B Tryz.X Tryz.Mk:=
 aO (Tryz.Sc) (aO (Tryz.UE) (aO (Tryz.D4) (aO (Tryz.Wp) (bR Tryz.bQ))))
def Tryz.F7:List (FuncId×(Bool×aT)):=[(42,(true,cC [.slice (.int .i64),.slice (.int .i64)] [.bool] (fun _=>True) (fun x=>mK x.1 x.2)))]
def Tryz.K7:bP Tryz.prog Tryz.B Tryz.X Tryz.F7:=
 aO (aE Tryz.D2) (bR Tryz.bQ)
def F8(a:List (D dG))(b:List (D dG)):dX:=[
 (0,fun st=>{X:=Nat,inv:=fun i=>i<=a.length,cB:=fun i=>a.length-i,bM:=fun i=>[(5,sI i)],keep:=[0,1]})]
def JQ(a:List (D dG))(b:List (D dG))(hw:gM [.slice dG,.slice dG] (a,b)):(dL Tryz.B Tryz.F7 Tryz.f23 (F8 a b) [.slice dG,.slice dG] [.bool] (fun x y=>x.1=x.2->y=true) (a,b)).holds:=by
 refine holds_of (p:=
  let za:=gE a
  let zb:=(↑(gE b):Int)
  let zc:=a=b->false=true
  let zd:=fun(F:Nat)=>0<=(↑F:Int)/\(↑F:Int)<(↑za:Int)
  let ze:=fun(F:Nat)=>0<=(↑F:Int)/\(↑F:Int)<zb
  za<=aM->gE b<=aM->(((↑za:Int) != zb)=true->zc)/\(((↑za:Int) != zb)=false->(∃(x:Nat),x<=za/\(0=(↑x:Int)/\True)/\True)/\∀F:Nat,F<=za->za<=aM->((decide ((↑F:Int)<(↑za:Int)))=true->zd F/\ze F/\True/\zd F/\ze F/\((!(nth dG a F).1 == (nth dG b F).1)=true->zc)/\((!(nth dG a F).1 == (nth dG b F).1)=false->zd F/\ze F/\(((nth dG a F).2.1 != (nth dG b F).2.1)=true->zc)/\(((nth dG a F).2.1 != (nth dG b F).2.1)=false->((!mK (nth dG a F).2.2.1 (nth dG b F).2.2.1)=true->zc)/\((!mK (nth dG a F).2.2.1 (nth dG b F).2.2.1)=false->aJ (↑F:Int)->aJ 1->aJ ((↑F:Int)+1)/\∃(x':Nat),x'<=za/\za-x'<za-F/\((↑F:Int)+1=(↑x':Int)/\True)/\True))))/\((decide ((↑F:Int)<(↑za:Int)))=false->a=b->true=true))) (by kernel_rfl) ?_
 dsimp -iota -proj -eta only;refine fun h0 h1=>iN (fun h2=>(by intro e;subst e;exact absurd rfl h2)) (fun h2=>⟨(⟨0,by omega,⟨rfl,dT⟩,dT⟩),fun F q_0 h3=>iL (fun h4=>⟨?a,?b,dT,?c,?d,⟨fun h5 =>?e,fun h5=>⟨?f,?g,iN (fun h6 =>?h) (fun h6=>iB (fun h7 =>?i) (fun h7 h8 h9=>⟨?j,?k⟩))⟩⟩⟩) (fun h4=>(by simp_all))⟩)
 case a|b|c|d=>omega
 case e=>
  simp only[bl,reduceCtorEq]at h5;intro e;subst e;exact absurd rfl h5
 case f|g=>
  simp only[bl,reduceCtorEq]at h5;omega
 case h=>
  simp only[bl,reduceCtorEq]at h5;intro e;subst e;exact absurd rfl h6
 case i=>
  simp only[bl,reduceCtorEq]at h5;intro e;subst e;simp[mK]at h7
 case j=>
  simp only[bl,reduceCtorEq]at h5;simp only[aJ,aM]at*;omega
 case k=>
  simp only[bl,reduceCtorEq]at h5;exact⟨F+1,by omega,by omega,⟨by omega,dT⟩,(by trivial)⟩
def Tryz.JR:bW Tryz.prog Tryz.B.eT Tryz.X 23 [.slice dG,.slice dG] [.bool] (fun _=>True) (fun x y=>x.1=x.2->y=true):=
 cD (X:=Tryz.X) Tryz.K7 Tryz.func23 (by kernel_rfl) (fun x=>F8 x.1 x.2) (fun x hw hp=>JQ x.1 x.2 hw)
def Tryz.pQ:List (Alt Tryz.bB [.obj 0,.d (.int .u64)]):=[{bO:=Tryz.bB,res:=[],out:=fun a x=>nt x a.1,ret:=fun _ _=>()}]
def Tryz.Gq:Tryz.pQ=Tryz.ou:=by
 unfold Tryz.pQ Tryz.ou;simp only[Ag]
def Tryz.JS:bX Tryz.prog Tryz.B.eT Tryz.X 20 false (aX Tryz.bB [.obj 0,.d (.int .u64)] (fun _ x=>x.2.1.length=x.2.2.1.length/\∀i,i<x.2.2.2.1.length->0<=((nth fG x.2.2.2.1 i).1:Int)/\((nth fG x.2.2.2.1 i).1:Int)<x.2.2.1.length) Tryz.pQ):=by
 rw[Tryz.Gq];exact Tryz.tP
end Go.Proofs.YtgokjhhcfemnhadGreatDoor

