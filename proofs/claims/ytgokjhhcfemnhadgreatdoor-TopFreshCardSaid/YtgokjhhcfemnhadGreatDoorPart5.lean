/- A part of the proof that the law TopFreshCard holds of the given program: facts that are used there. -/
import Derived.Test.YtgokjhhcfemnhadGreatDoorPart4
set_option linter.unusedSimpArgs false
set_option linter.unusedVariables false
set_option maxRecDepth 100000
set_option maxHeartbeats 4000000
set_option linter.defProp false
noncomputable section
open True renaming intro->dT
open List renaming length->gE,take->gN,nil->ha,length_singleton->hh
open Go.IntKind renaming i64->hb,wrap->hf
open Bool renaming noConfusion->hc
open Nat renaming zero_le->hg,not_lt_zero->hk
namespace Go.Proofs.YtgokjhhcfemnhadGreatDoor
open Go.Vg Go.Mrl
def Tryz.LK:List (FuncId×(Bool×aU)):=[(40,Tryz.spZ27),(13,Tryz.spZ23)]
def Tryz.Rt:bP Tryz.prog Tryz.B Tryz.X Tryz.LK:=
 aQ (Tryz.FK) (aQ (Tryz.p5) (bR Tryz.bQ))
def Tryz.LL(s:List UInt8)(f:cH):dY:=[
 (0,fun st=>{X:=Nat,inv:=fun i=>i<=gE (cO (.slice .str) st 6),cB:=fun i=>gE (cO (.slice .str) st 6)-i,bK:=fun i=>[(35,sI i)],keep:=[0,4,8,11,33,34],aF:=fun i=>[(bF st 11,.cells 53 [.d .str s,.app aH (bW (aG f) (cO (.slice .str) st 6) (cO (.slice (.int .i64)) st 8) i) (lf st (bF st 11) 1),.d (.slice aR) (cO (.slice aR) st 9)]),(lf st (bF st 11) 1,.tok aH (bW (aG f) (cO (.slice .str) st 6) (cO (.slice (.int .i64)) st 8) i))],gP:=[bF st 11,lf st (bF st 11) 1]})]
def Tryz.Bh:List (Alt Tryz.aW [.obj 0,.d .str]):=[{bN:=Tryz.aW,res:=[.d aC,.d .err],out:=fun _ x=>x,ret:=fun a x=>((cK (aG x) a.1).1,aJ (cK (aG x) a.1).2,())}]
def VL(s:List UInt8)(f:cH)(hw:gV [.obj 0,.d .str] (s,()))(hp:(fun _ x=>x.2.1.1.length<=6) (s,()) f):(cY Tryz.B Tryz.LK Tryz.f30 (Tryz.LL s f) Tryz.aW [.obj 0,.d .str] Tryz.Bh (s,()) f).holds:=by
 refine holds_of (p:=
  let za:=aG f
  let zb:=aY za s
  let zc:=aJ zb.2.2.2.2
  let zd:=([],[],[],())
  let ze:=((cK za s).1,aJ (cK za s).2,())
  let zf:=zb.1
  let zg:=gE zf
  let zh:=zb.2.2.1
  let zi:=zb.2.2.2.1
  let zj:=zi=zi/\True
  let zk:=fun(F:Nat)=>aJ (aG f (nth Ty.str zf F)).2.2
  let zl:=fun(F:Nat)=>bW za zf zh F
  let zm:=fun(F:Nat)=>[(nth Ty.str zf F,(aG f (nth Ty.str zf F)).2.1,nth (Ty.int hb) zh F,())]
  let zn:=@ha (Int×Int×Int×Unit)=@ha (Int×Int×Int×Unit)
  let zo:=@ha (List UInt8×Int×Int×Unit)=@ha (List UInt8×Int×Int×Unit)
  gE f.2.1.1<=6/\(True->((!aL.isNil zc)=true->True/\f=f/\(zd,zc,())=ze)/\((!aL.isNil zc)=false->zg<=aN->(∃(x:Nat),x<=zg/\(0=(↑x:Int)/\True)/\(s=s/\@ha (List UInt8×Int×Int×Unit)=bW za zf zh x/\zj)/\@ha (List UInt8×Int×Int×Unit)=bW za zf zh x/\True)/\∀F:Nat,F<=zg->((decide ((↑F:Int)<(↑zg:Int)))=true->(0<=(↑F:Int)/\(↑F:Int)<(↑zg:Int))/\True/\(True->((!aL.isNil (zk F))=true->True/\f=f/\(zd,zk F,())=ze)/\((!aL.isNil (zk F))=false->(0<=(↑F:Int)/\(↑F:Int)<(↑(gE zh):Int))/\(zl F=zl F/\gE (zl F)+gE (zm F)<=1000000000)/\(aM (↑F:Int)->aM 1->aM ((↑F:Int)+1)/\∃(x':Nat),x'<=zg/\zg-x'<zg-F/\((↑F:Int)+1=(↑x':Int)/\True)/\(s=s/\zl F++zm F=bW za zf zh x'/\zj)/\zl F++zm F=bW za zf zh x'/\zn/\zo/\(C.eM 1=C.eM 1/\f.1.1=f.1.1/\True)/\f.2.1=f.2.1/\(@ha UInt8=@ha UInt8/\zo/\zn/\True)/\zn/\zo/\True))))/\((decide ((↑F:Int)<(↑zg:Int)))=false->True/\f=f/\((s,zl F,zi,()),aL.nil,())=ze)))) (by kernel_rfl) ?_
 dsimp -iota -proj -eta only;exact⟨(by trivial),fun h0=>iB (fun h1=>(by exact⟨dT,rfl,by rw[HO (dU h1)];rfl⟩)) (fun h1 h2=>⟨(⟨0,hg _,⟨rfl,dT⟩,⟨rfl,rfl,rfl,dT⟩,rfl,(by trivial)⟩),fun F q_0=>iL (fun h3=>⟨(by omega),dT,fun h4=>iB (fun h5=>(absurd (ES (jA hp) (aK.1 h1) (by omega)) (dU h5))) (fun h5=>⟨(by have:=(ET (jA hp) (aK.1 h1)).1;omega),(by exact⟨rfl,by rw[dP];have:=(ET (jA hp) (aK.1 h1)).2;simp only[hh];omega⟩),fun h6 h7=>⟨(by simp only[aM,aN]at*;omega),(⟨F+1,by omega,by omega,⟨by omega,dT⟩,⟨rfl,(xx _ _ _ _).symm,rfl,dT⟩,(xx _ _ _ _).symm,(by trivial)⟩)⟩⟩)⟩) (fun h3=>(by exact⟨dT,rfl,by rw[yx (aK.1 h1),show F=gE (aY (aG f) s).1 by omega];rfl⟩))⟩)⟩
def Tryz.VM:bY Tryz.prog Tryz.B.eT Tryz.X 30 false (aZ Tryz.aW [.obj 0,.d .str] (fun _ x=>x.2.1.1.length<=6) Tryz.Bh):=
 bH (X:=Tryz.X) Tryz.Rt Tryz.func30 (by kernel_rfl) (fun(a:CD [.obj 0,.d .str]) (x:PD Tryz.aW)=>Tryz.LL a.1 x) (fun(a:CD [.obj 0,.d .str]) (x:PD Tryz.aW) hw hp=>VL a.1 x hw hp)
def Tryz.Jj:List (FuncId×(Bool×aU)):=[(13,Tryz.spZ23)]
def Tryz.Oc:bP Tryz.prog Tryz.B Tryz.X Tryz.Jj:=
 aQ (Tryz.p5) (bR Tryz.bQ)
def Tryz.Jk(e:D aC)(f:cH):dY:=[
 (0,fun st=>{X:=Nat,inv:=fun i=>i<=gE e.2.1/\∀j,j<i->je (aG f) (nth aH e.2.1 j)=true,cB:=fun i=>gE e.2.1-i,bK:=fun i=>[(13,sI i)],keep:=[1,2,11,12]})]
def Tryz.xU:List (Alt Tryz.aW [.d aC,.obj 0]):=[{bN:=Tryz.aW,res:=[.d .bool],out:=fun _ x=>x,ret:=fun a x=>(eZ (aG x) a.1,())}]
def TX(e:D aC)(f:cH)(hw:gV [.d aC,.obj 0] (e,())):(cY Tryz.B Tryz.Jj Tryz.f33 (Tryz.Jk e f) Tryz.aW [.d aC,.obj 0] Tryz.xU (e,()) f).holds:=by
 refine holds_of (p:=
  let za:=e.2.1
  let zb:=gE za
  let zc:=aG f
  let zd:=fun(F:Nat)=>(aG f (nth aH za F).1).2
  let ze:=(eZ zc e,())
  let zf:=True/\f=f/\(false,())=ze
  zb<=aN->(∃(x:Nat),(x<=zb/\∀(j:Nat),j<x->je zc (nth aH za j)=true)/\(0=(↑x:Int)/\True)/\True)/\∀F:Nat,(F<=zb/\∀(j:Nat),j<F->je zc (nth aH za j)=true)->((decide ((↑F:Int)<(↑zb:Int)))=true->(0<=(↑F:Int)/\(↑F:Int)<(↑zb:Int))/\True/\(True->((!aL.isNil (aJ (zd F).2))=true->zf)/\((!aL.isNil (aJ (zd F).2))=false->(((zd F).1 != (nth aH za F).2.1)=true->zf)/\(((zd F).1 != (nth aH za F).2.1)=false->aM (↑F:Int)->aM 1->aM ((↑F:Int)+1)/\∃(x':Nat),(x'<=zb/\∀(j:Nat),j<x'->je zc (nth aH za j)=true)/\zb-x'<zb-F/\((↑F:Int)+1=(↑x':Int)/\True)/\(e.1=e.1/\za=za/\e.2.2.1=e.2.2.1/\True)/\(C.eM 1=C.eM 1/\f.1.1=f.1.1/\True)/\f.2.1=f.2.1/\True))))/\((decide ((↑F:Int)<(↑zb:Int)))=false->zb<=aN->True/\f=f/\(decide ((↑zb:Int) > 0),())=ze)) (by kernel_rfl) ?_
 dsimp -iota -proj -eta only;exact fun h0=>⟨(⟨0,⟨hg _,fun j hj=>absurd hj (hk _)⟩,⟨rfl,dT⟩,dT⟩),fun F q_0=>iL (fun h1=>⟨(by omega),dT,fun h2=>iB (fun h3=>⟨dT,rfl,by rw[HP (i:=F) (by omega) (PQ h3)]⟩) (fun h3=>iN (fun h4=>⟨dT,rfl,by rw[HP (i:=F) (by omega) (M7 h4)]⟩) (fun h4 h5 h6=>⟨(by simp only[aM,aN]at*;omega),(⟨F+1,⟨by omega,lV q_0.2 (M8 ‹_› ‹_›)⟩,by omega,⟨by omega,dT⟩,(by trivial)⟩)⟩))⟩) (fun h1 h2=>(by exact⟨dT,rfl,by rw[EM fun i hi=>q_0.2 i (by omega)];simp⟩))⟩
def Tryz.Jl:bY Tryz.prog Tryz.B.eT Tryz.X 33 false (aZ Tryz.aW [.d aC,.obj 0] (fun _ _=>True) Tryz.xU):=
 bH (X:=Tryz.X) Tryz.Oc Tryz.func33 (by kernel_rfl) (fun(a:CD [.d aC,.obj 0]) (x:PD Tryz.aW)=>Tryz.Jk a.1 x) (fun(a:CD [.d aC,.obj 0]) (x:PD Tryz.aW) hw hp=>TX a.1 x hw)
def Tryz.spZ29:Bool×aU:=(false,aZ Tryz.aW [.d aC,.obj 0] (fun _ _=>True) Tryz.xU)
def Tryz.Ru:List (FuncId×(Bool×aU)):=[(33,Tryz.spZ29),(13,Tryz.spZ23),(35,Tryz.spZ24),(41,Tryz.spZ28)]
def Tryz.TY:bP Tryz.prog Tryz.B Tryz.X Tryz.Ru:=
 aQ (Tryz.Jl) (aQ (Tryz.p5) (aQ (aE Tryz.FD) (aQ (aE Tryz.Rq) (bR Tryz.bQ))))
def Tryz.Rv(e:D aC)(f:cH):dY:=[
 (0,fun st=>{X:=Nat,inv:=fun i=>i<=gE e.2.1/\∀j,j<i->(cV (aG f (nth aH e.2.1 j).1).1).2=0,cB:=fun i=>gE e.2.1-i,bK:=fun i=>[(23,sI i),(6,.s (.one (.app .str (fV (gN i e.2.1)) (bF st 6)))),(7,.s (.one (.app (.int .i64) (fW (gN i e.2.1)) (bF st 7)))),(8,.s (.one (.app aB (fQ (aG f) (gN i e.2.1)) (bF st 8))))],aF:=fun i=>[(bF st 6,.tok .str (fV (gN i e.2.1))),(bF st 7,.tok (.int .i64) (fW (gN i e.2.1))),(bF st 8,.tok aB (fQ (aG f) (gN i e.2.1)))],keep:=[1,2,21,22],gP:=[bF st 6,bF st 7,bF st 8]}),
 (300015,fun st=>{X:=Nat,inv:=fun i=>i=(cO (.int .i64) st 23).toNat+1,cB:=fun _=>0,bK:=fun i=>[(6,.s (.one (.app .str (fV (gN i e.2.1)) (bF st 6)))),(7,.s (.one (.app (.int .i64) (fW (gN i e.2.1)) (bF st 7)))),(8,.s (.one (.app aB (fQ (aG f) (gN i e.2.1)) (bF st 8))))],aF:=fun i=>[(bF st 6,.tok .str (fV (gN i e.2.1))),(bF st 7,.tok (.int .i64) (fW (gN i e.2.1))),(bF st 8,.tok aB (fQ (aG f) (gN i e.2.1)))],keep:=[1,2,4,5,10,11,13,14,21,22,23,24,25,26,27,28,29,30,31,32,33,34,35,36,37,38,39,40,41,42,43,44,45],gP:=[bF st 6,bF st 7,bF st 8]})]
def Tryz.DO:List (Alt Tryz.aW [.d aC,.obj 0]):=[{bN:=Tryz.aW,res:=[.d (.slice iH),.d .err],out:=fun _ x=>x,ret:=fun a x=>((jM (aG x) a.1).1,aJ (jM (aG x) a.1).2,())}]
def WH(e:D aC)(f:cH)(hw:gV [.d aC,.obj 0] (e,()))(hp:(fun a x=>a.1.2.1.length<=1000/\x.2.1.1.length<=6) (e,()) f):(cY Tryz.B Tryz.Ru Tryz.f34 (Tryz.Rv e f) Tryz.aW [.d aC,.obj 0] Tryz.DO (e,()) f).holds:=by
 refine holds_of (p:=
  let za:=aG f
  let zb:=f=f
  let zc:=((jM za e).1,aJ (jM za e).2,())
  let zd:=e.2.1
  let ze:=gE zd
  let zf:=fun(F:Nat)=>(nth aH zd F).1
  let zg:=fun(F:Nat)=>aJ (aG f (zf F)).2.2
  let zh:=fun(F:Nat)=>aJ (cV (aG f (zf F)).1).2
  let zi:=fun(F:Nat)=>fV (gN F zd)
  let zj:=fun(F:Nat)=>zi F=zi F/\gE (zi F)+gE [zf F]<=1000000000
  let zk:=fun(F:Nat)=>fW (gN F zd)
  let zl:=fun(F:Nat)=>(nth aH zd F).2.2.1
  let zm:=fun(F:Nat)=>fQ za (gN F zd)
  let zn:=fun(F:Nat)=>(cV (aG f (zf F)).1).1
  let zo:=C.eM 1=C.eM 1/\f.1.1=f.1.1/\True
  let zp:=f.2.1=f.2.1
  let zq:=e.2.2.1
  let zr:=@ha (List UInt8×Int×List Int×Unit)=@ha (List UInt8×Int×List Int×Unit)/\(e.1=e.1/\zd=zd/\zq=zq/\True)/\True
  let zs:=fun(F:Nat)=>(zk F=zk F/\gE (zk F)+gE [zl F]<=1000000000)/\(zm F=zm F/\gE (zm F)+gE [zn F]<=1000000000)/\∃(x':Nat),x'=F+1/\(zi F++[zf F]=fV (gN x' zd)/\zk F++[zl F]=fW (gN x' zd)/\zm F++[zn F]=fQ za (gN x' zd)/\True)/\zi F++[zf F]=fV (gN x' zd)/\zk F++[zl F]=fW (gN x' zd)/\zm F++[zn F]=fQ za (gN x' zd)/\((zn F).1=(zn F).1/\(zn F).2.1=(zn F).2.1/\(zn F).2.2.1=(zn F).2.2.1/\(zn F).2.2.2.1=(zn F).2.2.2.1/\True)/\@ha (Int×Int×Int×List UInt8×Bool×Unit)=@ha (Int×Int×Int×List UInt8×Bool×Unit)/\@ha (List UInt8×Int×Bool×Unit)=@ha (List UInt8×Int×Bool×Unit)/\@ha Int=@ha Int/\@ha (List UInt8)=@ha (List UInt8)/\zo/\zp/\(zf F=zf F/\(nth aH zd F).2.1=(nth aH zd F).2.1/\zl F=zl F/\True)/\zr
  let zt:=fun(F:Nat)=>zj F/\(fun a0:Prop=>a0/\a0/\a0) (zs F)/\(fun a0:Prop=>a0/\a0) (zs F)/\zs F
  let zu:=fun(F:Nat)=>zj F/\zs F
  let zv:=fun(F:Nat)=>(zj F/\(fun a0:Prop=>a0/\a0/\a0) (zs F))/\(zj F/\(fun a0:Prop=>a0/\a0) (zs F))/\zu F
  let zw:=fun(F:Nat)=>zj F/\(fun a0:Prop=>a0/\a0) (zs F)/\zs F
  let zx:=fun(F:Nat)=>(zj F/\(fun a0:Prop=>a0/\a0) (zs F))/\zu F
  let zy:=fun(F:Nat)=>(fun a0 a1 a2 a3 a4:Prop=>a0/\a1/\a2/\a3/\a4/\a4) (zt F) (zv F) (zw F) (zx F) (zu F)
  let zz:=fun(F:Nat)=>(fun a0 a1 a2:Prop=>a0/\a1/\a2/\a2) (zw F) (zx F) (zu F)
  let zaa:=fun(F:Nat)=>jL (zi F) (zk F) (zm F) zq
  True/\(True->((!eZ za e)=true->True/\zb/\([],aL.no 10,())=zc)/\((!eZ za e)=false->ze<=aN->(∃(x:Nat),(x<=ze/\∀(j:Nat),j<x->(cV (aG f (nth aH zd j).1).1).2=0)/\(0=(↑x:Int)/\@ha (List UInt8)=fV (gN x zd)/\@ha Int=fW (gN x zd)/\@ha (List (List UInt8)×List Int×List (List UInt8×Int×Bool×Unit)×List (Int×Int×Int×List UInt8×Bool×Unit)×Unit)=fQ za (gN x zd)/\True)/\@ha (List UInt8)=fV (gN x zd)/\@ha Int=fW (gN x zd)/\@ha (List (List UInt8)×List Int×List (List UInt8×Int×Bool×Unit)×List (Int×Int×Int×List UInt8×Bool×Unit)×Unit)=fQ za (gN x zd)/\True)/\∀F:Nat,(F<=ze/\∀(j:Nat),j<F->(cV (aG f (nth aH zd j).1).1).2=0)->((decide ((↑F:Int)<(↑ze:Int)))=true->(0<=(↑F:Int)/\(↑F:Int)<(↑ze:Int))/\True/\(True->((!aL.isNil (zg F))=true->True/\zb/\([],zg F,())=zc)/\((!aL.isNil (zg F))=false->True/\((!aL.isNil (zh F))=true->True/\zb/\([],zh F,())=zc)/\((!aL.isNil (zh F))=false->((fun a0 a1 a2 a3 a4:Prop=>a0/\a1/\a2/\a3/\a4/\a4/\a4) (zt F) (zy F) (zw F) (zz F) (zu F)/\(zy F/\(zv F/\zx F/\zu F)/\zz F/\(zx F/\zu F)/\(fun a0:Prop=>a0/\a0) (zu F)/\zu F)/\(fun a0 a1 a2:Prop=>a0/\a1/\a2/\a2/\a2) (zw F) (zz F) (zu F)/\(zz F/\(zx F/\zu F)/\(fun a0:Prop=>a0/\a0) (zu F)/\zu F)/\(fun a0:Prop=>a0/\a0/\a0) (zu F)/\(fun a0:Prop=>a0/\a0) (zu F)/\zu F)/\∀I:Nat,I=F+1->aM (↑F:Int)->aM 1->aM ((↑F:Int)+1)/\∃(x':Nat),(x'<=ze/\∀(j:Nat),j<x'->(cV (aG f (nth aH zd j).1).1).2=0)/\ze-x'<ze-F/\((↑F:Int)+1=(↑x':Int)/\zi I=fV (gN x' zd)/\zk I=fW (gN x' zd)/\zm I=fQ za (gN x' zd)/\True)/\zi I=fV (gN x' zd)/\zk I=fW (gN x' zd)/\zm I=fQ za (gN x' zd)/\zo/\zp/\zr))))/\((decide ((↑F:Int)<(↑ze:Int)))=false->(gE (zm F)<=1000/\∀(i:Nat),i<gE (zm F)->gE (nth aB (zm F) i).2.1<=1000)/\True/\zb/\((zaa F).1,(zaa F).2,())=zc)))) (by kernel_rfl) ?_
 dsimp -iota -proj -eta only;dsimp only at hp;refine⟨dT,fun h0=>iB (fun h1=>(by exact⟨dT,rfl,by rw[PJ h1];rfl⟩)) (fun h1 h2=>⟨(⟨0,⟨hg _,fun j hj=>absurd hj (hk _)⟩,⟨rfl,rfl,rfl,rfl,dT⟩,(by trivial)⟩),fun F q_0=>iL (fun h3=>⟨(by omega),dT,fun h4=>iB (fun h5=>(absurd ((EN h1).2 F (by omega)).1 (dU h5))) (fun h5=>⟨dT,iB (fun h6=>⟨dT,rfl,by rw[UZ h1 (HQ q_0.2 (by omega) (dU h6)) (dU h6)]⟩) (fun h6=>⟨⟨(show ∀{a0 a1 a2 a3 a4:Prop},a0->a1->a2->a3->a4->a0/\a1/\a2/\a3/\a4/\a4/\a4 from fun g0 g1 g2 g3 g4=>⟨g0,g1,g2,g3,g4,g4,g4⟩) (⟨?a,⟨(show ∀{a0:Prop},a0->a0/\a0/\a0 from fun g0=>⟨g0,g0,g0⟩) (⟨?b,?c,?d⟩),(show ∀{a0:Prop},a0->a0/\a0 from fun g0=>⟨g0,g0⟩) (⟨?e,?f,?g⟩),⟨?h,?i,?j⟩⟩⟩) ((show ∀{a0 a1 a2 a3 a4:Prop},a0->a1->a2->a3->a4->a0/\a1/\a2/\a3/\a4/\a4 from fun g0 g1 g2 g3 g4=>⟨g0,g1,g2,g3,g4,g4⟩) (⟨?k,⟨(show ∀{a0:Prop},a0->a0/\a0/\a0 from fun g0=>⟨g0,g0,g0⟩) (⟨?l,?m,?n⟩),(show ∀{a0:Prop},a0->a0/\a0 from fun g0=>⟨g0,g0⟩) (⟨?o,?p,?q⟩),⟨?r,?s,?t⟩⟩⟩) (⟨⟨?u,(show ∀{a0:Prop},a0->a0/\a0/\a0 from fun g0=>⟨g0,g0,g0⟩) (⟨?v,?w,?x⟩)⟩,⟨?y,(show ∀{a0:Prop},a0->a0/\a0 from fun g0=>⟨g0,g0⟩) (⟨?z,?a0,?a1⟩)⟩,⟨?a2,?a3,?a4,?a5⟩⟩) (⟨?a6,⟨(show ∀{a0:Prop},a0->a0/\a0 from fun g0=>⟨g0,g0⟩) (⟨?a7,?a8,?a9⟩),⟨?aa,?ab,?ac⟩⟩⟩) (⟨⟨?ad,(show ∀{a0:Prop},a0->a0/\a0 from fun g0=>⟨g0,g0⟩) (⟨?ae,?af,?ag⟩)⟩,⟨?ah,?ai,?aj,?ak⟩⟩) (⟨?al,?am,?an,?ao⟩)) (⟨?ap,⟨(show ∀{a0:Prop},a0->a0/\a0 from fun g0=>⟨g0,g0⟩) (⟨?aq,?ar,?au⟩),⟨?av,?aw,?ax⟩⟩⟩) ((show ∀{a0 a1 a2:Prop},a0->a1->a2->a0/\a1/\a2/\a2 from fun g0 g1 g2=>⟨g0,g1,g2,g2⟩) (⟨?ay,⟨(show ∀{a0:Prop},a0->a0/\a0 from fun g0=>⟨g0,g0⟩) (⟨?az,?b0,?b1⟩),⟨?b2,?b3,?b4⟩⟩⟩) (⟨⟨?b5,(show ∀{a0:Prop},a0->a0/\a0 from fun g0=>⟨g0,g0⟩) (⟨?b6,?b7,?b8⟩)⟩,⟨?b9,?ba,?bb,?bc⟩⟩) (⟨?bd,?be,?bf,?bg⟩)) (⟨?bh,?bi,?bj,?bk⟩),⟨(show ∀{a0 a1 a2 a3 a4:Prop},a0->a1->a2->a3->a4->a0/\a1/\a2/\a3/\a4/\a4 from fun g0 g1 g2 g3 g4=>⟨g0,g1,g2,g3,g4,g4⟩) (⟨?bl,⟨(show ∀{a0:Prop},a0->a0/\a0/\a0 from fun g0=>⟨g0,g0,g0⟩) (⟨?bm,?bn,?bo⟩),(show ∀{a0:Prop},a0->a0/\a0 from fun g0=>⟨g0,g0⟩) (⟨?bp,?bq,?br⟩),⟨?bs,?bt,?bu⟩⟩⟩) (⟨⟨?bv,(show ∀{a0:Prop},a0->a0/\a0/\a0 from fun g0=>⟨g0,g0,g0⟩) (⟨?bw,?bx,?bz⟩)⟩,⟨?c0,(show ∀{a0:Prop},a0->a0/\a0 from fun g0=>⟨g0,g0⟩) (⟨?c1,?c2,?c3⟩)⟩,⟨?c4,?c5,?c6,?c7⟩⟩) (⟨?c8,⟨(show ∀{a0:Prop},a0->a0/\a0 from fun g0=>⟨g0,g0⟩) (⟨?c9,?ca,?cb⟩),⟨?cc,?cd,?ce⟩⟩⟩) (⟨⟨?cf,(show ∀{a0:Prop},a0->a0/\a0 from fun g0=>⟨g0,g0⟩) (⟨?cg,?ch,?ci⟩)⟩,⟨?cj,?ck,?cl,?cm⟩⟩) (⟨?cn,?co,?cp,?cq⟩),⟨⟨⟨?cr,(show ∀{a0:Prop},a0->a0/\a0/\a0 from fun g0=>⟨g0,g0,g0⟩) (⟨?cs,?ct,?cu⟩)⟩,⟨?cv,(show ∀{a0:Prop},a0->a0/\a0 from fun g0=>⟨g0,g0⟩) (⟨?cw,?cx,?cy⟩)⟩,⟨?cz,?d0,?d1,?d2⟩⟩,⟨⟨?d3,(show ∀{a0:Prop},a0->a0/\a0 from fun g0=>⟨g0,g0⟩) (⟨?d4,?d5,?d6⟩)⟩,⟨?d7,?d8,?d9,?da⟩⟩,⟨?db,?dc,?dd,?de⟩⟩,(show ∀{a0 a1 a2:Prop},a0->a1->a2->a0/\a1/\a2/\a2 from fun g0 g1 g2=>⟨g0,g1,g2,g2⟩) (⟨?df,⟨(show ∀{a0:Prop},a0->a0/\a0 from fun g0=>⟨g0,g0⟩) (⟨?dg,?dh,?di⟩),⟨?dj,?dk,?dl⟩⟩⟩) (⟨⟨?dm,(show ∀{a0:Prop},a0->a0/\a0 from fun g0=>⟨g0,g0⟩) (⟨?dn,?dp,?dq⟩)⟩,⟨?dr,?ds,?dt,?du⟩⟩) (⟨?dv,?dw,?dx,?dy⟩),⟨⟨⟨?dz,(show ∀{a0:Prop},a0->a0/\a0 from fun g0=>⟨g0,g0⟩) (⟨?e0,?e1,?e2⟩)⟩,⟨?e3,?e4,?e5,?e6⟩⟩,⟨?e7,?e8,?e9,?ea⟩⟩,(show ∀{a0:Prop},a0->a0/\a0 from fun g0=>⟨g0,g0⟩) (⟨?eb,?ec,?ed,?ee⟩),⟨?ef,?eg,?eh,?ei⟩⟩,(show ∀{a0 a1 a2:Prop},a0->a1->a2->a0/\a1/\a2/\a2/\a2 from fun g0 g1 g2=>⟨g0,g1,g2,g2,g2⟩) (⟨?ej,⟨(show ∀{a0:Prop},a0->a0/\a0 from fun g0=>⟨g0,g0⟩) (⟨?ek,?el,?em⟩),⟨?en,?eo,?ep⟩⟩⟩) ((show ∀{a0 a1 a2:Prop},a0->a1->a2->a0/\a1/\a2/\a2 from fun g0 g1 g2=>⟨g0,g1,g2,g2⟩) (⟨?eq,⟨(show ∀{a0:Prop},a0->a0/\a0 from fun g0=>⟨g0,g0⟩) (⟨?er,?es,?et⟩),⟨?eu,?ev,?ew⟩⟩⟩) (⟨⟨?ex,(show ∀{a0:Prop},a0->a0/\a0 from fun g0=>⟨g0,g0⟩) (⟨?ey,?ez,?f0⟩)⟩,⟨?f1,?f2,?f3,?f4⟩⟩) (⟨?f5,?f6,?f7,?f8⟩)) (⟨?f9,?fa,?fb,?fc⟩),⟨(show ∀{a0 a1 a2:Prop},a0->a1->a2->a0/\a1/\a2/\a2 from fun g0 g1 g2=>⟨g0,g1,g2,g2⟩) (⟨?fd,⟨(show ∀{a0:Prop},a0->a0/\a0 from fun g0=>⟨g0,g0⟩) (⟨?fe,?ff,?fg⟩),⟨?fh,?fi,?fj⟩⟩⟩) (⟨⟨?fk,(show ∀{a0:Prop},a0->a0/\a0 from fun g0=>⟨g0,g0⟩) (⟨?fl,?fm,?fn⟩)⟩,⟨?fo,?fp,?fq,?fr⟩⟩) (⟨?fs,?ft,?fu,?fv⟩),⟨⟨⟨?fw,(show ∀{a0:Prop},a0->a0/\a0 from fun g0=>⟨g0,g0⟩) (⟨?fx,?fy,?fz⟩)⟩,⟨?g0,?g1,?g2,?g3⟩⟩,⟨?g4,?g5,?g6,?g7⟩⟩,(show ∀{a0:Prop},a0->a0/\a0 from fun g0=>⟨g0,g0⟩) (⟨?g8,?g9,?ga,?gb⟩),⟨?gc,?gd,?ge,?gf⟩⟩,(show ∀{a0:Prop},a0->a0/\a0/\a0 from fun g0=>⟨g0,g0,g0⟩) (⟨?gg,?gh,?gi,?gj⟩),(show ∀{a0:Prop},a0->a0/\a0 from fun g0=>⟨g0,g0⟩) (⟨?gk,?gl,?gm,?gn⟩),⟨?go,?gp,?gq,?gr⟩⟩,fun I q_1 h7 h8=>⟨(by simp only[aM,aN]at*;omega),?gs⟩⟩)⟩)⟩) (fun h3=>⟨(by rw[HM (by omega)];exact PO hp.1 fun j hj=>q_0.2 j (by omega)),(by rw[HM (by omega)];exact⟨dT,rfl,SM h1 (vg fun j hj=>q_0.2 j (by omega))⟩)⟩)⟩)⟩
 case a|b|c|e|f|h|i|k|l|m|o|p|r|s|u|v|w|y|z|a0|a2|a3|a4|a6|a7|a8|aa|ab|ad|ae|af|ah|ai|aj|al|am|an|ap|aq|ar|av|aw|ay|az|b0|b2|b3|b5|b6|b7|b9|ba|bb|bd|be|bf|bh|bi|bj|bl|bm|bn|bp|bq|bs|bt|bv|bw|bx|c0|c1|c2|c4|c5|c6|c8|c9|ca|cc|cd|cf|cg|ch|cj|ck|cl|cn|co|cp|cr|cs|ct|cv|cw|cx|cz|d0|d1|d3|d4|d5|d7|d8|d9|db|dc|dd|df|dg|dh|dj|dk|dm|dn|dp|dr|ds|dt|dv|dw|dx|dz|e0|e1|e3|e4|e5|e7|e8|e9|eb|ec|ed|ef|eg|eh|ej|ek|el|en|eo|eq|er|es|eu|ev|ex|ey|ez|f1|f2|f3|f5|f6|f7|f9|fa|fb|fd|fe|ff|fh|fi|fk|fl|fm|fo|fp|fq|fs|ft|fu|fw|fx|fy|g0|g1|g2|g4|g5|g6|g8|g9|ga|gc|gd|ge|gg|gh|gi|gk|gl|gm|go|gp|gq=>exact⟨rfl,by simp only[fV,fW,fQ,List.length_map,List.length_take,hh];have:=hp.1;omega⟩
 case d|g|j|n|q|t|x|a1|a5|a9|ac|ag|ak|ao|au|ax|b1|b4|b8|bc|bg|bk|bo|br|bu|bz|c3|c7|cb|ce|ci|cm|cq|cu|cy|d2|d6|da|de|di|dl|dq|du|dy|e2|e6|ea|ee|ei|em|ep|et|ew|f0|f4|f8|fc|fg|fj|fn|fr|fv|fz|g3|g7|gb|gf|gj|gn|gr=>exact⟨F+1,rfl,⟨zM (by omega),zN (by omega),Cm (by omega),dT⟩,zM (by omega),zN (by omega),Cm (by omega),(by trivial)⟩
 case gs=>
  subst q_1;exact⟨F+1,⟨by omega,lV q_0.2 (aK.1 ‹_›)⟩,by omega,⟨by omega,rfl,rfl,rfl,dT⟩,rfl,rfl,rfl,(by trivial)⟩
def Tryz.WI:bY Tryz.prog Tryz.B.eT Tryz.X 34 false (aZ Tryz.aW [.d aC,.obj 0] (fun a x=>a.1.2.1.length<=1000/\x.2.1.1.length<=6) Tryz.DO):=
 bH (X:=Tryz.X) Tryz.TY Tryz.func34 (by kernel_rfl) (fun(a:CD [.d aC,.obj 0]) (x:PD Tryz.aW)=>Tryz.Rv a.1 x) (fun(a:CD [.d aC,.obj 0]) (x:PD Tryz.aW) hw hp=>WH a.1 x hw hp)
@[reducible] def Tryz.dH:List Ob:=[.box 75 [.obj 1,.obj 3],.box 93 [.obj 2,.d (.int .i64)],.ext 1 (ij cI),.box 117 [.obj 4,.d (.int .i64),.d (.slice aC)],.box 98 [.obj 5,.obj 6,.obj 7,.d (.int .i64),.d .bool],.row true .str,.row true .str,.tok js]
@[reducible] def Tryz.sV:List Ob:=[.box 93 [.obj 1,.d (.int .i64)],.ext 1 (ij cI),.box 98 [.obj 3,.obj 4,.obj 5,.d (.int .i64),.d .bool],.row true .str,.row true .str,.tok js]
def Tryz.LM:List (FuncId×(Bool×aU)):=[(39,Tryz.spZ20)]
def Tryz.Rw:bP Tryz.prog Tryz.B Tryz.X Tryz.LM:=
 aQ (Tryz.Lz) (bR Tryz.bQ)
def Tryz.Bi:List (Alt Tryz.sV [.obj 0,.obj 2]):=[
 {bN:=Tryz.sV,res:=[.gX,.d .err],ok:=fun _ x=>(dO x.2.2).2≠0,out:=fun _ x=>x,ret:=fun _ x=>(aJ (dO x.2.2).2,())},
 {bN:=Tryz.sV++[.box 75 [.obj 0,.obj 7],.box 117 [.obj 2,.d (.int .i64),.d (.slice aC)]],res:=[.obj 6,.d .err],ok:=fun _ x=>(dO x.2.2).2=0,out:=fun _ x=>(x.1,x.2.1,x.2.2.1,x.2.2.2.1,x.2.2.2.2.1,x.2.2.2.2.2.1,(),((dO x.2.2).1.1,(dO x.2.2).1.2,()),()),ret:=fun _ _=>(aL.nil,())}]
def VN(n:Int×Unit)(m:List FE×Int×Unit)(d:Dk)(hw:gV [.obj 0,.obj 2] ())(hp:(fun _ x=>dC x.2.2 1000000/\∀i,i<x.2.2.2.2.1.length->(nth .str x.2.2.2.2.1 i).length=64) () (n,m,d)):(cY Tryz.B Tryz.LM Tryz.f21 [] Tryz.sV [.obj 0,.obj 2] Tryz.Bi () (n,m,d)).holds:=by
 refine holds_of (p:=
  let za:=d.2.2.2.1
  let zb:=za=za
  let zc:=d.2.2.1
  let zd:=(dO d).2
  let ze:=zd≠0
  let zf:=(n,m,d)=(n,m,d)
  let zg:=(aJ zd,())
  let zh:=(n,m,d.1,d.2.1,zc,za,(),((dO d).1.1,(dO d).1.2,()),())
  zb/\(dC d 1000000/\∀(i:Nat),i<gE zc->gE (nth Ty.str zc i)=64)/\(ze->((!aL.isNil (aJ zd))=true->zb/\ze/\zf/\zg=zg)/\((!aL.isNil (aJ zd))=false->False))/\(zd=0->((!aL.isNil aL.nil)=true->zb/\ze/\zf/\(aL.nil,())=zg)/\((!aL.isNil aL.nil)=false->zb/\zd=0/\zh=zh/\(aL.nil,())=(aL.nil,())))) (by kernel_rfl) ?_
 dsimp -iota -proj -eta only;dsimp only at hp;refine⟨rfl,?a,⟨fun h0=>iB (fun h1 =>?b) (fun h1=>(absurd (aK.1 h1) h0)),fun h0=>⟨fun h1=>absurd (show false=true from h1) (by decide),fun h1 =>?c⟩⟩⟩
 case a|b|c=>trivial
def Tryz.LN:bY Tryz.prog Tryz.B.eT Tryz.X 21 false (aZ Tryz.sV [.obj 0,.obj 2] (fun _ x=>dC x.2.2 1000000/\∀i,i<x.2.2.2.2.1.length->(nth .str x.2.2.2.2.1 i).length=64) Tryz.Bi):=
 bH (X:=Tryz.X) Tryz.Rw Tryz.func21 (by kernel_rfl) (fun(a:CD [.obj 0,.obj 2]) (x:PD Tryz.sV)=>[]) (fun(a:CD [.obj 0,.obj 2]) (x:PD Tryz.sV) hw hp=>VN x.1 x.2.1 x.2.2 hw hp)
def Tryz.FL:List (FuncId×(Bool×aU)):=[(30,(false,aZ Tryz.aW [.obj 0,.d .str] (fun _ x=>x.2.1.1.length<=6) Tryz.Bh)),(31,(false,aZ Tryz.cE [.obj 0,.d aC] (fun a x=>(a.1.2.1.length<=1000000/\a.1.2.2.1.length<=1000000)/\x.1.2.1.length<=99/\0<=(x.1.1:Int)/\(x.1.1:Int)<=1000000000/\dC x.2 1000000) Tryz.DI))]
def Tryz.KD:bP Tryz.prog Tryz.B Tryz.X Tryz.FL:=
 aQ (Tryz.VM) (aQ (Tryz.TD) (bR Tryz.bQ))
def Tryz.vI:List (Alt Tryz.dH [.obj 0,.d .str]):=[{bN:=Tryz.dH,res:=[.d .err],out:=fun a x=>((),x.2.1,x.2.2.1,(fL (x.2.1,x.2.2.1,()) x.2.2.2 a.1).1),ret:=fun a x=>(aJ (fL (x.2.1,x.2.2.1,()) x.2.2.2 a.1).2,())}]
def Rx(s:List UInt8)(n:Int×Unit)(m:List FE×Int×Unit)(r:Int)(o:List (D aC))(d:Dk)(hw:gV [.obj 0,.d .str] (s,()))(hp:(fun _ x=>fR (x.2.1,x.2.2.1,())/\xJ x.2.2.2) (s,()) ((),n,m,(r,o,()),d)):(cY Tryz.B Tryz.FL Tryz.f10 [] Tryz.dH [.obj 0,.d .str] Tryz.vI (s,()) ((),n,m,(r,o,()),d)).holds:=by
 refine holds_of (p:=
  let za:=cK (aG (n,m,())) s
  let zb:=d.2.2.2.1=d.2.2.2.1
  let zc:=((r,o,()),d)
  let zd:=fL (n,m,()) zc s
  let ze:=((),n,m,zd.1)
  let zf:=(aJ zd.2,())
  let zg:=ku zc za.1
  let zh:=zg.1.2.2.2.2.1
  gE m.1<=6/\(True->((!aL.isNil (aJ za.2))=true->zb/\True/\((),n,m,zc)=ze/\(aJ za.2,())=zf)/\((!aL.isNil (aJ za.2))=false->zb/\((gE za.1.2.1<=1000000/\gE za.1.2.2.1<=1000000)/\gE o<=99/\0<=r/\r<=1000000000/\dC d 1000000)/\(True->zh=zh/\True/\((),n,m,zg.1)=ze/\(aJ zg.2,())=zf)))) (by kernel_rfl) ?_
 dsimp -iota -proj -eta only;dsimp only at hp;exact⟨hp.1.st.pre.1,fun h0=>iB (fun h1=>(by rw[Qx (dU h1)];exact⟨rfl,dT,rfl,rfl⟩)) (fun h1=>⟨rfl,⟨NF hp.1 (aK.1 h1),hp.2⟩,fun h2=>(by rw[ND (aK.1 h1)];exact⟨rfl,dT,rfl,rfl⟩)⟩)⟩
def Tryz.FM:bY Tryz.prog Tryz.B.eT Tryz.X 10 false (aZ Tryz.dH [.obj 0,.d .str] (fun _ x=>fR (x.2.1,x.2.2.1,())/\xJ x.2.2.2) Tryz.vI):=
 bH (X:=Tryz.X) Tryz.KD Tryz.func10 (by kernel_rfl) (fun(a:CD [.obj 0,.d .str]) (x:PD Tryz.dH)=>[]) (fun(a:CD [.obj 0,.d .str]) (x:PD Tryz.dH) hw hp=>Rx a.1 x.2.1 x.2.2.1 x.2.2.2.1.1 x.2.2.2.1.2.1 x.2.2.2.2 hw hp)
def Tryz.Jm:List (FuncId×(Bool×aU)):=[(38,(false,aZ Tryz.cE [.obj 0,.d .str] (fun _ x=>x.1.2.1.length<=100/\0<=(x.1.1:Int)/\(x.1.1:Int)<=1000000000/\dC x.2 1000000) Tryz.Be))]
def Tryz.Od:bP Tryz.prog Tryz.B Tryz.X Tryz.Jm:=
 aQ (Tryz.VF) (bR Tryz.bQ)
def Tryz.xV:List (Alt Tryz.dH [.obj 0,.d .str]):=[{bN:=Tryz.dH,res:=[.d .err],out:=fun a x=>((),x.2.1,x.2.2.1,(gI x.2.2.2 a.1).1),ret:=fun a x=>(aJ (gI x.2.2.2 a.1).2,())}]
def TZ(s:List UInt8)(n:Int×Unit)(m:List FE×Int×Unit)(r:Int)(o:List (D aC))(d:Dk)(hw:gV [.obj 0,.d .str] (s,()))(hp:(fun _ x=>xJ x.2.2.2) (s,()) ((),n,m,(r,o,()),d)):(cY Tryz.B Tryz.Jm Tryz.f16 [] Tryz.dH [.obj 0,.d .str] Tryz.xV (s,()) ((),n,m,(r,o,()),d)).holds:=by
 refine holds_of (p:=
  let za:=gI ((r,o,()),d) s
  let zb:=za.1.2.2.2.2.1
  let zc:=((),n,m,za.1)
  let zd:=(aJ za.2,())
  d.2.2.2.1=d.2.2.2.1/\(gE o<=100/\0<=r/\r<=1000000000/\dC d 1000000)/\(True->zb=zb/\True/\zc=zc/\zd=zd)) (by kernel_rfl) ?_
 dsimp -iota -proj -eta only;dsimp only at hp;exact⟨rfl,⟨Nat.le_trans hp.1 (by decide),hp.2⟩,fun h0=>(by trivial)⟩
def Tryz.T0:bY Tryz.prog Tryz.B.eT Tryz.X 16 false (aZ Tryz.dH [.obj 0,.d .str] (fun _ x=>xJ x.2.2.2) Tryz.xV):=
 bH (X:=Tryz.X) Tryz.Od Tryz.func16 (by kernel_rfl) (fun(a:CD [.obj 0,.d .str]) (x:PD Tryz.dH)=>[]) (fun(a:CD [.obj 0,.d .str]) (x:PD Tryz.dH) hw hp=>TZ a.1 x.2.1 x.2.2.1 x.2.2.2.1.1 x.2.2.2.1.2.1 x.2.2.2.2 hw hp)
def Tryz.Jn:List (FuncId×(Bool×aU)):=[(32,(false,aZ Tryz.cE [.obj 0,.d .str] (fun _ x=>∀i,i<x.1.2.1.length->(nth aC x.1.2.1 i).2.1.length<=1000000/\(nth aC x.1.2.1 i).2.2.1.length<=1000000) Tryz.DJ)),(33,Tryz.spZ29),(34,(false,aZ Tryz.aW [.d aC,.obj 0] (fun a x=>a.1.2.1.length<=1000/\x.2.1.1.length<=6) Tryz.DO)),(22,(false,aZ Tryz.aW [.obj 0,.d .str] (fun _ x=>x.2.1.1.length<=6) Tryz.Bg))]
def Tryz.Oe:bP Tryz.prog Tryz.B Tryz.X Tryz.Jn:=
 aQ (Tryz.Wx) (aQ (Tryz.Jl) (aQ (Tryz.WI) (aQ (Tryz.VK) (bR Tryz.bQ))))
def Tryz.xW:List (Alt Tryz.dH [.obj 0,.d .str]):=[{bN:=Tryz.dH,res:=[.d (.slice iH),.d .bool,.d .err],out:=fun _ x=>x,ret:=fun a x=>((jv (x.2.1,x.2.2.1,()) x.2.2.2.1.2.1 a.1).1,(jv (x.2.1,x.2.2.1,()) x.2.2.2.1.2.1 a.1).2.1,aJ (jv (x.2.1,x.2.2.1,()) x.2.2.2.1.2.1 a.1).2.2,())}]
def T3(s:List UInt8)(n:Int×Unit)(m:List FE×Int×Unit)(r:Int)(o:List (D aC))(d:Dk)(hw:gV [.obj 0,.d .str] (s,()))(hp:(fun _ x=>x.2.2.1.1.length<=6/\tt x.2.2.2.1.2.1) (s,()) ((),n,m,(r,o,()),d)):(cY Tryz.B Tryz.Jn Tryz.f11 [] Tryz.dH [.obj 0,.d .str] Tryz.xW (s,()) ((),n,m,(r,o,()),d)).holds:=by
 refine holds_of (p:=
  let za:=d.2.2.2.1=d.2.2.2.1
  let zb:=aG (n,m,())
  let zc:=(eK o s).1
  let zd:=gE m.1<=6
  let ze:=((),n,m,(r,o,()),d)
  let zf:=aJ (jM zb zc).2
  let zg:=jv (n,m,()) o s
  let zh:=(zg.1,zg.2.1,aJ zg.2.2,())
  let zi:=zd/\(True->za/\True/\ze=ze/\((gS zb s).1,false,aJ (gS zb s).2,())=zh)
  za/\(∀(i:Nat),i<gE o->gE (nth aC o i).2.1<=1000000/\gE (nth aC o i).2.2.1<=1000000)/\(True->(((eK o s).2)=true->True/\(True->((eZ zb zc)=true->(gE zc.2.1<=1000/\zd)/\(True->za/\True/\ze=ze/\((jM zb zc).1,aL.isNil zf,zf,())=zh))/\((eZ zb zc)=false->zi)))/\(((eK o s).2)=false->zi))) (by kernel_rfl) ?_
 dsimp -iota -proj -eta only;dsimp only at hp;refine⟨rfl,hp.2.wide,fun h0=>⟨fun h1=>⟨dT,fun h2=>⟨fun h3=>⟨⟨Qy hp.2 h1,hp.1⟩,fun h4=>(by rw[Fg h1 h3,Vb];exact⟨rfl,dT,rfl,rfl⟩)⟩,fun h3=>⟨?a,fun h4=>(by rw[xK fun z=>hc (z.2.symm.trans h3)];exact⟨rfl,dT,rfl,rfl⟩)⟩⟩⟩,fun h1=>⟨?b,fun h2=>(by rw[xK fun z=>hc (z.1.symm.trans h1)];exact⟨rfl,dT,rfl,rfl⟩)⟩⟩⟩
 case a|b=>omega
def Tryz.Jo:bY Tryz.prog Tryz.B.eT Tryz.X 11 false (aZ Tryz.dH [.obj 0,.d .str] (fun _ x=>x.2.2.1.1.length<=6/\tt x.2.2.2.1.2.1) Tryz.xW):=
 bH (X:=Tryz.X) Tryz.Oe Tryz.func11 (by kernel_rfl) (fun(a:CD [.obj 0,.d .str]) (x:PD Tryz.dH)=>[]) (fun(a:CD [.obj 0,.d .str]) (x:PD Tryz.dH) hw hp=>T3 a.1 x.2.1 x.2.2.1 x.2.2.2.1.1 x.2.2.2.1.2.1 x.2.2.2.2 hw hp)
def FN(e:D aC):dY:=[
 (0,fun st=>{X:=Nat,inv:=fun i=>i<=e.2.1.length/\∀j,j<i->(nth aH e.2.1 j).1.length<=20,cB:=fun i=>e.2.1.length-i,bK:=fun i=>[(3,sI i)],keep:=[1]})]
def F3(e:D aC)(hw:gU [aC] e):(dM Tryz.B [] Tryz.f29 (FN e) [aC] [.bool] (fun e y=>y=true->rW e) e).holds:=by
 refine holds_of (p:=
  let za:=false=true->rW e
  let zb:=e.2.1
  let zc:=gE zb
  let zd:=e.2.2.1
  let ze:=fun(F:Nat)=>gE (nth aH zb F).1
  gE e.1<=aN->((decide ((↑(gE e.1):Int) > 20))=true->za)/\((decide ((↑(gE e.1):Int) > 20))=false->zc<=aN->((decide ((↑zc:Int) > 8))=true->za)/\((decide ((↑zc:Int) > 8))=false->gE zd<=aN->((decide ((↑(gE zd):Int) > 40))=true->za)/\((decide ((↑(gE zd):Int) > 40))=false->(∃(x:Nat),(x<=zc/\∀(j:Nat),j<x->gE (nth aH zb j).1<=20)/\(0=(↑x:Int)/\True)/\True)/\∀F:Nat,(F<=zc/\∀(j:Nat),j<F->gE (nth aH zb j).1<=20)->zc<=aN->((decide ((↑F:Int)<(↑zc:Int)))=true->(0<=(↑F:Int)/\(↑F:Int)<(↑zc:Int))/\(ze F<=aN->((decide ((↑(ze F):Int) > 20))=true->za)/\((decide ((↑(ze F):Int) > 20))=false->aM (↑F:Int)->aM 1->aM ((↑F:Int)+1)/\∃(x':Nat),(x'<=zc/\∀(j:Nat),j<x'->gE (nth aH zb j).1<=20)/\zc-x'<zc-F/\((↑F:Int)+1=(↑x':Int)/\True)/\(e.1=e.1/\zb=zb/\zd=zd/\True)/\True)))/\((decide ((↑F:Int)<(↑zc:Int)))=false->true=true->rW e))))) (by kernel_rfl) ?_
 dsimp -iota -proj -eta only;refine fun h0=>iL (fun h1 =>?a) (fun h1 h2=>iL (fun h3 =>?b) (fun h3 h4=>iL (fun h5 =>?c) (fun h5=>⟨?d,fun F q_0 h6=>iL (fun h7=>⟨(by omega),fun h8=>iL (fun h9 =>?e) (fun h9 h10 h11=>⟨(by simp only[aM,aN]at*;omega),(⟨F+1,⟨by omega,lV q_0.2 (by omega)⟩,by omega,⟨by omega,dT⟩,(by trivial)⟩)⟩)⟩) (fun h7=>(fun _=>⟨by omega,by omega,by omega,fun i hi=>q_0.2 i (by omega)⟩))⟩)))
 case a|b|c|e=>simp_all
 case d=>refine⟨0,?_⟩;(repeat' (first|exact trivial|rfl|omega|assumption|apply And.intro))
def Tryz.qW:bX Tryz.prog Tryz.B.eT Tryz.X 29 [aC] [.bool] (fun _=>True) (fun e y=>y=true->rW e):=
 cG (X:=Tryz.X) (bR Tryz.bQ) Tryz.func29 (by kernel_rfl) (fun x=>FN x) (fun x hw hp=>F3 x hw)
def Tryz.spZ30:Bool×aU:=(true,rR [aC] [.bool] (fun _=>True) (fun e y=>y=true->rW e))
def Tryz.Jp:List (FuncId×(Bool×aU)):=[(29,Tryz.spZ30)]
def Tryz.Of:bP Tryz.prog Tryz.B Tryz.X Tryz.Jp:=
 aQ (ji Tryz.qW) (bR Tryz.bQ)
def FO(l:List (D cQ))(m:Int):dY:=[
 (0,fun st=>{X:=Nat×Int,inv:=fun x=>x.1<=l.length/\(0<=x.2/\x.2<=20000)/\∀j,j<x.1->w9 (nth cQ l j),cB:=fun x=>l.length-x.1,bK:=fun x=>[(6,sI x.1),(5,sI x.2)],keep:=[0]})]
def Jq(l:List (D cQ))(m:Int)(hw:gU [.slice cQ,.int .i64] (l,m)):(dM (Ms Tryz.B) Tryz.Jp Tryz.f8 (FO l m) [.slice cQ,.int .i64] [.bool] (fun x y=>y=true->pU x.1 x.2) (l,m)).holds:=by
 refine holds_of (p:=
  let za:=gE l
  let zb:=false=true->pU l m
  let zc:=fun(F:Nat×Int)=>(↑F.1:Int)<(↑za:Int)
  let zd:=fun(F:Nat×Int)=>0<=(↑F.1:Int)/\zc F
  let ze:=fun(F:Nat×Int)=>gE (nth cQ l F.1).2.2.1
  let zf:=fun(F:Nat×Int)=>gE (nth cQ l F.1).2.1
  za<=aN->((decide ((↑za:Int) > m))=true->zb)/\((decide ((↑za:Int) > m))=false->(∃(x:Nat×Int),(x.1<=za/\(0<=x.2/\x.2<=20000)/\∀(j:Nat),j<x.1->w9 (nth cQ l j))/\(0=(↑x.1:Int)/\0=x.2/\True)/\True)/\∀F:Nat×Int,(F.1<=za/\(0<=F.2/\F.2<=20000)/\∀(j:Nat),j<F.1->w9 (nth cQ l j))->za<=aN->((decide (zc F))=true->zd F/\(ze F<=aN->∀I:Int,I=hf hb (F.2+(↑(ze F):Int))->zd F/\(zf F<=aN->((decide ((↑(zf F):Int) > 100))=true->zb)/\((decide ((↑(zf F):Int) > 100))=false->zd F/\(ze F<=aN->((decide ((↑(ze F):Int) > 1300))=true->zb)/\((decide ((↑(ze F):Int) > 1300))=false->((decide (I > 20000))=true->zb)/\((decide (I > 20000))=false->zd F/\True/\∀G:Bool,(G=true->rW (nth cQ l F.1).2.2.2.2.2.1)->((!G)=true->zb)/\((!G)=false->∀K:Int,K=hf hb ((↑F.1:Int)+1)->∃(x':Nat×Int),(x'.1<=za/\(0<=x'.2/\x'.2<=20000)/\∀(j:Nat),j<x'.1->w9 (nth cQ l j))/\za-x'.1<za-F.1/\(K=(↑x'.1:Int)/\I=x'.2/\True)/\True))))))))/\((decide (zc F))=false->true=true->pU l m))) (by kernel_rfl) ?_
 dsimp -iota -proj -eta only;refine fun h0=>iL (fun h1 =>?a) (fun h1=>⟨(by exact⟨(0,0),⟨by omega,by simp,fun j hj=>by simp only at hj;omega⟩,⟨rfl,rfl,dT⟩,dT⟩),fun F q_0 h2=>iL (fun h3=>⟨?b,fun h4 I q_1=>⟨?c,fun h5=>iL (fun h6 =>?d) (fun h6=>⟨?e,fun h7=>iL (fun h8 =>?f) (fun h8=>iL (fun h9 =>?g) (fun h9=>⟨?h,dT,fun G q_2=>iB (fun h10 =>?i) (fun h10 K q_3 =>?j)⟩))⟩)⟩⟩) (fun h3=>(fun _=>⟨by omega,fun i hi=>q_0.2.2 i (by omega)⟩))⟩)
 case a|d|f|g|i=>simp_all
 case b|c|e|h=>omega
 case j=>
  have hw2:hf hb (F.2+(gE (nth cQ l F.1).2.2.1:Int))=F.2+(gE (nth cQ l F.1).2.2.1:Int):=lA (by omega) (by omega);have hw3:hf hb ((F.1:Int)+1)=(F.1:Int)+1:=lA (by omega) (by have:(aN:Int)=9223372036854775807:=rfl;omega);exact⟨(F.1+1,_),⟨by omega,by simp only;omega,lV q_0.2.2 ⟨by omega,by omega,by simp_all⟩⟩,by simp only;omega,⟨by simp only;omega,rfl,dT⟩,(by trivial)⟩
def Tryz.xX:bX Tryz.prog Tryz.B.eT Tryz.X 8 [.slice cQ,.int .i64] [.bool] (fun _=>True) (fun x y=>y=true->pU x.1 x.2):=
 cG (B:=(Ms Tryz.B)) (X:=Tryz.X) (bP.wrap Tryz.Of) Tryz.func8 (by kernel_rfl) (fun x=>FO x.1 x.2) (fun x hw hp=>Jq x.1 x.2 hw)
def Tryz.spZ31:Bool×aU:=(true,rR [.slice cQ,.int .i64] [.bool] (fun _=>True) (fun x y=>y=true->pU x.1 x.2))
def Tryz.spZ32:Bool×aU:=(false,aZ [] [] (fun _ _=>True) Tryz.DM)
def Tryz.spZ33:Bool×aU:=(false,aZ Tryz.aW [.obj 0,.d .str,.d .str] (fun _ x=>x.2.1.1.length<=6/\0<=x.1.1/\x.1.1<=1000000) Tryz.vF)
def Tryz.spZ34:Bool×aU:=(false,aZ Tryz.aW [.obj 0,.d .str] (fun _ _=>True) Tryz.tA)
def Tryz.FP:List (FuncId×(Bool×aU)):=[(45,Tryz.spZ0),(17,Tryz.spZ1),(29,Tryz.spZ30),(8,Tryz.spZ31),(26,Tryz.spZ32),(13,Tryz.spZ23),(27,Tryz.spZ33),(28,Tryz.spZ34)]
def Tryz.KE:bP Tryz.prog Tryz.B Tryz.X Tryz.FP:=
 aQ (aE Tryz.jn) (aQ (aE Tryz.ir) (aQ (ji Tryz.qW) (aQ (ji Tryz.xX) (aQ (Tryz.LB) (aQ (Tryz.p5) (aQ (Tryz.Fv) (aQ (Tryz.CU) (bR Tryz.bQ))))))))
def Tryz.LO(l:List (D cQ))(f:cH):dY:=[(0,fun st=>{X:=Nat,inv:=fun i=>i<=l.length,cB:=fun i=>l.length-i,bK:=fun i=>[(4,sI i)],keep:=[0,1],aF:=fun i=>[(0,.cells 93 [.eM 1,.d (.int .i64) (fY f (l.take i)).1.1]),(1,.ext 1 (ij cI) (fY f (l.take i)).2.1)],gP:=[0,1]})]
def Tryz.Bj:List (Alt Tryz.aW [.obj 0,.d (.slice cQ)]):=[{bN:=Tryz.aW,res:=[],out:=fun a x=>fY x a.1,ret:=fun _ _=>()}]
def VO(l:List (D cQ))(f:cH)(hw:gV [.obj 0,.d (.slice cQ)] (l,()))(hp:(fun _ x=>dA x) (l,()) f):(cY Tryz.B Tryz.FP Tryz.f14 (Tryz.LO l f) Tryz.aW [.obj 0,.d (.slice cQ)] Tryz.Bj (l,()) f).holds:=by
 refine holds_of (p:=
  let za:=gE l
  let zb:=C.eM 1=C.eM 1
  let zc:=fun(F:Nat)=>0<=(↑F:Int)/\(↑F:Int)<(↑za:Int)
  let zd:=fun(F:Nat)=>fY f (gN F l)
  let ze:=aM 1
  let zf:=fun(F:Nat)=>(↑F:Int)+1
  let zg:=fun(F:Nat)=>(cL (zd F) (nth cQ l F).2.1 (nth cQ l F).2.2.1).1
  let zh:=fun(F:Nat)=>(fE (zd F) (nth cQ l F).2.1).1
  (∃(x:Nat),x<=za/\(0=(↑x:Int)/\True)/\(zb/\f.1.1=(fY f (gN x l)).1.1/\True)/\f.2.1=(fY f (gN x l)).2.1/\True)/\∀F:Nat,F<=za->za<=aN->((decide ((↑F:Int)<(↑za:Int)))=true->zc F/\(((nth cQ l F).1 == [119,114,105,116,101])=true->zc F/\zc F/\(gE (zd F).2.1.1<=6/\0<=(zd F).1.1/\(zd F).1.1<=1000000)/\(True->aM (↑F:Int)->ze->aM (zf F)/\∃(x':Nat),x'<=za/\za-x'<za-F/\(zf F=(↑x':Int)/\True)/\(zb/\(zg F).1.1=(fY f (gN x' l)).1.1/\True)/\(zg F).2.1=(fY f (gN x' l)).2.1/\True))/\(((nth cQ l F).1 == [119,114,105,116,101])=false->zc F/\(((nth cQ l F).1 == [114,101,109,111,118,101])=true->zc F/\True/\(True->aM (↑F:Int)->ze->aM (zf F)/\∃(x':Nat),x'<=za/\za-x'<za-F/\(zf F=(↑x':Int)/\True)/\(zb/\(zh F).1.1=(fY f (gN x' l)).1.1/\True)/\(zh F).2.1=(fY f (gN x' l)).2.1/\True))/\(((nth cQ l F).1 == [114,101,109,111,118,101])=false->aM (↑F:Int)->ze->aM (zf F)/\∃(x':Nat),x'<=za/\za-x'<za-F/\(zf F=(↑x':Int)/\True)/\(zb/\(zd F).1.1=(fY f (gN x' l)).1.1/\True)/\(zd F).2.1=(fY f (gN x' l)).2.1/\True)))/\((decide ((↑F:Int)<(↑za:Int)))=false->True/\zd F=fY f l/\()=())) (by kernel_rfl) ?_
 dsimp -iota -proj -eta only;refine⟨(⟨0,by omega,⟨rfl,dT⟩,⟨rfl,rfl,dT⟩,rfl,dT⟩),fun F q_0 h0=>iL (fun h1=>⟨?a,iQ (fun h2=>⟨?b,?c,((dA.done _ hp).pre),fun h3 h4 h5=>⟨?d,(by exact⟨F+1,by omega,by omega,⟨by omega,dT⟩,by rw[uZ (by omega),JV (by unfold rX;assumption)];exact⟨⟨rfl,rfl,dT⟩,rfl,dT⟩⟩)⟩⟩) (fun h2=>⟨?e,iQ (fun h3=>⟨?f,dT,fun h4 h5 h6=>⟨?g,(by exact⟨F+1,by omega,by omega,⟨by omega,dT⟩,by rw[uZ (by omega),Hv (by unfold rX;assumption) (by unfold tW;assumption)];exact⟨⟨rfl,rfl,dT⟩,rfl,dT⟩⟩)⟩⟩) (fun h3 h4 h5=>⟨?h,(by exact⟨F+1,by omega,by omega,⟨by omega,dT⟩,by rw[uZ (by omega),MC (by unfold rX;assumption) (by unfold tW;assumption)];exact⟨⟨rfl,rfl,dT⟩,rfl,dT⟩⟩)⟩)⟩)⟩) (fun h1=>(by rw[List.take_of_length_le (by omega)];exact⟨dT,rfl,rfl⟩))⟩
 case a|b|c|e|f=>omega
 case d|g|h=>simp only[aM,aN]at*;omega
def Tryz.LP:bY Tryz.prog Tryz.B.eT Tryz.X 14 false (aZ Tryz.aW [.obj 0,.d (.slice cQ)] (fun _ x=>dA x) Tryz.Bj):=
 bH (X:=Tryz.X) Tryz.KE Tryz.func14 (by kernel_rfl) (fun(a:CD [.obj 0,.d (.slice cQ)]) (x:PD Tryz.aW)=>Tryz.LO a.1 x) (fun(a:CD [.obj 0,.d (.slice cQ)]) (x:PD Tryz.aW) hw hp=>VO a.1 x hw hp)
def Tryz.spZ35:Bool×aU:=(false,aZ Tryz.sV [.obj 0,.obj 2] (fun _ x=>dC x.2.2 1000000/\∀i,i<x.2.2.2.2.1.length->(nth .str x.2.2.2.2.1 i).length=64) Tryz.Bi)
def Tryz.spZ36:Bool×aU:=(false,aZ Tryz.dH [.obj 0,.d .str] (fun _ x=>x.2.2.1.1.length<=6/\tt x.2.2.2.1.2.1) Tryz.xW)
def Tryz.Jr:List (FuncId×(Bool×aU)):=[(45,Tryz.spZ0),(17,Tryz.spZ1),(25,(false,aZ [] [] (fun _ _=>True) Tryz.tz)),(26,Tryz.spZ32),(27,Tryz.spZ33),(28,Tryz.spZ34),(21,Tryz.spZ35),(11,Tryz.spZ36)]
def Tryz.Og:bP Tryz.prog Tryz.B Tryz.X Tryz.Jr:=
 aQ (aE Tryz.jn) (aQ (aE Tryz.ir) (aQ (Tryz.NX) (aQ (Tryz.LB) (aQ (Tryz.Fv) (aQ (Tryz.CU) (aQ (Tryz.LN) (aQ (Tryz.Jo) (bR Tryz.bQ))))))))
def Tryz.xY:List (Alt [] []):=[{bN:=Tryz.dH,res:=[.obj 1,.obj 0,.obj 4,.d .bool],out:=fun _ _=>((),IH.1,IH.2.1,jm),ret:=fun _ _=>(true,())}]
def T4  (hw:gV [] ()):(cY Tryz.B Tryz.Jr Tryz.f7 [] [] [] Tryz.xY () ()).holds:=by
 refine holds_of (p:=
  let za:=(iT (qT (112:Int))).1
  let zb:=za.2.2.2.1=za.2.2.2.1
  let zc:=(dO za).2
  let zd:=gE (@ha FE)<=6/\(0:Int)<=(0:Int)/\(0:Int)<=(1000000:Int)
  let ze:=!aL.isNil (aJ (0:Int))
  let zf:=[(122:UInt8),122]
  let zg:=((0:Int)+(1:Int),())
  let zh:=eU cI (@ha FE) zf ([(119:UInt8),111,114,100,32,53,10,98,97,115,101,32,48,32,51,10],zg) (0:Int)
  let zi:=(dO za).1.2
  let zj:=(mT cI (@ha FE) zf (0:Int),())
  let zk:=jv (zg,(zh,zj),()) zi zf
  True/\(True->True/\(True->((!true)=true->False)/\((!true)=false->zb/\(dC za 1000000/\∀(i:Nat),i<gE za.2.2.1->gE (nth Ty.str za.2.2.1 i)=64)/\(zc≠(0:Int)->((!aL.isNil (aJ zc))=true->False)/\((!aL.isNil (aJ zc))=false->zd/\(True->(ze=true->False)/\(ze=false->False))))/\(zc=(0:Int)->((!aL.isNil aL.nil)=true->False)/\((!aL.isNil aL.nil)=false->zd/\(True->(ze=true->False)/\(ze=false->zb/\(gE zh<=6/\tt zi)/\(True->((!aL.isNil (aJ zk.2.2))=true->False)/\((!aL.isNil (aJ zk.2.2))=false->((zk.2.1)=true->False)/\((zk.2.1)=false->gE zk.1<=aN->(((↑(gE zk.1):Int) != (1:Int))=true->False)/\(((↑(gE zk.1):Int) != (1:Int))=false->True/\(True->(ze=true->False)/\(ze=false->zb/\True/\((),zg,(fU cI zh zf,zj),((dO za).1.1,zi,()),za)=((),zg,(fU cI (eU cI (@ha FE) zf (AU,zg) (0:Int)) zf,zj),jm)/\(true,())=(true,()))))))))))))))) (by kernel_rfl) ?_
 dsimp -iota -proj -eta only;refine⟨dT,fun h0=>⟨dT,fun h1=>⟨fun h2=>absurd (show false=true from h2) (by decide),fun h2=>⟨rfl,⟨jD.vy,jD.sec⟩,⟨fun h3=>iB (fun h4 =>?a) (fun h4=>⟨?b,fun h5=>⟨fun h6=>absurd (show false=true from h6) (by decide),fun h6 =>?c⟩⟩),fun h3=>⟨fun h4=>absurd (show false=true from h4) (by decide),fun h4=>⟨?d,fun h5=>⟨fun h6=>absurd (show false=true from h6) (by decide),fun h6=>⟨rfl,⟨Vf,vS.Tg⟩,fun h7=>iB (fun h8=>(hc ((congrArg (fun z:List (D iH)×Bool×Int=>(aJ z.2.2).isNil) DF).symm.trans h8))) (fun h8=>⟨fun h9=>(hc ((congrArg (fun z:List (D iH)×Bool×Int=>z.2.1) DF).symm.trans h9)),fun h9 h10=>iN (fun h11=>(absurd (congrArg (fun z:List (D iH)×Bool×Int=>(z.1.length:Int)) DF) h11)) (fun h11=>⟨dT,fun h12=>⟨fun h13=>absurd (show false=true from h13) (by decide),fun h13=>⟨rfl,dT,congrArg (fun z=>((),IH.1,IH.2.1,z)) zZ,rfl⟩⟩⟩)⟩)⟩⟩⟩⟩⟩⟩⟩⟩⟩
 case a|c=>exact absurd jD.DD ‹_›
 case b|d=>trivial
def Tryz.T5:bY Tryz.prog Tryz.B.eT Tryz.X 7 false (aZ [] [] (fun _ _=>True) Tryz.xY):=
 bH (X:=Tryz.X) Tryz.Og Tryz.func7 (by kernel_rfl) (fun(a:CD []) (x:PD [])=>[]) (fun(a:CD []) (x:PD []) hw hp=>T4  hw)
def Tryz.spZ37:Bool×aU:=(false,aZ Tryz.dH [.obj 0,.d .str] (fun _ x=>fR (x.2.1,x.2.2.1,())/\xJ x.2.2.2) Tryz.vI)
def Tryz.spZ38:Bool×aU:=(false,aZ Tryz.aW [.obj 0,.d (.slice cQ)] (fun _ x=>dA x) Tryz.Bj)
def Tryz.LQ:List (FuncId×(Bool×aU)):=[(10,Tryz.spZ37),(16,(false,aZ Tryz.dH [.obj 0,.d .str] (fun _ x=>xJ x.2.2.2) Tryz.xV)),(21,Tryz.spZ35),(14,Tryz.spZ38)]
def Tryz.Ry:bP Tryz.prog Tryz.B Tryz.X Tryz.LQ:=
 aQ (Tryz.FM) (aQ (Tryz.T0) (aQ (Tryz.LN) (aQ (Tryz.LP) (bR Tryz.bQ))))
def Tryz.LR:dY:=[
 (200000,fun st=>{X:=Nat×cH×Sh,inv:=fun x=>x.1<=(cO (.slice cQ) st 3).length/\kS x.2.1 x.2.2 x.1,cB:=fun x=>(cO (.slice cQ) st 3).length-x.1,bK:=fun x=>[(9,sI x.1)],keep:=[0,2,3,8],aO:=Tryz.dH,refs:=[(0,1),(1,0),(2,4)],stay:=[1,4],pd:=fun x=>((),x.2.1.1,x.2.1.2.1,x.2.2)})]
end Go.Proofs.YtgokjhhcfemnhadGreatDoor

