/- A part of the proof that the law TopDropCard holds of the given program: facts that are used there. -/
import Derived.Test.YtgokjhhcfemnhadGreatDoorPart4
set_option linter.unusedSimpArgs false
set_option linter.unusedVariables false
set_option maxRecDepth 100000
set_option maxHeartbeats 4000000
set_option linter.defProp false
noncomputable section
open True renaming intro->dT
open List renaming length->gE,take->gN,nil->ha,length_singleton->hh
open Go.IntKind renaming i64->hb,wrap->hf
open Bool renaming noConfusion->hc
open Nat renaming zero_le->hg,not_lt_zero->hk
namespace Go.Proofs.YtgokjhhcfemnhadGreatDoor
open Go.Vg Go.Mrl
def Tryz.LJ:List (FuncId×(Bool×aT)):=[(40,Tryz.spZ26),(13,Tryz.spZ23)]
def Tryz.Rx:bO Tryz.prog Tryz.B Tryz.X Tryz.LJ:=
 aQ (Tryz.FJ) (aQ (Tryz.sf) (bR Tryz.bQ))
def Tryz.LK(s:List UInt8)(f:cN):dY:=[
 (0,fun st=>{X:=Nat,inv:=fun i=>i<=gE (cX (.slice .str) st 6),cD:=fun i=>gE (cX (.slice .str) st 6)-i,bM:=fun i=>[(35,sI i)],keep:=[0,4,8,11,33,34],aF:=fun i=>[(bH st 11,.cells 53 [.d .str s,.app aG (cB (aK f) (cX (.slice .str) st 6) (cX (.slice (.int .i64)) st 8) i) (nA st (bH st 11) 1),.d (.slice aR) (cX (.slice aR) st 9)]),(nA st (bH st 11) 1,.tok aG (cB (aK f) (cX (.slice .str) st 6) (cX (.slice (.int .i64)) st 8) i))],gQ:=[bH st 11,nA st (bH st 11) 1]})]
def Tryz.Bg:List (Alt Tryz.aW [.obj 0,.d .str]):=[{bN:=Tryz.aW,res:=[.d aC,.d .err],out:=fun _ x=>x,ret:=fun a x=>((dR (aK x) a.1).1,aI (dR (aK x) a.1).2,())}]
def VU(s:List UInt8)(f:cN)(hw:gI [.obj 0,.d .str] (s,()))(hp:(fun _ x=>x.2.1.1.length<=6) (s,()) f):(cR Tryz.B Tryz.LJ Tryz.f30 (Tryz.LK s f) Tryz.aW [.obj 0,.d .str] Tryz.Bg (s,()) f).holds:=by
 refine holds_of (p:=
  let za:=aK f
  let zb:=aY za s
  let zc:=aI zb.2.2.2.2
  let zd:=([],[],[],())
  let ze:=((dR za s).1,aI (dR za s).2,())
  let zf:=zb.1
  let zg:=gE zf
  let zh:=zb.2.2.1
  let zi:=zb.2.2.2.1
  let zj:=zi=zi/\True
  let zk:=fun(E:Nat)=>aI (aK f (nth Ty.str zf E)).2.2
  let zl:=fun(E:Nat)=>cB za zf zh E
  let zm:=fun(E:Nat)=>[(nth Ty.str zf E,(aK f (nth Ty.str zf E)).2.1,nth (Ty.int hb) zh E,())]
  let zn:=@ha (Int×Int×Int×Unit)=@ha (Int×Int×Int×Unit)
  let zo:=@ha (List UInt8×Int×Int×Unit)=@ha (List UInt8×Int×Int×Unit)
  gE f.2.1.1<=6/\(True->((!aL.isNil zc)=true->True/\f=f/\(zd,zc,())=ze)/\((!aL.isNil zc)=false->zg<=aM->(∃(x:Nat),x<=zg/\(0=(↑x:Int)/\True)/\(s=s/\@ha (List UInt8×Int×Int×Unit)=cB za zf zh x/\zj)/\@ha (List UInt8×Int×Int×Unit)=cB za zf zh x/\True)/\∀E:Nat,E<=zg->((decide ((↑E:Int)<(↑zg:Int)))=true->(0<=(↑E:Int)/\(↑E:Int)<(↑zg:Int))/\True/\(True->((!aL.isNil (zk E))=true->True/\f=f/\(zd,zk E,())=ze)/\((!aL.isNil (zk E))=false->(0<=(↑E:Int)/\(↑E:Int)<(↑(gE zh):Int))/\(zl E=zl E/\gE (zl E)+gE (zm E)<=1000000000)/\(aJ (↑E:Int)->aJ 1->aJ ((↑E:Int)+1)/\∃(x':Nat),x'<=zg/\zg-x'<zg-E/\((↑E:Int)+1=(↑x':Int)/\True)/\(s=s/\zl E++zm E=cB za zf zh x'/\zj)/\zl E++zm E=cB za zf zh x'/\zn/\zo/\(C.eR 1=C.eR 1/\f.1.1=f.1.1/\True)/\f.2.1=f.2.1/\(@ha UInt8=@ha UInt8/\zo/\zn/\True)/\zn/\zo/\True))))/\((decide ((↑E:Int)<(↑zg:Int)))=false->True/\f=f/\((s,zl E,zi,()),aL.nil,())=ze)))) (by kernel_rfl) ?_
 dsimp -iota -proj -eta only;exact⟨(by trivial),fun h0=>iB (fun h1=>(by exact⟨dT,rfl,by rw[HK (dK h1)];rfl⟩)) (fun h1 h2=>⟨(⟨0,hg _,⟨rfl,dT⟩,⟨rfl,rfl,rfl,dT⟩,rfl,(by trivial)⟩),fun E q_0=>iL (fun h3=>⟨(by omega),dT,fun h4=>iB (fun h5=>(absurd (ER (jB hp) (aP.1 h1) (by omega)) (dK h5))) (fun h5=>⟨(by have:=(ES (jB hp) (aP.1 h1)).1;omega),(by exact⟨rfl,by rw[eX];have:=(ES (jB hp) (aP.1 h1)).2;simp only[hh];omega⟩),fun h6 h7=>⟨(by simp only[aJ,aM]at*;omega),(⟨E+1,by omega,by omega,⟨by omega,dT⟩,⟨rfl,(xA _ _ _ _).symm,rfl,dT⟩,(xA _ _ _ _).symm,(by trivial)⟩)⟩⟩)⟩) (fun h3=>(by exact⟨dT,rfl,by rw[yx (aP.1 h1),show E=gE (aY (aK f) s).1 by omega];rfl⟩))⟩)⟩
def Tryz.VV:bX Tryz.prog Tryz.B.eT Tryz.X 30 false (aV Tryz.aW [.obj 0,.d .str] (fun _ x=>x.2.1.1.length<=6) Tryz.Bg):=
 bE (X:=Tryz.X) Tryz.Rx Tryz.func30 (by kernel_rfl) (fun(a:CD [.obj 0,.d .str]) (x:PD Tryz.aW)=>Tryz.LK a.1 x) (fun(a:CD [.obj 0,.d .str]) (x:PD Tryz.aW) hw hp=>VU a.1 x hw hp)
def Tryz.Jf:List (FuncId×(Bool×aT)):=[(13,Tryz.spZ23)]
def Tryz.Oa:bO Tryz.prog Tryz.B Tryz.X Tryz.Jf:=
 aQ (Tryz.sf) (bR Tryz.bQ)
def Tryz.Jg(e:D aC)(f:cN):dY:=[
 (0,fun st=>{X:=Nat,inv:=fun i=>i<=gE e.2.1/\∀j,j<i->jd (aK f) (nth aG e.2.1 j)=true,cD:=fun i=>gE e.2.1-i,bM:=fun i=>[(13,sI i)],keep:=[1,2,11,12]})]
def Tryz.xV:List (Alt Tryz.aW [.d aC,.obj 0]):=[{bN:=Tryz.aW,res:=[.d .bool],out:=fun _ x=>x,ret:=fun a x=>(fL (aK x) a.1,())}]
def T9(e:D aC)(f:cN)(hw:gI [.d aC,.obj 0] (e,())):(cR Tryz.B Tryz.Jf Tryz.f33 (Tryz.Jg e f) Tryz.aW [.d aC,.obj 0] Tryz.xV (e,()) f).holds:=by
 refine holds_of (p:=
  let za:=e.2.1
  let zb:=gE za
  let zc:=aK f
  let zd:=fun(E:Nat)=>(aK f (nth aG za E).1).2
  let ze:=(fL zc e,())
  let zf:=True/\f=f/\(false,())=ze
  zb<=aM->(∃(x:Nat),(x<=zb/\∀(j:Nat),j<x->jd zc (nth aG za j)=true)/\(0=(↑x:Int)/\True)/\True)/\∀E:Nat,(E<=zb/\∀(j:Nat),j<E->jd zc (nth aG za j)=true)->((decide ((↑E:Int)<(↑zb:Int)))=true->(0<=(↑E:Int)/\(↑E:Int)<(↑zb:Int))/\True/\(True->((!aL.isNil (aI (zd E).2))=true->zf)/\((!aL.isNil (aI (zd E).2))=false->(((zd E).1 != (nth aG za E).2.1)=true->zf)/\(((zd E).1 != (nth aG za E).2.1)=false->aJ (↑E:Int)->aJ 1->aJ ((↑E:Int)+1)/\∃(x':Nat),(x'<=zb/\∀(j:Nat),j<x'->jd zc (nth aG za j)=true)/\zb-x'<zb-E/\((↑E:Int)+1=(↑x':Int)/\True)/\(e.1=e.1/\za=za/\e.2.2.1=e.2.2.1/\True)/\(C.eR 1=C.eR 1/\f.1.1=f.1.1/\True)/\f.2.1=f.2.1/\True))))/\((decide ((↑E:Int)<(↑zb:Int)))=false->zb<=aM->True/\f=f/\(decide ((↑zb:Int) > 0),())=ze)) (by kernel_rfl) ?_
 dsimp -iota -proj -eta only;exact fun h0=>⟨(⟨0,⟨hg _,fun j hj=>absurd hj (hk _)⟩,⟨rfl,dT⟩,dT⟩),fun E q_0=>iL (fun h1=>⟨(by omega),dT,fun h2=>iB (fun h3=>⟨dT,rfl,by rw[HM (i:=E) (by omega) (PR h3)]⟩) (fun h3=>iN (fun h4=>⟨dT,rfl,by rw[HM (i:=E) (by omega) (M6 h4)]⟩) (fun h4 h5 h6=>⟨(by simp only[aJ,aM]at*;omega),(⟨E+1,⟨by omega,lY q_0.2 (M7 ‹_› ‹_›)⟩,by omega,⟨by omega,dT⟩,(by trivial)⟩)⟩))⟩) (fun h1 h2=>(by exact⟨dT,rfl,by rw[EL fun i hi=>q_0.2 i (by omega)];simp⟩))⟩
def Tryz.Jh:bX Tryz.prog Tryz.B.eT Tryz.X 33 false (aV Tryz.aW [.d aC,.obj 0] (fun _ _=>True) Tryz.xV):=
 bE (X:=Tryz.X) Tryz.Oa Tryz.func33 (by kernel_rfl) (fun(a:CD [.d aC,.obj 0]) (x:PD Tryz.aW)=>Tryz.Jg a.1 x) (fun(a:CD [.d aC,.obj 0]) (x:PD Tryz.aW) hw hp=>T9 a.1 x hw)
def Tryz.spZ28:Bool×aT:=(false,aV Tryz.aW [.d aC,.obj 0] (fun _ _=>True) Tryz.xV)
def Tryz.Ry:List (FuncId×(Bool×aT)):=[(33,Tryz.spZ28),(13,Tryz.spZ23),(35,Tryz.spZ24),(41,Tryz.spZ27)]
def Tryz.Ua:bO Tryz.prog Tryz.B Tryz.X Tryz.Ry:=
 aQ (Tryz.Jh) (aQ (Tryz.sf) (aQ (aE Tryz.FC) (aQ (aE Tryz.Ru) (bR Tryz.bQ))))
def Tryz.Rz(e:D aC)(f:cN):dY:=[
 (0,fun st=>{X:=Nat,inv:=fun i=>i<=gE e.2.1/\∀j,j<i->(cU (aK f (nth aG e.2.1 j).1).1).2=0,cD:=fun i=>gE e.2.1-i,bM:=fun i=>[(23,sI i),(6,.s (.one (.app .str (fV (gN i e.2.1)) (bH st 6)))),(7,.s (.one (.app (.int .i64) (fW (gN i e.2.1)) (bH st 7)))),(8,.s (.one (.app aB (fR (aK f) (gN i e.2.1)) (bH st 8))))],aF:=fun i=>[(bH st 6,.tok .str (fV (gN i e.2.1))),(bH st 7,.tok (.int .i64) (fW (gN i e.2.1))),(bH st 8,.tok aB (fR (aK f) (gN i e.2.1)))],keep:=[1,2,21,22],gQ:=[bH st 6,bH st 7,bH st 8]}),
 (300015,fun st=>{X:=Nat,inv:=fun i=>i=(cX (.int .i64) st 23).toNat+1,cD:=fun _=>0,bM:=fun i=>[(6,.s (.one (.app .str (fV (gN i e.2.1)) (bH st 6)))),(7,.s (.one (.app (.int .i64) (fW (gN i e.2.1)) (bH st 7)))),(8,.s (.one (.app aB (fR (aK f) (gN i e.2.1)) (bH st 8))))],aF:=fun i=>[(bH st 6,.tok .str (fV (gN i e.2.1))),(bH st 7,.tok (.int .i64) (fW (gN i e.2.1))),(bH st 8,.tok aB (fR (aK f) (gN i e.2.1)))],keep:=[1,2,4,5,10,11,13,14,21,22,23,24,25,26,27,28,29,30,31,32,33,34,35,36,37,38,39,40,41,42,43,44,45],gQ:=[bH st 6,bH st 7,bH st 8]})]
def Tryz.DM:List (Alt Tryz.aW [.d aC,.obj 0]):=[{bN:=Tryz.aW,res:=[.d (.slice jq),.d .err],out:=fun _ x=>x,ret:=fun a x=>((kB (aK x) a.1).1,aI (kB (aK x) a.1).2,())}]
def WR(e:D aC)(f:cN)(hw:gI [.d aC,.obj 0] (e,()))(hp:(fun a x=>a.1.2.1.length<=1000/\x.2.1.1.length<=6) (e,()) f):(cR Tryz.B Tryz.Ry Tryz.f34 (Tryz.Rz e f) Tryz.aW [.d aC,.obj 0] Tryz.DM (e,()) f).holds:=by
 refine holds_of (p:=
  let za:=aK f
  let zb:=f=f
  let zc:=((kB za e).1,aI (kB za e).2,())
  let zd:=e.2.1
  let ze:=gE zd
  let zf:=fun(E:Nat)=>(nth aG zd E).1
  let zg:=fun(E:Nat)=>aI (aK f (zf E)).2.2
  let zh:=fun(E:Nat)=>aI (cU (aK f (zf E)).1).2
  let zi:=fun(E:Nat)=>fV (gN E zd)
  let zj:=fun(E:Nat)=>zi E=zi E/\gE (zi E)+gE [zf E]<=1000000000
  let zk:=fun(E:Nat)=>fW (gN E zd)
  let zl:=fun(E:Nat)=>(nth aG zd E).2.2.1
  let zm:=fun(E:Nat)=>fR za (gN E zd)
  let zn:=fun(E:Nat)=>(cU (aK f (zf E)).1).1
  let zo:=C.eR 1=C.eR 1/\f.1.1=f.1.1/\True
  let zp:=f.2.1=f.2.1
  let zq:=e.2.2.1
  let zr:=@ha (List UInt8×Int×List Int×Unit)=@ha (List UInt8×Int×List Int×Unit)/\(e.1=e.1/\zd=zd/\zq=zq/\True)/\True
  let zs:=fun(E:Nat)=>(zk E=zk E/\gE (zk E)+gE [zl E]<=1000000000)/\(zm E=zm E/\gE (zm E)+gE [zn E]<=1000000000)/\∃(x':Nat),x'=E+1/\(zi E++[zf E]=fV (gN x' zd)/\zk E++[zl E]=fW (gN x' zd)/\zm E++[zn E]=fR za (gN x' zd)/\True)/\zi E++[zf E]=fV (gN x' zd)/\zk E++[zl E]=fW (gN x' zd)/\zm E++[zn E]=fR za (gN x' zd)/\((zn E).1=(zn E).1/\(zn E).2.1=(zn E).2.1/\(zn E).2.2.1=(zn E).2.2.1/\(zn E).2.2.2.1=(zn E).2.2.2.1/\True)/\@ha (Int×Int×Int×List UInt8×Bool×Unit)=@ha (Int×Int×Int×List UInt8×Bool×Unit)/\@ha (List UInt8×Int×Bool×Unit)=@ha (List UInt8×Int×Bool×Unit)/\@ha Int=@ha Int/\@ha (List UInt8)=@ha (List UInt8)/\zo/\zp/\(zf E=zf E/\(nth aG zd E).2.1=(nth aG zd E).2.1/\zl E=zl E/\True)/\zr
  let zt:=fun(E:Nat)=>zj E/\(fun a0:Prop=>a0/\a0/\a0) (zs E)/\(fun a0:Prop=>a0/\a0) (zs E)/\zs E
  let zu:=fun(E:Nat)=>zj E/\zs E
  let zv:=fun(E:Nat)=>(zj E/\(fun a0:Prop=>a0/\a0/\a0) (zs E))/\(zj E/\(fun a0:Prop=>a0/\a0) (zs E))/\zu E
  let zw:=fun(E:Nat)=>zj E/\(fun a0:Prop=>a0/\a0) (zs E)/\zs E
  let zx:=fun(E:Nat)=>(zj E/\(fun a0:Prop=>a0/\a0) (zs E))/\zu E
  let zy:=fun(E:Nat)=>(fun a0 a1 a2 a3 a4:Prop=>a0/\a1/\a2/\a3/\a4/\a4) (zt E) (zv E) (zw E) (zx E) (zu E)
  let zz:=fun(E:Nat)=>(fun a0 a1 a2:Prop=>a0/\a1/\a2/\a2) (zw E) (zx E) (zu E)
  let zaa:=fun(E:Nat)=>jO (zi E) (zk E) (zm E) zq
  True/\(True->((!fL za e)=true->True/\zb/\([],aL.no 10,())=zc)/\((!fL za e)=false->ze<=aM->(∃(x:Nat),(x<=ze/\∀(j:Nat),j<x->(cU (aK f (nth aG zd j).1).1).2=0)/\(0=(↑x:Int)/\@ha (List UInt8)=fV (gN x zd)/\@ha Int=fW (gN x zd)/\@ha (List (List UInt8)×List Int×List (List UInt8×Int×Bool×Unit)×List (Int×Int×Int×List UInt8×Bool×Unit)×Unit)=fR za (gN x zd)/\True)/\@ha (List UInt8)=fV (gN x zd)/\@ha Int=fW (gN x zd)/\@ha (List (List UInt8)×List Int×List (List UInt8×Int×Bool×Unit)×List (Int×Int×Int×List UInt8×Bool×Unit)×Unit)=fR za (gN x zd)/\True)/\∀E:Nat,(E<=ze/\∀(j:Nat),j<E->(cU (aK f (nth aG zd j).1).1).2=0)->((decide ((↑E:Int)<(↑ze:Int)))=true->(0<=(↑E:Int)/\(↑E:Int)<(↑ze:Int))/\True/\(True->((!aL.isNil (zg E))=true->True/\zb/\([],zg E,())=zc)/\((!aL.isNil (zg E))=false->True/\((!aL.isNil (zh E))=true->True/\zb/\([],zh E,())=zc)/\((!aL.isNil (zh E))=false->((fun a0 a1 a2 a3 a4:Prop=>a0/\a1/\a2/\a3/\a4/\a4/\a4) (zt E) (zy E) (zw E) (zz E) (zu E)/\(zy E/\(zv E/\zx E/\zu E)/\zz E/\(zx E/\zu E)/\(fun a0:Prop=>a0/\a0) (zu E)/\zu E)/\(fun a0 a1 a2:Prop=>a0/\a1/\a2/\a2/\a2) (zw E) (zz E) (zu E)/\(zz E/\(zx E/\zu E)/\(fun a0:Prop=>a0/\a0) (zu E)/\zu E)/\(fun a0:Prop=>a0/\a0/\a0) (zu E)/\(fun a0:Prop=>a0/\a0) (zu E)/\zu E)/\∀F:Nat,F=E+1->aJ (↑E:Int)->aJ 1->aJ ((↑E:Int)+1)/\∃(x':Nat),(x'<=ze/\∀(j:Nat),j<x'->(cU (aK f (nth aG zd j).1).1).2=0)/\ze-x'<ze-E/\((↑E:Int)+1=(↑x':Int)/\zi F=fV (gN x' zd)/\zk F=fW (gN x' zd)/\zm F=fR za (gN x' zd)/\True)/\zi F=fV (gN x' zd)/\zk F=fW (gN x' zd)/\zm F=fR za (gN x' zd)/\zo/\zp/\zr))))/\((decide ((↑E:Int)<(↑ze:Int)))=false->(gE (zm E)<=1000/\∀(i:Nat),i<gE (zm E)->gE (nth aB (zm E) i).2.1<=1000)/\True/\zb/\((zaa E).1,(zaa E).2,())=zc)))) (by kernel_rfl) ?_
 dsimp -iota -proj -eta only;dsimp only at hp;refine⟨dT,fun h0=>iB (fun h1=>(by exact⟨dT,rfl,by rw[PK h1];rfl⟩)) (fun h1 h2=>⟨(⟨0,⟨hg _,fun j hj=>absurd hj (hk _)⟩,⟨rfl,rfl,rfl,rfl,dT⟩,(by trivial)⟩),fun E q_0=>iL (fun h3=>⟨(by omega),dT,fun h4=>iB (fun h5=>(absurd ((EM h1).2 E (by omega)).1 (dK h5))) (fun h5=>⟨dT,iB (fun h6=>⟨dT,rfl,by rw[U8 h1 (HN q_0.2 (by omega) (dK h6)) (dK h6)]⟩) (fun h6=>⟨⟨(show ∀{a0 a1 a2 a3 a4:Prop},a0->a1->a2->a3->a4->a0/\a1/\a2/\a3/\a4/\a4/\a4 from fun g0 g1 g2 g3 g4=>⟨g0,g1,g2,g3,g4,g4,g4⟩) (⟨?a,⟨(show ∀{a0:Prop},a0->a0/\a0/\a0 from fun g0=>⟨g0,g0,g0⟩) (⟨?b,?c,?d⟩),(show ∀{a0:Prop},a0->a0/\a0 from fun g0=>⟨g0,g0⟩) (⟨?e,?f,?g⟩),⟨?h,?i,?j⟩⟩⟩) ((show ∀{a0 a1 a2 a3 a4:Prop},a0->a1->a2->a3->a4->a0/\a1/\a2/\a3/\a4/\a4 from fun g0 g1 g2 g3 g4=>⟨g0,g1,g2,g3,g4,g4⟩) (⟨?k,⟨(show ∀{a0:Prop},a0->a0/\a0/\a0 from fun g0=>⟨g0,g0,g0⟩) (⟨?l,?m,?n⟩),(show ∀{a0:Prop},a0->a0/\a0 from fun g0=>⟨g0,g0⟩) (⟨?o,?p,?q⟩),⟨?r,?s,?t⟩⟩⟩) (⟨⟨?u,(show ∀{a0:Prop},a0->a0/\a0/\a0 from fun g0=>⟨g0,g0,g0⟩) (⟨?v,?w,?x⟩)⟩,⟨?y,(show ∀{a0:Prop},a0->a0/\a0 from fun g0=>⟨g0,g0⟩) (⟨?z,?a0,?a1⟩)⟩,⟨?a2,?a3,?a4,?a5⟩⟩) (⟨?a6,⟨(show ∀{a0:Prop},a0->a0/\a0 from fun g0=>⟨g0,g0⟩) (⟨?a7,?a8,?a9⟩),⟨?aa,?ab,?ac⟩⟩⟩) (⟨⟨?ad,(show ∀{a0:Prop},a0->a0/\a0 from fun g0=>⟨g0,g0⟩) (⟨?ae,?af,?ag⟩)⟩,⟨?ah,?ai,?aj,?ak⟩⟩) (⟨?al,?am,?an,?ao⟩)) (⟨?ap,⟨(show ∀{a0:Prop},a0->a0/\a0 from fun g0=>⟨g0,g0⟩) (⟨?aq,?ar,?au⟩),⟨?av,?aw,?ax⟩⟩⟩) ((show ∀{a0 a1 a2:Prop},a0->a1->a2->a0/\a1/\a2/\a2 from fun g0 g1 g2=>⟨g0,g1,g2,g2⟩) (⟨?ay,⟨(show ∀{a0:Prop},a0->a0/\a0 from fun g0=>⟨g0,g0⟩) (⟨?az,?b0,?b1⟩),⟨?b2,?b3,?b4⟩⟩⟩) (⟨⟨?b5,(show ∀{a0:Prop},a0->a0/\a0 from fun g0=>⟨g0,g0⟩) (⟨?b6,?b7,?b8⟩)⟩,⟨?b9,?ba,?bb,?bc⟩⟩) (⟨?bd,?be,?bf,?bg⟩)) (⟨?bh,?bi,?bj,?bk⟩),⟨(show ∀{a0 a1 a2 a3 a4:Prop},a0->a1->a2->a3->a4->a0/\a1/\a2/\a3/\a4/\a4 from fun g0 g1 g2 g3 g4=>⟨g0,g1,g2,g3,g4,g4⟩) (⟨?bl,⟨(show ∀{a0:Prop},a0->a0/\a0/\a0 from fun g0=>⟨g0,g0,g0⟩) (⟨?bm,?bn,?bo⟩),(show ∀{a0:Prop},a0->a0/\a0 from fun g0=>⟨g0,g0⟩) (⟨?bp,?bq,?br⟩),⟨?bs,?bt,?bu⟩⟩⟩) (⟨⟨?bv,(show ∀{a0:Prop},a0->a0/\a0/\a0 from fun g0=>⟨g0,g0,g0⟩) (⟨?bw,?bx,?bz⟩)⟩,⟨?c0,(show ∀{a0:Prop},a0->a0/\a0 from fun g0=>⟨g0,g0⟩) (⟨?c1,?c2,?c3⟩)⟩,⟨?c4,?c5,?c6,?c7⟩⟩) (⟨?c8,⟨(show ∀{a0:Prop},a0->a0/\a0 from fun g0=>⟨g0,g0⟩) (⟨?c9,?ca,?cb⟩),⟨?cc,?cd,?ce⟩⟩⟩) (⟨⟨?cf,(show ∀{a0:Prop},a0->a0/\a0 from fun g0=>⟨g0,g0⟩) (⟨?cg,?ch,?ci⟩)⟩,⟨?cj,?ck,?cl,?cm⟩⟩) (⟨?cn,?co,?cp,?cq⟩),⟨⟨⟨?cr,(show ∀{a0:Prop},a0->a0/\a0/\a0 from fun g0=>⟨g0,g0,g0⟩) (⟨?cs,?ct,?cu⟩)⟩,⟨?cv,(show ∀{a0:Prop},a0->a0/\a0 from fun g0=>⟨g0,g0⟩) (⟨?cw,?cx,?cy⟩)⟩,⟨?cz,?d0,?d1,?d2⟩⟩,⟨⟨?d3,(show ∀{a0:Prop},a0->a0/\a0 from fun g0=>⟨g0,g0⟩) (⟨?d4,?d5,?d6⟩)⟩,⟨?d7,?d8,?d9,?da⟩⟩,⟨?db,?dc,?dd,?de⟩⟩,(show ∀{a0 a1 a2:Prop},a0->a1->a2->a0/\a1/\a2/\a2 from fun g0 g1 g2=>⟨g0,g1,g2,g2⟩) (⟨?df,⟨(show ∀{a0:Prop},a0->a0/\a0 from fun g0=>⟨g0,g0⟩) (⟨?dg,?dh,?di⟩),⟨?dj,?dk,?dl⟩⟩⟩) (⟨⟨?dm,(show ∀{a0:Prop},a0->a0/\a0 from fun g0=>⟨g0,g0⟩) (⟨?dn,?dp,?dq⟩)⟩,⟨?dr,?ds,?dt,?du⟩⟩) (⟨?dv,?dw,?dx,?dy⟩),⟨⟨⟨?dz,(show ∀{a0:Prop},a0->a0/\a0 from fun g0=>⟨g0,g0⟩) (⟨?e0,?e1,?e2⟩)⟩,⟨?e3,?e4,?e5,?e6⟩⟩,⟨?e7,?e8,?e9,?ea⟩⟩,(show ∀{a0:Prop},a0->a0/\a0 from fun g0=>⟨g0,g0⟩) (⟨?eb,?ec,?ed,?ee⟩),⟨?ef,?eg,?eh,?ei⟩⟩,(show ∀{a0 a1 a2:Prop},a0->a1->a2->a0/\a1/\a2/\a2/\a2 from fun g0 g1 g2=>⟨g0,g1,g2,g2,g2⟩) (⟨?ej,⟨(show ∀{a0:Prop},a0->a0/\a0 from fun g0=>⟨g0,g0⟩) (⟨?ek,?el,?em⟩),⟨?en,?eo,?ep⟩⟩⟩) ((show ∀{a0 a1 a2:Prop},a0->a1->a2->a0/\a1/\a2/\a2 from fun g0 g1 g2=>⟨g0,g1,g2,g2⟩) (⟨?eq,⟨(show ∀{a0:Prop},a0->a0/\a0 from fun g0=>⟨g0,g0⟩) (⟨?er,?es,?et⟩),⟨?eu,?ev,?ew⟩⟩⟩) (⟨⟨?ex,(show ∀{a0:Prop},a0->a0/\a0 from fun g0=>⟨g0,g0⟩) (⟨?ey,?ez,?f0⟩)⟩,⟨?f1,?f2,?f3,?f4⟩⟩) (⟨?f5,?f6,?f7,?f8⟩)) (⟨?f9,?fa,?fb,?fc⟩),⟨(show ∀{a0 a1 a2:Prop},a0->a1->a2->a0/\a1/\a2/\a2 from fun g0 g1 g2=>⟨g0,g1,g2,g2⟩) (⟨?fd,⟨(show ∀{a0:Prop},a0->a0/\a0 from fun g0=>⟨g0,g0⟩) (⟨?fe,?ff,?fg⟩),⟨?fh,?fi,?fj⟩⟩⟩) (⟨⟨?fk,(show ∀{a0:Prop},a0->a0/\a0 from fun g0=>⟨g0,g0⟩) (⟨?fl,?fm,?fn⟩)⟩,⟨?fo,?fp,?fq,?fr⟩⟩) (⟨?fs,?ft,?fu,?fv⟩),⟨⟨⟨?fw,(show ∀{a0:Prop},a0->a0/\a0 from fun g0=>⟨g0,g0⟩) (⟨?fx,?fy,?fz⟩)⟩,⟨?g0,?g1,?g2,?g3⟩⟩,⟨?g4,?g5,?g6,?g7⟩⟩,(show ∀{a0:Prop},a0->a0/\a0 from fun g0=>⟨g0,g0⟩) (⟨?g8,?g9,?ga,?gb⟩),⟨?gc,?gd,?ge,?gf⟩⟩,(show ∀{a0:Prop},a0->a0/\a0/\a0 from fun g0=>⟨g0,g0,g0⟩) (⟨?gg,?gh,?gi,?gj⟩),(show ∀{a0:Prop},a0->a0/\a0 from fun g0=>⟨g0,g0⟩) (⟨?gk,?gl,?gm,?gn⟩),⟨?go,?gp,?gq,?gr⟩⟩,fun F q_1 h7 h8=>⟨(by simp only[aJ,aM]at*;omega),?gs⟩⟩)⟩)⟩) (fun h3=>⟨(by rw[HI (by omega)];exact PQ hp.1 fun j hj=>q_0.2 j (by omega)),(by rw[HI (by omega)];exact⟨dT,rfl,SU h1 (vg fun j hj=>q_0.2 j (by omega))⟩)⟩)⟩)⟩
 case a|b|c|e|f|h|i|k|l|m|o|p|r|s|u|v|w|y|z|a0|a2|a3|a4|a6|a7|a8|aa|ab|ad|ae|af|ah|ai|aj|al|am|an|ap|aq|ar|av|aw|ay|az|b0|b2|b3|b5|b6|b7|b9|ba|bb|bd|be|bf|bh|bi|bj|bl|bm|bn|bp|bq|bs|bt|bv|bw|bx|c0|c1|c2|c4|c5|c6|c8|c9|ca|cc|cd|cf|cg|ch|cj|ck|cl|cn|co|cp|cr|cs|ct|cv|cw|cx|cz|d0|d1|d3|d4|d5|d7|d8|d9|db|dc|dd|df|dg|dh|dj|dk|dm|dn|dp|dr|ds|dt|dv|dw|dx|dz|e0|e1|e3|e4|e5|e7|e8|e9|eb|ec|ed|ef|eg|eh|ej|ek|el|en|eo|eq|er|es|eu|ev|ex|ey|ez|f1|f2|f3|f5|f6|f7|f9|fa|fb|fd|fe|ff|fh|fi|fk|fl|fm|fo|fp|fq|fs|ft|fu|fw|fx|fy|g0|g1|g2|g4|g5|g6|g8|g9|ga|gc|gd|ge|gg|gh|gi|gk|gl|gm|go|gp|gq=>exact⟨rfl,by simp only[fV,fW,fR,List.length_map,List.length_take,hh];have:=hp.1;omega⟩
 case d|g|j|n|q|t|x|a1|a5|a9|ac|ag|ak|ao|au|ax|b1|b4|b8|bc|bg|bk|bo|br|bu|bz|c3|c7|cb|ce|ci|cm|cq|cu|cy|d2|d6|da|de|di|dl|dq|du|dy|e2|e6|ea|ee|ei|em|ep|et|ew|f0|f4|f8|fc|fg|fj|fn|fr|fv|fz|g3|g7|gb|gf|gj|gn|gr=>exact⟨E+1,rfl,⟨zM (by omega),zN (by omega),Cj (by omega),dT⟩,zM (by omega),zN (by omega),Cj (by omega),(by trivial)⟩
 case gs=>
  subst q_1;exact⟨E+1,⟨by omega,lY q_0.2 (aP.1 ‹_›)⟩,by omega,⟨by omega,rfl,rfl,rfl,dT⟩,rfl,rfl,rfl,(by trivial)⟩
def Tryz.WS:bX Tryz.prog Tryz.B.eT Tryz.X 34 false (aV Tryz.aW [.d aC,.obj 0] (fun a x=>a.1.2.1.length<=1000/\x.2.1.1.length<=6) Tryz.DM):=
 bE (X:=Tryz.X) Tryz.Ua Tryz.func34 (by kernel_rfl) (fun(a:CD [.d aC,.obj 0]) (x:PD Tryz.aW)=>Tryz.Rz a.1 x) (fun(a:CD [.d aC,.obj 0]) (x:PD Tryz.aW) hw hp=>WR a.1 x hw hp)
@[reducible] def Tryz.cG:List Ob:=[.box 75 [.obj 1,.obj 3],.box 93 [.obj 2,.d (.int .i64)],.ext 1 (iT cJ),.box 117 [.obj 4,.d (.int .i64),.d (.slice aC)],.box 98 [.obj 5,.obj 6,.obj 7,.d (.int .i64),.d .bool],.row true .str,.row true .str,.tok jr]
@[reducible] def Tryz.sX:List Ob:=[.box 93 [.obj 1,.d (.int .i64)],.ext 1 (iT cJ),.box 98 [.obj 3,.obj 4,.obj 5,.d (.int .i64),.d .bool],.row true .str,.row true .str,.tok jr]
def Tryz.LL:List (FuncId×(Bool×aT)):=[(39,Tryz.spZ20)]
def Tryz.RA:bO Tryz.prog Tryz.B Tryz.X Tryz.LL:=
 aQ (Tryz.Ly) (bR Tryz.bQ)
def Tryz.Bh:List (Alt Tryz.sX [.obj 0,.obj 2]):=[
 {bN:=Tryz.sX,res:=[.gW,.d .err],ok:=fun _ x=>(dP x.2.2).2≠0,out:=fun _ x=>x,ret:=fun _ x=>(aI (dP x.2.2).2,())},
 {bN:=Tryz.sX++[.box 75 [.obj 0,.obj 7],.box 117 [.obj 2,.d (.int .i64),.d (.slice aC)]],res:=[.obj 6,.d .err],ok:=fun _ x=>(dP x.2.2).2=0,out:=fun _ x=>(x.1,x.2.1,x.2.2.1,x.2.2.2.1,x.2.2.2.2.1,x.2.2.2.2.2.1,(),((dP x.2.2).1.1,(dP x.2.2).1.2,()),()),ret:=fun _ _=>(aL.nil,())}]
def VW(n:Int×Unit)(m:List FE×Int×Unit)(d:Dk)(hw:gI [.obj 0,.obj 2] ())(hp:(fun _ x=>dA x.2.2 1000000/\∀i,i<x.2.2.2.2.1.length->(nth .str x.2.2.2.2.1 i).length=64) () (n,m,d)):(cR Tryz.B Tryz.LL Tryz.f21 [] Tryz.sX [.obj 0,.obj 2] Tryz.Bh () (n,m,d)).holds:=by
 refine holds_of (p:=
  let za:=d.2.2.2.1
  let zb:=za=za
  let zc:=d.2.2.1
  let zd:=(dP d).2
  let ze:=zd≠0
  let zf:=(n,m,d)=(n,m,d)
  let zg:=(aI zd,())
  let zh:=(n,m,d.1,d.2.1,zc,za,(),((dP d).1.1,(dP d).1.2,()),())
  zb/\(dA d 1000000/\∀(i:Nat),i<gE zc->gE (nth Ty.str zc i)=64)/\(ze->((!aL.isNil (aI zd))=true->zb/\ze/\zf/\zg=zg)/\((!aL.isNil (aI zd))=false->False))/\(zd=0->((!aL.isNil aL.nil)=true->zb/\ze/\zf/\(aL.nil,())=zg)/\((!aL.isNil aL.nil)=false->zb/\zd=0/\zh=zh/\(aL.nil,())=(aL.nil,())))) (by kernel_rfl) ?_
 dsimp -iota -proj -eta only;dsimp only at hp;refine⟨rfl,?a,⟨fun h0=>iB (fun h1 =>?b) (fun h1=>(absurd (aP.1 h1) h0)),fun h0=>⟨fun h1=>absurd (show false=true from h1) (by decide),fun h1 =>?c⟩⟩⟩
 case a|b|c=>trivial
def Tryz.LM:bX Tryz.prog Tryz.B.eT Tryz.X 21 false (aV Tryz.sX [.obj 0,.obj 2] (fun _ x=>dA x.2.2 1000000/\∀i,i<x.2.2.2.2.1.length->(nth .str x.2.2.2.2.1 i).length=64) Tryz.Bh):=
 bE (X:=Tryz.X) Tryz.RA Tryz.func21 (by kernel_rfl) (fun(a:CD [.obj 0,.obj 2]) (x:PD Tryz.sX)=>[]) (fun(a:CD [.obj 0,.obj 2]) (x:PD Tryz.sX) hw hp=>VW x.1 x.2.1 x.2.2 hw hp)
def Tryz.FK:List (FuncId×(Bool×aT)):=[(30,(false,aV Tryz.aW [.obj 0,.d .str] (fun _ x=>x.2.1.1.length<=6) Tryz.Bg)),(31,(false,aV Tryz.bT [.obj 0,.d aC] (fun a x=>(a.1.2.1.length<=1000000/\a.1.2.2.1.length<=1000000)/\x.1.2.1.length<=99/\0<=(x.1.1:Int)/\(x.1.1:Int)<=1000000000/\dA x.2 1000000) Tryz.DG))]
def Tryz.KE:bO Tryz.prog Tryz.B Tryz.X Tryz.FK:=
 aQ (Tryz.VV) (aQ (Tryz.TL) (bR Tryz.bQ))
def Tryz.vK:List (Alt Tryz.cG [.obj 0,.d .str]):=[{bN:=Tryz.cG,res:=[.d .err],out:=fun a x=>((),x.2.1,x.2.2.1,(jQ (x.2.1,x.2.2.1,()) x.2.2.2 a.1).1),ret:=fun a x=>(aI (jQ (x.2.1,x.2.2.1,()) x.2.2.2 a.1).2,())}]
def RB(s:List UInt8)(n:Int×Unit)(m:List FE×Int×Unit)(r:Int)(o:List (D aC))(d:Dk)(hw:gI [.obj 0,.d .str] (s,()))(hp:(fun _ x=>gG (x.2.1,x.2.2.1,())/\vz x.2.2.2) (s,()) ((),n,m,(r,o,()),d)):(cR Tryz.B Tryz.FK Tryz.f10 [] Tryz.cG [.obj 0,.d .str] Tryz.vK (s,()) ((),n,m,(r,o,()),d)).holds:=by
 refine holds_of (p:=
  let za:=dR (aK (n,m,())) s
  let zb:=d.2.2.2.1=d.2.2.2.1
  let zc:=((r,o,()),d)
  let zd:=jQ (n,m,()) zc s
  let ze:=((),n,m,zd.1)
  let zf:=(aI zd.2,())
  let zg:=ky zc za.1
  let zh:=zg.1.2.2.2.2.1
  gE m.1<=6/\(True->((!aL.isNil (aI za.2))=true->zb/\True/\((),n,m,zc)=ze/\(aI za.2,())=zf)/\((!aL.isNil (aI za.2))=false->zb/\((gE za.1.2.1<=1000000/\gE za.1.2.2.1<=1000000)/\gE o<=99/\0<=r/\r<=1000000000/\dA d 1000000)/\(True->zh=zh/\True/\((),n,m,zg.1)=ze/\(aI zg.2,())=zf)))) (by kernel_rfl) ?_
 dsimp -iota -proj -eta only;dsimp only at hp;exact⟨hp.1.st.pre.1,fun h0=>iB (fun h1=>(by rw[QA (dK h1)];exact⟨rfl,dT,rfl,rfl⟩)) (fun h1=>⟨rfl,⟨NG hp.1 (aP.1 h1),hp.2⟩,fun h2=>(by rw[NF (aP.1 h1)];exact⟨rfl,dT,rfl,rfl⟩)⟩)⟩
def Tryz.RC:bX Tryz.prog Tryz.B.eT Tryz.X 10 false (aV Tryz.cG [.obj 0,.d .str] (fun _ x=>gG (x.2.1,x.2.2.1,())/\vz x.2.2.2) Tryz.vK):=
 bE (X:=Tryz.X) Tryz.KE Tryz.func10 (by kernel_rfl) (fun(a:CD [.obj 0,.d .str]) (x:PD Tryz.cG)=>[]) (fun(a:CD [.obj 0,.d .str]) (x:PD Tryz.cG) hw hp=>RB a.1 x.2.1 x.2.2.1 x.2.2.2.1.1 x.2.2.2.1.2.1 x.2.2.2.2 hw hp)
def Tryz.Ji:List (FuncId×(Bool×aT)):=[(38,(false,aV Tryz.bT [.obj 0,.d .str] (fun _ x=>x.1.2.1.length<=100/\0<=(x.1.1:Int)/\(x.1.1:Int)<=1000000000/\dA x.2 1000000) Tryz.Bd))]
def Tryz.Oc:bO Tryz.prog Tryz.B Tryz.X Tryz.Ji:=
 aQ (Tryz.VN) (bR Tryz.bQ)
def Tryz.xW:List (Alt Tryz.cG [.obj 0,.d .str]):=[{bN:=Tryz.cG,res:=[.d .err],out:=fun a x=>((),x.2.1,x.2.2.1,(dH x.2.2.2 a.1).1),ret:=fun a x=>(aI (dH x.2.2.2 a.1).2,())}]
def Ub(s:List UInt8)(n:Int×Unit)(m:List FE×Int×Unit)(r:Int)(o:List (D aC))(d:Dk)(hw:gI [.obj 0,.d .str] (s,()))(hp:(fun _ x=>vz x.2.2.2) (s,()) ((),n,m,(r,o,()),d)):(cR Tryz.B Tryz.Ji Tryz.f16 [] Tryz.cG [.obj 0,.d .str] Tryz.xW (s,()) ((),n,m,(r,o,()),d)).holds:=by
 refine holds_of (p:=
  let za:=dH ((r,o,()),d) s
  let zb:=za.1.2.2.2.2.1
  let zc:=((),n,m,za.1)
  let zd:=(aI za.2,())
  d.2.2.2.1=d.2.2.2.1/\(gE o<=100/\0<=r/\r<=1000000000/\dA d 1000000)/\(True->zb=zb/\True/\zc=zc/\zd=zd)) (by kernel_rfl) ?_
 dsimp -iota -proj -eta only;dsimp only at hp;exact⟨rfl,⟨Nat.le_trans hp.1 (by decide),hp.2⟩,fun h0=>(by trivial)⟩
def Tryz.Jj:bX Tryz.prog Tryz.B.eT Tryz.X 16 false (aV Tryz.cG [.obj 0,.d .str] (fun _ x=>vz x.2.2.2) Tryz.xW):=
 bE (X:=Tryz.X) Tryz.Oc Tryz.func16 (by kernel_rfl) (fun(a:CD [.obj 0,.d .str]) (x:PD Tryz.cG)=>[]) (fun(a:CD [.obj 0,.d .str]) (x:PD Tryz.cG) hw hp=>Ub a.1 x.2.1 x.2.2.1 x.2.2.2.1.1 x.2.2.2.1.2.1 x.2.2.2.2 hw hp)
def Tryz.Jk:List (FuncId×(Bool×aT)):=[(32,(false,aV Tryz.bT [.obj 0,.d .str] (fun _ x=>∀i,i<x.1.2.1.length->(nth aC x.1.2.1 i).2.1.length<=1000000/\(nth aC x.1.2.1 i).2.2.1.length<=1000000) Tryz.DH)),(33,Tryz.spZ28),(34,(false,aV Tryz.aW [.d aC,.obj 0] (fun a x=>a.1.2.1.length<=1000/\x.2.1.1.length<=6) Tryz.DM)),(22,(false,aV Tryz.aW [.obj 0,.d .str] (fun _ x=>x.2.1.1.length<=6) Tryz.Bf))]
def Tryz.Od:bO Tryz.prog Tryz.B Tryz.X Tryz.Jk:=
 aQ (Tryz.WH) (aQ (Tryz.Jh) (aQ (Tryz.WS) (aQ (Tryz.VT) (bR Tryz.bQ))))
def Tryz.xX:List (Alt Tryz.cG [.obj 0,.d .str]):=[{bN:=Tryz.cG,res:=[.d (.slice jq),.d .bool,.d .err],out:=fun _ x=>x,ret:=fun a x=>((fJ (x.2.1,x.2.2.1,()) x.2.2.2.1.2.1 a.1).1,(fJ (x.2.1,x.2.2.1,()) x.2.2.2.1.2.1 a.1).2.1,aI (fJ (x.2.1,x.2.2.1,()) x.2.2.2.1.2.1 a.1).2.2,())}]
def Uc(s:List UInt8)(n:Int×Unit)(m:List FE×Int×Unit)(r:Int)(o:List (D aC))(d:Dk)(hw:gI [.obj 0,.d .str] (s,()))(hp:(fun _ x=>x.2.2.1.1.length<=6/\sa x.2.2.2.1.2.1) (s,()) ((),n,m,(r,o,()),d)):(cR Tryz.B Tryz.Jk Tryz.f11 [] Tryz.cG [.obj 0,.d .str] Tryz.xX (s,()) ((),n,m,(r,o,()),d)).holds:=by
 refine holds_of (p:=
  let za:=d.2.2.2.1=d.2.2.2.1
  let zb:=aK (n,m,())
  let zc:=(dO o s).1
  let zd:=gE m.1<=6
  let ze:=((),n,m,(r,o,()),d)
  let zf:=aI (kB zb zc).2
  let zg:=fJ (n,m,()) o s
  let zh:=(zg.1,zg.2.1,aI zg.2.2,())
  let zi:=zd/\(True->za/\True/\ze=ze/\((hU zb s).1,false,aI (hU zb s).2,())=zh)
  za/\(∀(i:Nat),i<gE o->gE (nth aC o i).2.1<=1000000/\gE (nth aC o i).2.2.1<=1000000)/\(True->(((dO o s).2)=true->True/\(True->((fL zb zc)=true->(gE zc.2.1<=1000/\zd)/\(True->za/\True/\ze=ze/\((kB zb zc).1,aL.isNil zf,zf,())=zh))/\((fL zb zc)=false->zi)))/\(((dO o s).2)=false->zi))) (by kernel_rfl) ?_
 dsimp -iota -proj -eta only;dsimp only at hp;refine⟨rfl,hp.2.wide,fun h0=>⟨fun h1=>⟨dT,fun h2=>⟨fun h3=>⟨⟨QB hp.2 h1,hp.1⟩,fun h4=>(by rw[QC h1 h3,Vl];exact⟨rfl,dT,rfl,rfl⟩)⟩,fun h3=>⟨?a,fun h4=>(by rw[sV fun z=>hc (z.2.symm.trans h3)];exact⟨rfl,dT,rfl,rfl⟩)⟩⟩⟩,fun h1=>⟨?b,fun h2=>(by rw[sV fun z=>hc (z.1.symm.trans h1)];exact⟨rfl,dT,rfl,rfl⟩)⟩⟩⟩
 case a|b=>omega
def Tryz.Jl:bX Tryz.prog Tryz.B.eT Tryz.X 11 false (aV Tryz.cG [.obj 0,.d .str] (fun _ x=>x.2.2.1.1.length<=6/\sa x.2.2.2.1.2.1) Tryz.xX):=
 bE (X:=Tryz.X) Tryz.Od Tryz.func11 (by kernel_rfl) (fun(a:CD [.obj 0,.d .str]) (x:PD Tryz.cG)=>[]) (fun(a:CD [.obj 0,.d .str]) (x:PD Tryz.cG) hw hp=>Uc a.1 x.2.1 x.2.2.1 x.2.2.2.1.1 x.2.2.2.1.2.1 x.2.2.2.2 hw hp)
def Tryz.FL:List (FuncId×(Bool×aT)):=[(37,(false,aV Tryz.bT [.obj 0] (fun _ x=>x.1.2.1.length<=1000000) Tryz.xS))]
def Tryz.KF:bO Tryz.prog Tryz.B Tryz.X Tryz.FL:=
 aQ (Tryz.TO) (bR Tryz.bQ)
def Tryz.vL:List (Alt Tryz.cG [.obj 0]):=[{bN:=Tryz.cG,res:=[.d (.slice .str)],out:=fun _ x=>x,ret:=fun _ x=>(fX x.2.2.2.1.2.1,())}]
def RD(n:Int×Unit)(m:List FE×Int×Unit)(r:Int)(o:List (D aC))(d:Dk)(hw:gI [.obj 0] ())(hp:(fun _ x=>x.2.2.2.1.2.1.length<=1000000) () ((),n,m,(r,o,()),d)):(cR Tryz.B Tryz.FL Tryz.f15 [] Tryz.cG [.obj 0] Tryz.vL () ((),n,m,(r,o,()),d)).holds:=by
 refine holds_of (p:=
  let za:=d.2.2.2.1=d.2.2.2.1
  let zb:=((),n,m,(r,o,()),d)
  let zc:=(fX o,())
  za/\gE o<=1000000/\(True->za/\True/\zb=zb/\zc=zc)) (by kernel_rfl) ?_
 dsimp -iota -proj -eta only;dsimp only at hp;refine⟨rfl,?a,fun h0 =>?b⟩
 case a|b=>trivial
def Tryz.RE:bX Tryz.prog Tryz.B.eT Tryz.X 15 false (aV Tryz.cG [.obj 0] (fun _ x=>x.2.2.2.1.2.1.length<=1000000) Tryz.vL):=
 bE (X:=Tryz.X) Tryz.KF Tryz.func15 (by kernel_rfl) (fun(a:CD [.obj 0]) (x:PD Tryz.cG)=>[]) (fun(a:CD [.obj 0]) (x:PD Tryz.cG) hw hp=>RD x.2.1 x.2.2.1 x.2.2.2.1.1 x.2.2.2.1.2.1 x.2.2.2.2 hw hp)
def FM(e:D aC):dY:=[
 (0,fun st=>{X:=Nat,inv:=fun i=>i<=e.2.1.length/\∀j,j<i->(nth aG e.2.1 j).1.length<=20,cD:=fun i=>e.2.1.length-i,bM:=fun i=>[(3,sI i)],keep:=[1]})]
def F2(e:D aC)(hw:gU [aC] e):(dM Tryz.B [] Tryz.f29 (FM e) [aC] [.bool] (fun e y=>y=true->rU e) e).holds:=by
 refine holds_of (p:=
  let za:=false=true->rU e
  let zb:=e.2.1
  let zc:=gE zb
  let zd:=e.2.2.1
  let ze:=fun(E:Nat)=>gE (nth aG zb E).1
  gE e.1<=aM->((decide ((↑(gE e.1):Int) > 20))=true->za)/\((decide ((↑(gE e.1):Int) > 20))=false->zc<=aM->((decide ((↑zc:Int) > 8))=true->za)/\((decide ((↑zc:Int) > 8))=false->gE zd<=aM->((decide ((↑(gE zd):Int) > 40))=true->za)/\((decide ((↑(gE zd):Int) > 40))=false->(∃(x:Nat),(x<=zc/\∀(j:Nat),j<x->gE (nth aG zb j).1<=20)/\(0=(↑x:Int)/\True)/\True)/\∀E:Nat,(E<=zc/\∀(j:Nat),j<E->gE (nth aG zb j).1<=20)->zc<=aM->((decide ((↑E:Int)<(↑zc:Int)))=true->(0<=(↑E:Int)/\(↑E:Int)<(↑zc:Int))/\(ze E<=aM->((decide ((↑(ze E):Int) > 20))=true->za)/\((decide ((↑(ze E):Int) > 20))=false->aJ (↑E:Int)->aJ 1->aJ ((↑E:Int)+1)/\∃(x':Nat),(x'<=zc/\∀(j:Nat),j<x'->gE (nth aG zb j).1<=20)/\zc-x'<zc-E/\((↑E:Int)+1=(↑x':Int)/\True)/\(e.1=e.1/\zb=zb/\zd=zd/\True)/\True)))/\((decide ((↑E:Int)<(↑zc:Int)))=false->true=true->rU e))))) (by kernel_rfl) ?_
 dsimp -iota -proj -eta only;refine fun h0=>iL (fun h1 =>?a) (fun h1 h2=>iL (fun h3 =>?b) (fun h3 h4=>iL (fun h5 =>?c) (fun h5=>⟨?d,fun E q_0 h6=>iL (fun h7=>⟨(by omega),fun h8=>iL (fun h9 =>?e) (fun h9 h10 h11=>⟨(by simp only[aJ,aM]at*;omega),(⟨E+1,⟨by omega,lY q_0.2 (by omega)⟩,by omega,⟨by omega,dT⟩,(by trivial)⟩)⟩)⟩) (fun h7=>(fun _=>⟨by omega,by omega,by omega,fun i hi=>q_0.2 i (by omega)⟩))⟩)))
 case a|b|c|e=>simp_all
 case d=>refine⟨0,?_⟩;(repeat' (first|exact trivial|rfl|omega|assumption|apply And.intro))
def Tryz.qT:bY Tryz.prog Tryz.B.eT Tryz.X 29 [aC] [.bool] (fun _=>True) (fun e y=>y=true->rU e):=
 cF (X:=Tryz.X) (bR Tryz.bQ) Tryz.func29 (by kernel_rfl) (fun x=>FM x) (fun x hw hp=>F2 x hw)
def Tryz.spZ29:Bool×aT:=(true,rP [aC] [.bool] (fun _=>True) (fun e y=>y=true->rU e))
def Tryz.Jm:List (FuncId×(Bool×aT)):=[(29,Tryz.spZ29)]
def Tryz.Oe:bO Tryz.prog Tryz.B Tryz.X Tryz.Jm:=
 aQ (jg Tryz.qT) (bR Tryz.bQ)
def FN(l:List (D dB))(m:Int):dY:=[
 (0,fun st=>{X:=Nat×Int,inv:=fun x=>x.1<=l.length/\(0<=x.2/\x.2<=20000)/\∀j,j<x.1->xc (nth dB l j),cD:=fun x=>l.length-x.1,bM:=fun x=>[(6,sI x.1),(5,sI x.2)],keep:=[0]})]
def Jn(l:List (D dB))(m:Int)(hw:gU [.slice dB,.int .i64] (l,m)):(dM (Mr Tryz.B) Tryz.Jm Tryz.f8 (FN l m) [.slice dB,.int .i64] [.bool] (fun x y=>y=true->rn x.1 x.2) (l,m)).holds:=by
 refine holds_of (p:=
  let za:=gE l
  let zb:=false=true->rn l m
  let zc:=fun(E:Nat×Int)=>(↑E.1:Int)<(↑za:Int)
  let zd:=fun(E:Nat×Int)=>0<=(↑E.1:Int)/\zc E
  let ze:=fun(E:Nat×Int)=>gE (nth dB l E.1).2.2.1
  let zf:=fun(E:Nat×Int)=>gE (nth dB l E.1).2.1
  za<=aM->((decide ((↑za:Int) > m))=true->zb)/\((decide ((↑za:Int) > m))=false->(∃(x:Nat×Int),(x.1<=za/\(0<=x.2/\x.2<=20000)/\∀(j:Nat),j<x.1->xc (nth dB l j))/\(0=(↑x.1:Int)/\0=x.2/\True)/\True)/\∀E:Nat×Int,(E.1<=za/\(0<=E.2/\E.2<=20000)/\∀(j:Nat),j<E.1->xc (nth dB l j))->za<=aM->((decide (zc E))=true->zd E/\(ze E<=aM->∀F:Int,F=hf hb (E.2+(↑(ze E):Int))->zd E/\(zf E<=aM->((decide ((↑(zf E):Int) > 100))=true->zb)/\((decide ((↑(zf E):Int) > 100))=false->zd E/\(ze E<=aM->((decide ((↑(ze E):Int) > 1300))=true->zb)/\((decide ((↑(ze E):Int) > 1300))=false->((decide (F > 20000))=true->zb)/\((decide (F > 20000))=false->zd E/\True/\∀G:Bool,(G=true->rU (nth dB l E.1).2.2.2.2.2.1)->((!G)=true->zb)/\((!G)=false->∀I:Int,I=hf hb ((↑E.1:Int)+1)->∃(x':Nat×Int),(x'.1<=za/\(0<=x'.2/\x'.2<=20000)/\∀(j:Nat),j<x'.1->xc (nth dB l j))/\za-x'.1<za-E.1/\(I=(↑x'.1:Int)/\F=x'.2/\True)/\True))))))))/\((decide (zc E))=false->true=true->rn l m))) (by kernel_rfl) ?_
 dsimp -iota -proj -eta only;refine fun h0=>iL (fun h1 =>?a) (fun h1=>⟨(by exact⟨(0,0),⟨by omega,by simp,fun j hj=>by simp only at hj;omega⟩,⟨rfl,rfl,dT⟩,dT⟩),fun E q_0 h2=>iL (fun h3=>⟨?b,fun h4 F q_1=>⟨?c,fun h5=>iL (fun h6 =>?d) (fun h6=>⟨?e,fun h7=>iL (fun h8 =>?f) (fun h8=>iL (fun h9 =>?g) (fun h9=>⟨?h,dT,fun G q_2=>iB (fun h10 =>?i) (fun h10 I q_3 =>?j)⟩))⟩)⟩⟩) (fun h3=>(fun _=>⟨by omega,fun i hi=>q_0.2.2 i (by omega)⟩))⟩)
 case a|d|f|g|i=>simp_all
 case b|c|e|h=>omega
 case j=>
  have hw2:hf hb (E.2+(gE (nth dB l E.1).2.2.1:Int))=E.2+(gE (nth dB l E.1).2.2.1:Int):=lC (by omega) (by omega);have hw3:hf hb ((E.1:Int)+1)=(E.1:Int)+1:=lC (by omega) (by have:(aM:Int)=9223372036854775807:=rfl;omega);exact⟨(E.1+1,_),⟨by omega,by simp only;omega,lY q_0.2.2 ⟨by omega,by omega,by simp_all⟩⟩,by simp only;omega,⟨by simp only;omega,rfl,dT⟩,(by trivial)⟩
def Tryz.xY:bY Tryz.prog Tryz.B.eT Tryz.X 8 [.slice dB,.int .i64] [.bool] (fun _=>True) (fun x y=>y=true->rn x.1 x.2):=
 cF (B:=(Mr Tryz.B)) (X:=Tryz.X) (bO.wrap Tryz.Oe) Tryz.func8 (by kernel_rfl) (fun x=>FN x.1 x.2) (fun x hw hp=>Jn x.1 x.2 hw)
def Tryz.spZ30:Bool×aT:=(true,rP [.slice dB,.int .i64] [.bool] (fun _=>True) (fun x y=>y=true->rn x.1 x.2))
def Tryz.spZ31:Bool×aT:=(false,aV [] [] (fun _ _=>True) Tryz.DK)
def Tryz.spZ32:Bool×aT:=(false,aV Tryz.aW [.obj 0,.d .str,.d .str] (fun _ x=>x.2.1.1.length<=6/\0<=x.1.1/\x.1.1<=1000000) Tryz.vH)
def Tryz.spZ33:Bool×aT:=(false,aV Tryz.aW [.obj 0,.d .str] (fun _ _=>True) Tryz.tB)
def Tryz.FO:List (FuncId×(Bool×aT)):=[(45,Tryz.spZ0),(17,Tryz.spZ1),(29,Tryz.spZ29),(8,Tryz.spZ30),(26,Tryz.spZ31),(13,Tryz.spZ23),(27,Tryz.spZ32),(28,Tryz.spZ33)]
def Tryz.KG:bO Tryz.prog Tryz.B Tryz.X Tryz.FO:=
 aQ (aE Tryz.jl) (aQ (aE Tryz.im) (aQ (jg Tryz.qT) (aQ (jg Tryz.xY) (aQ (Tryz.LA) (aQ (Tryz.sf) (aQ (Tryz.Fu) (aQ (Tryz.CQ) (bR Tryz.bQ))))))))
def Tryz.LN(l:List (D dB))(f:cN):dY:=[(0,fun st=>{X:=Nat,inv:=fun i=>i<=l.length,cD:=fun i=>l.length-i,bM:=fun i=>[(4,sI i)],keep:=[0,1],aF:=fun i=>[(0,.cells 93 [.eR 1,.d (.int .i64) (js f (l.take i)).1.1]),(1,.ext 1 (iT cJ) (js f (l.take i)).2.1)],gQ:=[0,1]})]
def Tryz.Bi:List (Alt Tryz.aW [.obj 0,.d (.slice dB)]):=[{bN:=Tryz.aW,res:=[],out:=fun a x=>js x a.1,ret:=fun _ _=>()}]
def VX(l:List (D dB))(f:cN)(hw:gI [.obj 0,.d (.slice dB)] (l,()))(hp:(fun _ x=>dD x) (l,()) f):(cR Tryz.B Tryz.FO Tryz.f14 (Tryz.LN l f) Tryz.aW [.obj 0,.d (.slice dB)] Tryz.Bi (l,()) f).holds:=by
 refine holds_of (p:=
  let za:=gE l
  let zb:=C.eR 1=C.eR 1
  let zc:=fun(E:Nat)=>0<=(↑E:Int)/\(↑E:Int)<(↑za:Int)
  let zd:=fun(E:Nat)=>js f (gN E l)
  let ze:=aJ 1
  let zf:=fun(E:Nat)=>(↑E:Int)+1
  let zg:=fun(E:Nat)=>(cK (zd E) (nth dB l E).2.1 (nth dB l E).2.2.1).1
  let zh:=fun(E:Nat)=>(fF (zd E) (nth dB l E).2.1).1
  (∃(x:Nat),x<=za/\(0=(↑x:Int)/\True)/\(zb/\f.1.1=(js f (gN x l)).1.1/\True)/\f.2.1=(js f (gN x l)).2.1/\True)/\∀E:Nat,E<=za->za<=aM->((decide ((↑E:Int)<(↑za:Int)))=true->zc E/\(((nth dB l E).1 == [119,114,105,116,101])=true->zc E/\zc E/\(gE (zd E).2.1.1<=6/\0<=(zd E).1.1/\(zd E).1.1<=1000000)/\(True->aJ (↑E:Int)->ze->aJ (zf E)/\∃(x':Nat),x'<=za/\za-x'<za-E/\(zf E=(↑x':Int)/\True)/\(zb/\(zg E).1.1=(js f (gN x' l)).1.1/\True)/\(zg E).2.1=(js f (gN x' l)).2.1/\True))/\(((nth dB l E).1 == [119,114,105,116,101])=false->zc E/\(((nth dB l E).1 == [114,101,109,111,118,101])=true->zc E/\True/\(True->aJ (↑E:Int)->ze->aJ (zf E)/\∃(x':Nat),x'<=za/\za-x'<za-E/\(zf E=(↑x':Int)/\True)/\(zb/\(zh E).1.1=(js f (gN x' l)).1.1/\True)/\(zh E).2.1=(js f (gN x' l)).2.1/\True))/\(((nth dB l E).1 == [114,101,109,111,118,101])=false->aJ (↑E:Int)->ze->aJ (zf E)/\∃(x':Nat),x'<=za/\za-x'<za-E/\(zf E=(↑x':Int)/\True)/\(zb/\(zd E).1.1=(js f (gN x' l)).1.1/\True)/\(zd E).2.1=(js f (gN x' l)).2.1/\True)))/\((decide ((↑E:Int)<(↑za:Int)))=false->True/\zd E=js f l/\()=())) (by kernel_rfl) ?_
 dsimp -iota -proj -eta only;refine⟨(⟨0,by omega,⟨rfl,dT⟩,⟨rfl,rfl,dT⟩,rfl,dT⟩),fun E q_0 h0=>iL (fun h1=>⟨?a,iQ (fun h2=>⟨?b,?c,((dD.done _ hp).pre),fun h3 h4 h5=>⟨?d,(by exact⟨E+1,by omega,by omega,⟨by omega,dT⟩,by rw[uZ (by omega),JU (by unfold rV;assumption)];exact⟨⟨rfl,rfl,dT⟩,rfl,dT⟩⟩)⟩⟩) (fun h2=>⟨?e,iQ (fun h3=>⟨?f,dT,fun h4 h5 h6=>⟨?g,(by exact⟨E+1,by omega,by omega,⟨by omega,dT⟩,by rw[uZ (by omega),Hs (by unfold rV;assumption) (by unfold tX;assumption)];exact⟨⟨rfl,rfl,dT⟩,rfl,dT⟩⟩)⟩⟩) (fun h3 h4 h5=>⟨?h,(by exact⟨E+1,by omega,by omega,⟨by omega,dT⟩,by rw[uZ (by omega),MB (by unfold rV;assumption) (by unfold tX;assumption)];exact⟨⟨rfl,rfl,dT⟩,rfl,dT⟩⟩)⟩)⟩)⟩) (fun h1=>(by rw[List.take_of_length_le (by omega)];exact⟨dT,rfl,rfl⟩))⟩
 case a|b|c|e|f=>omega
 case d|g|h=>simp only[aJ,aM]at*;omega
def Tryz.VY:bX Tryz.prog Tryz.B.eT Tryz.X 14 false (aV Tryz.aW [.obj 0,.d (.slice dB)] (fun _ x=>dD x) Tryz.Bi):=
 bE (X:=Tryz.X) Tryz.KG Tryz.func14 (by kernel_rfl) (fun(a:CD [.obj 0,.d (.slice dB)]) (x:PD Tryz.aW)=>Tryz.LN a.1 x) (fun(a:CD [.obj 0,.d (.slice dB)]) (x:PD Tryz.aW) hw hp=>VX a.1 x hw hp)
def Tryz.spZ34:Bool×aT:=(false,aV Tryz.sX [.obj 0,.obj 2] (fun _ x=>dA x.2.2 1000000/\∀i,i<x.2.2.2.2.1.length->(nth .str x.2.2.2.2.1 i).length=64) Tryz.Bh)
def Tryz.spZ35:Bool×aT:=(false,aV Tryz.cG [.obj 0,.d .str] (fun _ x=>x.2.2.1.1.length<=6/\sa x.2.2.2.1.2.1) Tryz.xX)
def Tryz.Jo:List (FuncId×(Bool×aT)):=[(45,Tryz.spZ0),(17,Tryz.spZ1),(25,(false,aV [] [] (fun _ _=>True) Tryz.tA)),(26,Tryz.spZ31),(27,Tryz.spZ32),(28,Tryz.spZ33),(21,Tryz.spZ34),(11,Tryz.spZ35)]
def Tryz.Of:bO Tryz.prog Tryz.B Tryz.X Tryz.Jo:=
 aQ (aE Tryz.jl) (aQ (aE Tryz.im) (aQ (Tryz.NW) (aQ (Tryz.LA) (aQ (Tryz.Fu) (aQ (Tryz.CQ) (aQ (Tryz.LM) (aQ (Tryz.Jl) (bR Tryz.bQ))))))))
def Tryz.xZ:List (Alt [] []):=[{bN:=Tryz.cG,res:=[.obj 1,.obj 0,.obj 4,.d .bool],out:=fun _ _=>((),IB.1,IB.2.1,jk),ret:=fun _ _=>(true,())}]
def Ud  (hw:gI [] ()):(cR Tryz.B Tryz.Jo Tryz.f7 [] [] [] Tryz.xZ () ()).holds:=by
 refine holds_of (p:=
  let za:=(iP (qQ (112:Int))).1
  let zb:=za.2.2.2.1=za.2.2.2.1
  let zc:=(dP za).2
  let zd:=gE (@ha FE)<=6/\(0:Int)<=(0:Int)/\(0:Int)<=(1000000:Int)
  let ze:=!aL.isNil (aI (0:Int))
  let zf:=[(122:UInt8),122]
  let zg:=((0:Int)+(1:Int),())
  let zh:=eU cJ (@ha FE) zf ([(119:UInt8),111,114,100,32,53,10,98,97,115,101,32,48,32,51,10],zg) (0:Int)
  let zi:=(dP za).1.2
  let zj:=(mR cJ (@ha FE) zf (0:Int),())
  let zk:=fJ (zg,(zh,zj),()) zi zf
  True/\(True->True/\(True->((!true)=true->False)/\((!true)=false->zb/\(dA za 1000000/\∀(i:Nat),i<gE za.2.2.1->gE (nth Ty.str za.2.2.1 i)=64)/\(zc≠(0:Int)->((!aL.isNil (aI zc))=true->False)/\((!aL.isNil (aI zc))=false->zd/\(True->(ze=true->False)/\(ze=false->False))))/\(zc=(0:Int)->((!aL.isNil aL.nil)=true->False)/\((!aL.isNil aL.nil)=false->zd/\(True->(ze=true->False)/\(ze=false->zb/\(gE zh<=6/\sa zi)/\(True->((!aL.isNil (aI zk.2.2))=true->False)/\((!aL.isNil (aI zk.2.2))=false->((zk.2.1)=true->False)/\((zk.2.1)=false->gE zk.1<=aM->(((↑(gE zk.1):Int) != (1:Int))=true->False)/\(((↑(gE zk.1):Int) != (1:Int))=false->True/\(True->(ze=true->False)/\(ze=false->zb/\True/\((),zg,(fU cJ zh zf,zj),((dP za).1.1,zi,()),za)=((),zg,(fU cJ (eU cJ (@ha FE) zf (AS,zg) (0:Int)) zf,zj),jk)/\(true,())=(true,()))))))))))))))) (by kernel_rfl) ?_
 dsimp -iota -proj -eta only;refine⟨dT,fun h0=>⟨dT,fun h1=>⟨fun h2=>absurd (show false=true from h2) (by decide),fun h2=>⟨rfl,⟨jE.vy,jE.sec⟩,⟨fun h3=>iB (fun h4 =>?a) (fun h4=>⟨?b,fun h5=>⟨fun h6=>absurd (show false=true from h6) (by decide),fun h6 =>?c⟩⟩),fun h3=>⟨fun h4=>absurd (show false=true from h4) (by decide),fun h4=>⟨?d,fun h5=>⟨fun h6=>absurd (show false=true from h6) (by decide),fun h6=>⟨rfl,⟨Vo,vV.To⟩,fun h7=>iB (fun h8=>(hc ((congrArg (fun z:List (D jq)×Bool×Int=>(aI z.2.2).isNil) DD).symm.trans h8))) (fun h8=>⟨fun h9=>(hc ((congrArg (fun z:List (D jq)×Bool×Int=>z.2.1) DD).symm.trans h9)),fun h9 h10=>iN (fun h11=>(absurd (congrArg (fun z:List (D jq)×Bool×Int=>(z.1.length:Int)) DD) h11)) (fun h11=>⟨dT,fun h12=>⟨fun h13=>absurd (show false=true from h13) (by decide),fun h13=>⟨rfl,dT,congrArg (fun z=>((),IB.1,IB.2.1,z)) z1,rfl⟩⟩⟩)⟩)⟩⟩⟩⟩⟩⟩⟩⟩⟩
 case a|c=>exact absurd jE.DB ‹_›
 case b|d=>trivial
def Tryz.Ue:bX Tryz.prog Tryz.B.eT Tryz.X 7 false (aV [] [] (fun _ _=>True) Tryz.xZ):=
 bE (X:=Tryz.X) Tryz.Of Tryz.func7 (by kernel_rfl) (fun(a:CD []) (x:PD [])=>[]) (fun(a:CD []) (x:PD []) hw hp=>Ud  hw)
def Tryz.spZ36:Bool×aT:=(false,aV Tryz.cG [.obj 0,.d .str] (fun _ x=>vz x.2.2.2) Tryz.xW)
def Tryz.LO:List (FuncId×(Bool×aT)):=[(10,(false,aV Tryz.cG [.obj 0,.d .str] (fun _ x=>gG (x.2.1,x.2.2.1,())/\vz x.2.2.2) Tryz.vK)),(16,Tryz.spZ36),(21,Tryz.spZ34),(14,(false,aV Tryz.aW [.obj 0,.d (.slice dB)] (fun _ x=>dD x) Tryz.Bi))]
def Tryz.RG:bO Tryz.prog Tryz.B Tryz.X Tryz.LO:=
 aQ (Tryz.RC) (aQ (Tryz.Jj) (aQ (Tryz.LM) (aQ (Tryz.VY) (bR Tryz.bQ))))
def Tryz.LP:dY:=[
 (200000,fun st=>{X:=Nat×cN×Sh,inv:=fun x=>x.1<=(cX (.slice dB) st 3).length/\jG x.2.1 x.2.2 x.1,cD:=fun x=>(cX (.slice dB) st 3).length-x.1,bM:=fun x=>[(9,sI x.1)],keep:=[0,2,3,8],aN:=Tryz.cG,refs:=[(0,1),(1,0),(2,4)],stay:=[1,4],pd:=fun x=>((),x.2.1.1,x.2.1.2.1,x.2.2)})]
end Go.Proofs.YtgokjhhcfemnhadGreatDoor

