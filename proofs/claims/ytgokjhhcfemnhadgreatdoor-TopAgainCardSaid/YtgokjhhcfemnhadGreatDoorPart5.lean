/- A part of the proof that the law TopAgainCard holds of the given program: facts that are used there. -/
import Derived.Test.YtgokjhhcfemnhadGreatDoorPart4
set_option linter.unusedSimpArgs false
set_option linter.unusedVariables false
set_option maxRecDepth 100000
set_option maxHeartbeats 4000000
set_option linter.defProp false
noncomputable section
open True renaming intro->dT
open List renaming length->gE,take->gN,nil->ha,length_singleton->hc,length_take->hh,take_of_length_le->hk
open Go.IntKind renaming i64->hb,wrap->hg
open Bool renaming noConfusion->hf
open Nat renaming zero_le->hn,not_lt_zero->ho
namespace Go.Proofs.YtgokjhhcfemnhadGreatDoor
open Go.Vg Go.Mrl
def Jf(l:List (D aB)):dO:=[
 (0,fun st=>{X:=Nat,inv:=fun i=>i<=l.length,cA:=fun i=>l.length-i,bK:=fun i=>[(8,sI i),(3,.s (.one (.app (.int .i64) (bZ (l.take i)) (bG st 3))))],aF:=fun i=>[(bG st 3,.tok (.int .i64) (bZ (l.take i)))],keep:=[2,6,7],gQ:=[bG st 3]})]
def Ry(l:List (D aB))(hw:gA [.slice aB] l)(hp:(fun l=>l.length<=1000) l):(dG Tryz.B [] Tryz.f63 (Jf l) [.slice aB] [.slice (.int .i64)] (fun x y=>y=(fun l=>bZ l) x) l).holds:=by
 refine holds_of (p:=
  let za:=gE l
  let zb:=fun(F:Nat)=>gE (nth aB l F).2.1
  let zc:=fun(F:Nat)=>bZ (gN F l)
  let zd:=fun(F:Nat)=>zc F++[(↑(zb F):Int)]
  za<=aL->(∃(x:Nat),x<=za/\(0=(↑x:Int)/\@ha Int=bZ (gN x l)/\True)/\@ha Int=bZ (gN x l)/\True)/\∀F:Nat,F<=za->((decide ((↑F:Int)<(↑za:Int)))=true->(0<=(↑F:Int)/\(↑F:Int)<(↑za:Int))/\(zb F<=aL->(zc F=zc F/\gE (zc F)+gE [(↑(zb F):Int)]<=1000000000)/\(aJ (↑F:Int)->aJ 1->aJ ((↑F:Int)+1)/\∃(x':Nat),x'<=za/\za-x'<za-F/\((↑F:Int)+1=(↑x':Int)/\zd F=bZ (gN x' l)/\True)/\zd F=bZ (gN x' l)/\@ha Int=@ha Int/\True)))/\((decide ((↑F:Int)<(↑za:Int)))=false->zc F=bZ l)) (by kernel_rfl) ?_
 dsimp -iota -proj -eta only;exact fun h0=>⟨(⟨0,by omega,⟨rfl,rfl,dT⟩,rfl,dT⟩),fun F q_0=>iL (fun h1=>⟨(by omega),fun h2=>⟨(by exact⟨rfl,by rw[pG,hh];simp only[hc];omega⟩),fun h3 h4=>⟨(by simp only[aJ,aL]at*;omega),(⟨F+1,by omega,by omega,⟨by omega,(zH (by omega)).symm,dT⟩,(zH (by omega)).symm,(by trivial)⟩)⟩⟩⟩) (fun h1=>(by rw[hk (by omega)]))⟩
def Tryz.Rz:bW Tryz.prog Tryz.B.eT Tryz.X 63 [.slice aB] [.slice (.int .i64)] (fun l=>l.length<=1000) (fun x y=>y=(fun l=>bZ l) x):=
 cC (X:=Tryz.X) (bR Tryz.bQ) Tryz.func63 (by kernel_rfl) (fun x=>Jf x) (fun x hw hp=>Ry x hw hp)
def Jg(l:List (D aB)):dO:=[
 (0,fun st=>{X:=Nat,inv:=fun i=>i<=l.length,cA:=fun i=>l.length-i,bK:=fun i=>[(8,sI i),(3,.s (.one (.app ji (dB (l.take i)) (bG st 3))))],aF:=fun i=>[(bG st 3,.tok ji (dB (l.take i)))],keep:=[2,6,7],gQ:=[bG st 3]})]
def RA(l:List (D aB))(hw:gA [.slice aB] l)(hp:(fun l=>l.length<=1000) l):(dG Tryz.B [] Tryz.f66 (Jg l) [.slice aB] [mi] (fun x y=>y=(fun l=>dB l) x) l).holds:=by
 refine holds_of (p:=
  let za:=gE l
  let zb:=fun(F:Nat)=>dB (gN F l)
  let zc:=fun(F:Nat)=>zb F++[(nth aB l F).2.1]
  za<=aL->(∃(x:Nat),x<=za/\(0=(↑x:Int)/\@ha (List Int)=dB (gN x l)/\True)/\@ha (List Int)=dB (gN x l)/\True)/\∀F:Nat,F<=za->((decide ((↑F:Int)<(↑za:Int)))=true->(0<=(↑F:Int)/\(↑F:Int)<(↑za:Int))/\(zb F=zb F/\gE (zb F)+gE [(nth aB l F).2.1]<=1000000000)/\(aJ (↑F:Int)->aJ 1->aJ ((↑F:Int)+1)/\∃(x':Nat),x'<=za/\za-x'<za-F/\((↑F:Int)+1=(↑x':Int)/\zc F=dB (gN x' l)/\True)/\zc F=dB (gN x' l)/\@ha (List Int)=@ha (List Int)/\True))/\((decide ((↑F:Int)<(↑za:Int)))=false->zb F=dB l)) (by kernel_rfl) ?_
 dsimp -iota -proj -eta only;exact fun h0=>⟨(⟨0,by omega,⟨rfl,rfl,dT⟩,rfl,dT⟩),fun F q_0=>iL (fun h1=>⟨(by omega),(by exact⟨rfl,by rw[nL,hh];simp only[hc];omega⟩),fun h2 h3=>⟨(by simp only[aJ,aL]at*;omega),(⟨F+1,by omega,by omega,⟨by omega,(zI (by omega)).symm,dT⟩,(zI (by omega)).symm,(by trivial)⟩)⟩⟩) (fun h1=>(by rw[hk (by omega)]))⟩
def Tryz.RB:bW Tryz.prog Tryz.B.eT Tryz.X 66 [.slice aB] [mi] (fun l=>l.length<=1000) (fun x y=>y=(fun l=>dB l) x):=
 cC (X:=Tryz.X) (bR Tryz.bQ) Tryz.func66 (by kernel_rfl) (fun x=>Jg x) (fun x hw hp=>RA x hw hp)
def Tryz.RC:List (FuncId×(Bool×aT)):=[(66,(true,cB [.slice aB] [mi] (fun l=>l.length<=1000) (fun l=>dB l))),(65,(true,cB [mi,.slice aR] [mi,.err] (fun x=>x.1.length<=100000/\∀i,i<x.1.length->(nth ji x.1 i).length<=100000000) (fun x=>iX x)))]
def Tryz.Ug:bO Tryz.prog Tryz.B Tryz.X Tryz.RC:=
 aN (aE Tryz.RB) (aN (aE Tryz.WW) (bR Tryz.bQ))
def RD(ns:List (List UInt8))(bs:List Int)(os:List (D aB))(ps:List (D aR)):dO:=[
 (0,fun st=>{X:=Nat,inv:=fun i=>i<=os.length,cA:=fun i=>os.length-i,bK:=fun i=>[(39,sI i),(12,.s (.one (.app dH (jd ns bs (iX (dB os,ps)).1 i) (bG st 12))))],aF:=fun i=>[(bG st 12,.tok dH (jd ns bs (iX (dB os,ps)).1 i))],keep:=[0,1,8,9,10,38],gQ:=[bG st 12]})]
def WX(ns:List (List UInt8))(bs:List Int)(os:List (D aB))(ps:List (D aR))(hw:gA [.slice .str,.slice (.int .i64),.slice aB,.slice aR] (ns,bs,os,ps))(hp:(fun x=>x.2.2.1.length<=1000/\∀i,i<x.2.2.1.length->(nth aB x.2.2.1 i).2.1.length<=1000) (ns,bs,os,ps)):(dG Tryz.B Tryz.RC Tryz.f41 (RD ns bs os ps) [.slice .str,.slice (.int .i64),.slice aB,.slice aR] [.slice dH,.err] (fun x y=>y=(fun x=>jM x.1 x.2.1 x.2.2.1 x.2.2.2) x) (ns,bs,os,ps)).holds:=by
 refine holds_of (p:=
  let za:=gE os
  let zb:=za<=aL
  let zc:=(↑(gE ns):Int)
  let zd:=(↑za:Int)
  let ze:=jM ns bs os ps
  let zf:=([],aK.no 3)=ze
  let zg:=(↑(gE bs):Int)
  let zh:=dB os
  let zi:=iX (zh,ps)
  let zj:=(iX (zh,ps)).1
  let zk:=fun(F:Nat)=>(↑F:Int)
  let zl:=fun(F:Nat)=>0<=zk F
  let zm:=fun(F:Nat)=>jd ns bs zj F
  let zn:=fun(F:Nat)=>[(nth Ty.str ns F,nth (Ty.int hb) bs F,nth (Ty.slice (Ty.int hb)) zi.1 F,())]
  gE ns<=aL->zb->((zc != zd)=true->zf)/\((zc != zd)=false->gE bs<=aL->zb->((zg != zd)=true->zf)/\((zg != zd)=false->za<=1000/\(gE zh<=100000/\∀(i:Nat),i<gE zh->gE (nth ji zh i)<=100000000)/\((!aK.isNil zi.2)=true->([],zi.2)=ze)/\((!aK.isNil zi.2)=false->zb->(∃(x:Nat),x<=za/\(0=(↑x:Int)/\@ha (List UInt8×Int×List Int×Unit)=jd ns bs zj x/\True)/\@ha (List UInt8×Int×List Int×Unit)=jd ns bs zj x/\True)/\∀F:Nat,F<=za->((decide (zk F<zd))=true->(zl F/\zk F<zc)/\(zl F/\zk F<zg)/\(zl F/\zk F<(↑(gE zi.1):Int))/\(zm F=zm F/\gE (zm F)+gE (zn F)<=1000000000)/\(aJ (zk F)->aJ 1->aJ (zk F+1)/\∃(x':Nat),x'<=za/\za-x'<za-F/\(zk F+1=(↑x':Int)/\zm F++zn F=jd ns bs zj x'/\True)/\zm F++zn F=jd ns bs zj x'/\@ha (List UInt8×Int×List Int×Unit)=@ha (List UInt8×Int×List Int×Unit)/\True))/\((decide (zk F<zd))=false->(zm F,aK.nil)=ze))))) (by kernel_rfl) ?_
 dsimp -iota -proj -eta only;dsimp only at hp;refine fun h0 h1=>iN (fun h2=>((Ck (.inl (by omega))).symm)) (fun h2 h3 h4=>iN (fun h5=>((Ck (.inr (by omega))).symm)) (fun h5=>⟨?a,(Vh hp),iB (fun h6=>((SZ (by omega) (by omega) h6).symm)) (fun h6 h7=>⟨(⟨0,by omega,⟨rfl,rfl,dT⟩,rfl,dT⟩),fun F q_0=>iL (fun h8=>⟨?b,?c,(by rw[SG ‹_›,nL];omega),(by exact⟨rfl,by rw[M3];simp only[hc];omega⟩),fun h9 h10=>⟨(by simp only[aJ,aL]at*;omega),(⟨F+1,by omega,by omega,⟨by omega,(zK _ _ _ _).symm,dT⟩,(zK _ _ _ _).symm,(by trivial)⟩)⟩⟩) (fun h8=>(by rw[Dp (by omega) (by omega) ‹_›,show F=os.length by omega]))⟩)⟩))
 case a|b|c=>omega
def Tryz.RE:bW Tryz.prog Tryz.B.eT Tryz.X 41 [.slice .str,.slice (.int .i64),.slice aB,.slice aR] [.slice dH,.err] (fun x=>x.2.2.1.length<=1000/\∀i,i<x.2.2.1.length->(nth aB x.2.2.1 i).2.1.length<=1000) (fun x y=>y=(fun x=>jM x.1 x.2.1 x.2.2.1 x.2.2.2) x):=
 cC (X:=Tryz.X) Tryz.Ug Tryz.func41 (by kernel_rfl) (fun x=>RD x.1 x.2.1 x.2.2.1 x.2.2.2) (fun x hw hp=>WX x.1 x.2.1 x.2.2.1 x.2.2.2 hw hp)
def Tryz.FB:List (FuncId×(Bool×aT)):=[(12,(false,aU Tryz.aW [.obj 0,.d .str] (fun _ x=>x.2.1.1.length<=6) Tryz.DK)),(63,(true,cB [.slice aB] [.slice (.int .i64)] (fun l=>l.length<=1000) (fun l=>bZ l))),(62,(true,cB [.slice (.int .i64),.slice aY] [.slice (.int .i64),.err] (fun _=>True) (fun x=>cN x))),(64,(true,cB [.slice aB,.slice (.int .i64)] [.slice aR,.err] (fun x=>jN x.1) (fun x=>iF x)))]
def Tryz.KB:bO Tryz.prog Tryz.B Tryz.X Tryz.FB:=
 aN (Tryz.Kv) (aN (aE Tryz.Rz) (aN (aE Tryz.Ud) (aN (aE Tryz.WU) (bR Tryz.bQ))))
def Tryz.vL:List (Alt Tryz.aW [.obj 0,.d .str]):=[{bN:=Tryz.aW,res:=[.d (.slice .str),.d (.slice aB),.d (.slice (.int .i64)),.d (.slice aR),.d .err],out:=fun _ x=>x,ret:=fun a x=>((bB (aO x) a.1).1,(bB (aO x) a.1).2.1,(bB (aO x) a.1).2.2.1,(bB (aO x) a.1).2.2.2.1,aI (bB (aO x) a.1).2.2.2.2,())}]
def RG(s:List UInt8)(f:cX)(hw:gH [.obj 0,.d .str] (s,()))(hp:(fun _ x=>x.2.1.1.length<=6) (s,()) f):(cR Tryz.B Tryz.FB Tryz.f40 [] Tryz.aW [.obj 0,.d .str] Tryz.vL (s,()) f).holds:=by
 refine holds_of (p:=
  let za:=bJ (aO f) s
  let zb:=aI za.2.2
  let zc:=f=f
  let zd:=bB (aO f) s
  let ze:=(zd.1,zd.2.1,zd.2.2.1,zd.2.2.2.1,aI zd.2.2.2.2,())
  let zf:=za.2.1
  let zg:=cN (bZ zf,[])
  let zh:=iF (zf,zg.1)
  gE f.2.1.1<=6/\(True->((!aK.isNil zb)=true->True/\zc/\([],[],[],[],zb,())=ze)/\((!aK.isNil zb)=false->gE zf<=1000/\True/\((!aK.isNil zg.2)=true->True/\zc/\([],[],[],[],zg.2,())=ze)/\((!aK.isNil zg.2)=false->jN zf/\((!aK.isNil zh.2)=true->True/\zc/\([],[],[],[],zh.2,())=ze)/\((!aK.isNil zh.2)=false->True/\zc/\(za.1,zf,zg.1,zh.1,aK.nil,())=ze))))) (by kernel_rfl) ?_
 dsimp -iota -proj -eta only;exact⟨(by trivial),fun h0=>iB (fun h1=>⟨dT,rfl,by rw[xy (dX h1)]⟩) (fun h1=>⟨(Nat.le_trans (PM (jy hp) (aQ.1 ‹_›)) (by decide)),dT,iB (fun h2=>⟨dT,rfl,by rw[xz (aQ.1 ‹_›) h2,rk (Ci _)]⟩) (fun h2=>⟨(M4 (jy hp) (aQ.1 ‹_›)),iB (fun h3=>⟨dT,rfl,by rw[Cj (aQ.1 ‹_›) ‹_› h3,S5]⟩) (fun h3=>(by exact⟨dT,rfl,by rw[zJ (aQ.1 ‹_›) ‹_› ‹_›];rfl⟩))⟩)⟩)⟩
def Tryz.FC:bX Tryz.prog Tryz.B.eT Tryz.X 40 false (aU Tryz.aW [.obj 0,.d .str] (fun _ x=>x.2.1.1.length<=6) Tryz.vL):=
 bE (X:=Tryz.X) Tryz.KB Tryz.func40 (by kernel_rfl) (fun(a:CD [.obj 0,.d .str]) (x:PD Tryz.aW)=>[]) (fun(a:CD [.obj 0,.d .str]) (x:PD Tryz.aW) hw hp=>RG a.1 x hw hp)
def Tryz.spZ30:Bool×aT:=(false,aU Tryz.aW [.obj 0,.d .str] (fun _ x=>x.2.1.1.length<=6) Tryz.vL)
def Tryz.spZ31:Bool×aT:=(true,cB [.slice .str,.slice (.int .i64),.slice aB,.slice aR] [.slice dH,.err] (fun x=>x.2.2.1.length<=1000/\∀i,i<x.2.2.1.length->(nth aB x.2.2.1 i).2.1.length<=1000) (fun x=>jM x.1 x.2.1 x.2.2.1 x.2.2.2))
def Tryz.LO:List (FuncId×(Bool×aT)):=[(40,Tryz.spZ30),(41,Tryz.spZ31)]
def Tryz.RH:bO Tryz.prog Tryz.B Tryz.X Tryz.LO:=
 aN (Tryz.FC) (aN (aE Tryz.RE) (bR Tryz.bQ))
def Tryz.Bi:List (Alt Tryz.aW [.obj 0,.d .str]):=[{bN:=Tryz.aW,res:=[.d (.slice dH),.d .err],out:=fun _ x=>x,ret:=fun a x=>((jb (aO x) a.1).1,aI (jb (aO x) a.1).2,())}]
def VZ(s:List UInt8)(f:cX)(hw:gH [.obj 0,.d .str] (s,()))(hp:(fun _ x=>x.2.1.1.length<=6) (s,()) f):(cR Tryz.B Tryz.LO Tryz.f22 [] Tryz.aW [.obj 0,.d .str] Tryz.Bi (s,()) f).holds:=by
 refine holds_of (p:=
  let za:=bB (aO f) s
  let zb:=aI za.2.2.2.2
  let zc:=jb (aO f) s
  let zd:=(zc.1,aI zc.2,())
  let ze:=gE za.2.1
  let zf:=jM za.1 za.2.2.1 za.2.1 za.2.2.2.1
  gE f.2.1.1<=6/\(True->((!aK.isNil zb)=true->True/\f=f/\([],zb,())=zd)/\((!aK.isNil zb)=false->(ze<=1000/\∀(i:Nat),i<ze->gE (nth aB za.2.1 i).2.1<=1000)/\True/\f=f/\(zf.1,zf.2,())=zd))) (by kernel_rfl) ?_
 dsimp -iota -proj -eta only;exact⟨(by trivial),fun h0=>iB (fun h1=>⟨dT,rfl,by rw[S3 (dX h1)]⟩) (fun h1=>⟨(HG (jy hp) (aQ.1 ‹_›)),⟨dT,rfl,S4 (aQ.1 ‹_›)⟩⟩)⟩
def Tryz.V0:bX Tryz.prog Tryz.B.eT Tryz.X 22 false (aU Tryz.aW [.obj 0,.d .str] (fun _ x=>x.2.1.1.length<=6) Tryz.Bi):=
 bE (X:=Tryz.X) Tryz.RH Tryz.func22 (by kernel_rfl) (fun(a:CD [.obj 0,.d .str]) (x:PD Tryz.aW)=>[]) (fun(a:CD [.obj 0,.d .str]) (x:PD Tryz.aW) hw hp=>VZ a.1 x hw hp)
def Tryz.LP:List (FuncId×(Bool×aT)):=[(40,Tryz.spZ30),(13,Tryz.spZ27)]
def Tryz.RI:bO Tryz.prog Tryz.B Tryz.X Tryz.LP:=
 aN (Tryz.FC) (aN (Tryz.sj) (bR Tryz.bQ))
def Tryz.LQ(s:List UInt8)(f:cX):dO:=[
 (0,fun st=>{X:=Nat,inv:=fun i=>i<=gE (cZ (.slice .str) st 6),cA:=fun i=>gE (cZ (.slice .str) st 6)-i,bK:=fun i=>[(35,sI i)],keep:=[0,4,8,11,33,34],aF:=fun i=>[(bG st 11,.cells 53 [.d .str s,.app aG (cF (aO f) (cZ (.slice .str) st 6) (cZ (.slice (.int .i64)) st 8) i) (nB st (bG st 11) 1),.d (.slice aR) (cZ (.slice aR) st 9)]),(nB st (bG st 11) 1,.tok aG (cF (aO f) (cZ (.slice .str) st 6) (cZ (.slice (.int .i64)) st 8) i))],gQ:=[bG st 11,nB st (bG st 11) 1]})]
def Tryz.Bj:List (Alt Tryz.aW [.obj 0,.d .str]):=[{bN:=Tryz.aW,res:=[.d aC,.d .err],out:=fun _ x=>x,ret:=fun a x=>((dZ (aO x) a.1).1,aI (dZ (aO x) a.1).2,())}]
def V1(s:List UInt8)(f:cX)(hw:gH [.obj 0,.d .str] (s,()))(hp:(fun _ x=>x.2.1.1.length<=6) (s,()) f):(cR Tryz.B Tryz.LP Tryz.f30 (Tryz.LQ s f) Tryz.aW [.obj 0,.d .str] Tryz.Bj (s,()) f).holds:=by
 refine holds_of (p:=
  let za:=aO f
  let zb:=bB za s
  let zc:=aI zb.2.2.2.2
  let zd:=([],[],[],())
  let ze:=((dZ za s).1,aI (dZ za s).2,())
  let zf:=zb.1
  let zg:=gE zf
  let zh:=zb.2.2.1
  let zi:=zb.2.2.2.1
  let zj:=zi=zi/\True
  let zk:=fun(F:Nat)=>aI (aO f (nth Ty.str zf F)).2.2
  let zl:=fun(F:Nat)=>cF za zf zh F
  let zm:=fun(F:Nat)=>[(nth Ty.str zf F,(aO f (nth Ty.str zf F)).2.1,nth (Ty.int hb) zh F,())]
  let zn:=@ha (Int×Int×Int×Unit)=@ha (Int×Int×Int×Unit)
  let zo:=@ha (List UInt8×Int×Int×Unit)=@ha (List UInt8×Int×Int×Unit)
  gE f.2.1.1<=6/\(True->((!aK.isNil zc)=true->True/\f=f/\(zd,zc,())=ze)/\((!aK.isNil zc)=false->zg<=aL->(∃(x:Nat),x<=zg/\(0=(↑x:Int)/\True)/\(s=s/\@ha (List UInt8×Int×Int×Unit)=cF za zf zh x/\zj)/\@ha (List UInt8×Int×Int×Unit)=cF za zf zh x/\True)/\∀F:Nat,F<=zg->((decide ((↑F:Int)<(↑zg:Int)))=true->(0<=(↑F:Int)/\(↑F:Int)<(↑zg:Int))/\True/\(True->((!aK.isNil (zk F))=true->True/\f=f/\(zd,zk F,())=ze)/\((!aK.isNil (zk F))=false->(0<=(↑F:Int)/\(↑F:Int)<(↑(gE zh):Int))/\(zl F=zl F/\gE (zl F)+gE (zm F)<=1000000000)/\(aJ (↑F:Int)->aJ 1->aJ ((↑F:Int)+1)/\∃(x':Nat),x'<=zg/\zg-x'<zg-F/\((↑F:Int)+1=(↑x':Int)/\True)/\(s=s/\zl F++zm F=cF za zf zh x'/\zj)/\zl F++zm F=cF za zf zh x'/\zn/\zo/\(C.eQ 1=C.eQ 1/\f.1.1=f.1.1/\True)/\f.2.1=f.2.1/\(@ha UInt8=@ha UInt8/\zo/\zn/\True)/\zn/\zo/\True))))/\((decide ((↑F:Int)<(↑zg:Int)))=false->True/\f=f/\((s,zl F,zi,()),aK.nil,())=ze)))) (by kernel_rfl) ?_
 dsimp -iota -proj -eta only;exact⟨(by trivial),fun h0=>iB (fun h1=>(by exact⟨dT,rfl,by rw[HJ (dX h1)];rfl⟩)) (fun h1 h2=>⟨(⟨0,hn _,⟨rfl,dT⟩,⟨rfl,rfl,rfl,dT⟩,rfl,(by trivial)⟩),fun F q_0=>iL (fun h3=>⟨(by omega),dT,fun h4=>iB (fun h5=>(absurd (PX (jy hp) (aQ.1 h1) (by omega)) (dX h5))) (fun h5=>⟨(by have:=(ER (jy hp) (aQ.1 h1)).1;omega),(by exact⟨rfl,by rw[ia];have:=(ER (jy hp) (aQ.1 h1)).2;simp only[hc];omega⟩),fun h6 h7=>⟨(by simp only[aJ,aL]at*;omega),(⟨F+1,by omega,by omega,⟨by omega,dT⟩,⟨rfl,(xB _ _ _ _).symm,rfl,dT⟩,(xB _ _ _ _).symm,(by trivial)⟩)⟩⟩)⟩) (fun h3=>(by exact⟨dT,rfl,by rw[Lf (aQ.1 h1),show F=gE (bB (aO f) s).1 by omega];rfl⟩))⟩)⟩
def Tryz.V2:bX Tryz.prog Tryz.B.eT Tryz.X 30 false (aU Tryz.aW [.obj 0,.d .str] (fun _ x=>x.2.1.1.length<=6) Tryz.Bj):=
 bE (X:=Tryz.X) Tryz.RI Tryz.func30 (by kernel_rfl) (fun(a:CD [.obj 0,.d .str]) (x:PD Tryz.aW)=>Tryz.LQ a.1 x) (fun(a:CD [.obj 0,.d .str]) (x:PD Tryz.aW) hw hp=>V1 a.1 x hw hp)
def Tryz.Jh:List (FuncId×(Bool×aT)):=[(13,Tryz.spZ27)]
def Tryz.Oh:bO Tryz.prog Tryz.B Tryz.X Tryz.Jh:=
 aN (Tryz.sj) (bR Tryz.bQ)
def Tryz.Ji(e:D aC)(f:cX):dO:=[
 (0,fun st=>{X:=Nat,inv:=fun i=>i<=gE e.2.1/\∀j,j<i->je (aO f) (nth aG e.2.1 j)=true,cA:=fun i=>gE e.2.1-i,bK:=fun i=>[(13,sI i)],keep:=[1,2,11,12]})]
def Tryz.xV:List (Alt Tryz.aW [.d aC,.obj 0]):=[{bN:=Tryz.aW,res:=[.d .bool],out:=fun _ x=>x,ret:=fun a x=>(gI (aO x) a.1,())}]
def Uh(e:D aC)(f:cX)(hw:gH [.d aC,.obj 0] (e,())):(cR Tryz.B Tryz.Jh Tryz.f33 (Tryz.Ji e f) Tryz.aW [.d aC,.obj 0] Tryz.xV (e,()) f).holds:=by
 refine holds_of (p:=
  let za:=e.2.1
  let zb:=gE za
  let zc:=aO f
  let zd:=fun(F:Nat)=>(aO f (nth aG za F).1).2
  let ze:=(gI zc e,())
  let zf:=True/\f=f/\(false,())=ze
  zb<=aL->(∃(x:Nat),(x<=zb/\∀(j:Nat),j<x->je zc (nth aG za j)=true)/\(0=(↑x:Int)/\True)/\True)/\∀F:Nat,(F<=zb/\∀(j:Nat),j<F->je zc (nth aG za j)=true)->((decide ((↑F:Int)<(↑zb:Int)))=true->(0<=(↑F:Int)/\(↑F:Int)<(↑zb:Int))/\True/\(True->((!aK.isNil (aI (zd F).2))=true->zf)/\((!aK.isNil (aI (zd F).2))=false->(((zd F).1 != (nth aG za F).2.1)=true->zf)/\(((zd F).1 != (nth aG za F).2.1)=false->aJ (↑F:Int)->aJ 1->aJ ((↑F:Int)+1)/\∃(x':Nat),(x'<=zb/\∀(j:Nat),j<x'->je zc (nth aG za j)=true)/\zb-x'<zb-F/\((↑F:Int)+1=(↑x':Int)/\True)/\(e.1=e.1/\za=za/\e.2.2.1=e.2.2.1/\True)/\(C.eQ 1=C.eQ 1/\f.1.1=f.1.1/\True)/\f.2.1=f.2.1/\True))))/\((decide ((↑F:Int)<(↑zb:Int)))=false->zb<=aL->True/\f=f/\(decide ((↑zb:Int) > 0),())=ze)) (by kernel_rfl) ?_
 dsimp -iota -proj -eta only;exact fun h0=>⟨(⟨0,⟨hn _,fun j hj=>absurd hj (ho _)⟩,⟨rfl,dT⟩,dT⟩),fun F q_0=>iL (fun h1=>⟨(by omega),dT,fun h2=>iB (fun h3=>⟨dT,rfl,by rw[HK (i:=F) (by omega) (PZ h3)]⟩) (fun h3=>iN (fun h4=>⟨dT,rfl,by rw[HK (i:=F) (by omega) (Nd h4)]⟩) (fun h4 h5 h6=>⟨(by simp only[aJ,aL]at*;omega),(⟨F+1,⟨by omega,lX q_0.2 (Nf ‹_› ‹_›)⟩,by omega,⟨by omega,dT⟩,(by trivial)⟩)⟩))⟩) (fun h1 h2=>(by exact⟨dT,rfl,by rw[EM fun i hi=>q_0.2 i (by omega)];simp⟩))⟩
def Tryz.Jj:bX Tryz.prog Tryz.B.eT Tryz.X 33 false (aU Tryz.aW [.d aC,.obj 0] (fun _ _=>True) Tryz.xV):=
 bE (X:=Tryz.X) Tryz.Oh Tryz.func33 (by kernel_rfl) (fun(a:CD [.d aC,.obj 0]) (x:PD Tryz.aW)=>Tryz.Ji a.1 x) (fun(a:CD [.d aC,.obj 0]) (x:PD Tryz.aW) hw hp=>Uh a.1 x hw)
def Tryz.spZ32:Bool×aT:=(false,aU Tryz.aW [.d aC,.obj 0] (fun _ _=>True) Tryz.xV)
def Tryz.RJ:List (FuncId×(Bool×aT)):=[(33,Tryz.spZ32),(13,Tryz.spZ27),(35,Tryz.spZ28),(41,Tryz.spZ31)]
def Tryz.Ui:bO Tryz.prog Tryz.B Tryz.X Tryz.RJ:=
 aN (Tryz.Jj) (aN (Tryz.sj) (aN (aE Tryz.Fw) (aN (aE Tryz.RE) (bR Tryz.bQ))))
def Tryz.RL(e:D aC)(f:cX):dO:=[
 (0,fun st=>{X:=Nat,inv:=fun i=>i<=gE e.2.1/\∀j,j<i->(cU (aO f (nth aG e.2.1 j).1).1).2=0,cA:=fun i=>gE e.2.1-i,bK:=fun i=>[(23,sI i),(6,.s (.one (.app .str (fR (gN i e.2.1)) (bG st 6)))),(7,.s (.one (.app (.int .i64) (fS (gN i e.2.1)) (bG st 7)))),(8,.s (.one (.app aB (fN (aO f) (gN i e.2.1)) (bG st 8))))],aF:=fun i=>[(bG st 6,.tok .str (fR (gN i e.2.1))),(bG st 7,.tok (.int .i64) (fS (gN i e.2.1))),(bG st 8,.tok aB (fN (aO f) (gN i e.2.1)))],keep:=[1,2,21,22],gQ:=[bG st 6,bG st 7,bG st 8]}),
 (300015,fun st=>{X:=Nat,inv:=fun i=>i=(cZ (.int .i64) st 23).toNat+1,cA:=fun _=>0,bK:=fun i=>[(6,.s (.one (.app .str (fR (gN i e.2.1)) (bG st 6)))),(7,.s (.one (.app (.int .i64) (fS (gN i e.2.1)) (bG st 7)))),(8,.s (.one (.app aB (fN (aO f) (gN i e.2.1)) (bG st 8))))],aF:=fun i=>[(bG st 6,.tok .str (fR (gN i e.2.1))),(bG st 7,.tok (.int .i64) (fS (gN i e.2.1))),(bG st 8,.tok aB (fN (aO f) (gN i e.2.1)))],keep:=[1,2,4,5,10,11,13,14,21,22,23,24,25,26,27,28,29,30,31,32,33,34,35,36,37,38,39,40,41,42,43,44,45],gQ:=[bG st 6,bG st 7,bG st 8]})]
def Tryz.DM:List (Alt Tryz.aW [.d aC,.obj 0]):=[{bN:=Tryz.aW,res:=[.d (.slice dH),.d .err],out:=fun _ x=>x,ret:=fun a x=>((ky (aO x) a.1).1,aI (ky (aO x) a.1).2,())}]
def WY(e:D aC)(f:cX)(hw:gH [.d aC,.obj 0] (e,()))(hp:(fun a x=>a.1.2.1.length<=1000/\x.2.1.1.length<=6) (e,()) f):(cR Tryz.B Tryz.RJ Tryz.f34 (Tryz.RL e f) Tryz.aW [.d aC,.obj 0] Tryz.DM (e,()) f).holds:=by
 refine holds_of (p:=
  let za:=aO f
  let zb:=f=f
  let zc:=((ky za e).1,aI (ky za e).2,())
  let zd:=e.2.1
  let ze:=gE zd
  let zf:=fun(F:Nat)=>(nth aG zd F).1
  let zg:=fun(F:Nat)=>aI (aO f (zf F)).2.2
  let zh:=fun(F:Nat)=>aI (cU (aO f (zf F)).1).2
  let zi:=fun(F:Nat)=>fR (gN F zd)
  let zj:=fun(F:Nat)=>zi F=zi F/\gE (zi F)+gE [zf F]<=1000000000
  let zk:=fun(F:Nat)=>fS (gN F zd)
  let zl:=fun(F:Nat)=>(nth aG zd F).2.2.1
  let zm:=fun(F:Nat)=>fN za (gN F zd)
  let zn:=fun(F:Nat)=>(cU (aO f (zf F)).1).1
  let zo:=C.eQ 1=C.eQ 1/\f.1.1=f.1.1/\True
  let zp:=f.2.1=f.2.1
  let zq:=e.2.2.1
  let zr:=@ha (List UInt8×Int×List Int×Unit)=@ha (List UInt8×Int×List Int×Unit)/\(e.1=e.1/\zd=zd/\zq=zq/\True)/\True
  let zs:=fun(F:Nat)=>(zk F=zk F/\gE (zk F)+gE [zl F]<=1000000000)/\(zm F=zm F/\gE (zm F)+gE [zn F]<=1000000000)/\∃(x':Nat),x'=F+1/\(zi F++[zf F]=fR (gN x' zd)/\zk F++[zl F]=fS (gN x' zd)/\zm F++[zn F]=fN za (gN x' zd)/\True)/\zi F++[zf F]=fR (gN x' zd)/\zk F++[zl F]=fS (gN x' zd)/\zm F++[zn F]=fN za (gN x' zd)/\((zn F).1=(zn F).1/\(zn F).2.1=(zn F).2.1/\(zn F).2.2.1=(zn F).2.2.1/\(zn F).2.2.2.1=(zn F).2.2.2.1/\True)/\@ha (Int×Int×Int×List UInt8×Bool×Unit)=@ha (Int×Int×Int×List UInt8×Bool×Unit)/\@ha (List UInt8×Int×Bool×Unit)=@ha (List UInt8×Int×Bool×Unit)/\@ha Int=@ha Int/\@ha (List UInt8)=@ha (List UInt8)/\zo/\zp/\(zf F=zf F/\(nth aG zd F).2.1=(nth aG zd F).2.1/\zl F=zl F/\True)/\zr
  let zt:=fun(F:Nat)=>zj F/\(fun a0:Prop=>a0/\a0/\a0) (zs F)/\(fun a0:Prop=>a0/\a0) (zs F)/\zs F
  let zu:=fun(F:Nat)=>zj F/\zs F
  let zv:=fun(F:Nat)=>(zj F/\(fun a0:Prop=>a0/\a0/\a0) (zs F))/\(zj F/\(fun a0:Prop=>a0/\a0) (zs F))/\zu F
  let zw:=fun(F:Nat)=>zj F/\(fun a0:Prop=>a0/\a0) (zs F)/\zs F
  let zx:=fun(F:Nat)=>(zj F/\(fun a0:Prop=>a0/\a0) (zs F))/\zu F
  let zy:=fun(F:Nat)=>(fun a0 a1 a2 a3 a4:Prop=>a0/\a1/\a2/\a3/\a4/\a4) (zt F) (zv F) (zw F) (zx F) (zu F)
  let zz:=fun(F:Nat)=>(fun a0 a1 a2:Prop=>a0/\a1/\a2/\a2) (zw F) (zx F) (zu F)
  let zaa:=fun(F:Nat)=>jM (zi F) (zk F) (zm F) zq
  True/\(True->((!gI za e)=true->True/\zb/\([],aK.no 10,())=zc)/\((!gI za e)=false->ze<=aL->(∃(x:Nat),(x<=ze/\∀(j:Nat),j<x->(cU (aO f (nth aG zd j).1).1).2=0)/\(0=(↑x:Int)/\@ha (List UInt8)=fR (gN x zd)/\@ha Int=fS (gN x zd)/\@ha (List (List UInt8)×List Int×List (List UInt8×Int×Bool×Unit)×List (Int×Int×Int×List UInt8×Bool×Unit)×Unit)=fN za (gN x zd)/\True)/\@ha (List UInt8)=fR (gN x zd)/\@ha Int=fS (gN x zd)/\@ha (List (List UInt8)×List Int×List (List UInt8×Int×Bool×Unit)×List (Int×Int×Int×List UInt8×Bool×Unit)×Unit)=fN za (gN x zd)/\True)/\∀F:Nat,(F<=ze/\∀(j:Nat),j<F->(cU (aO f (nth aG zd j).1).1).2=0)->((decide ((↑F:Int)<(↑ze:Int)))=true->(0<=(↑F:Int)/\(↑F:Int)<(↑ze:Int))/\True/\(True->((!aK.isNil (zg F))=true->True/\zb/\([],zg F,())=zc)/\((!aK.isNil (zg F))=false->True/\((!aK.isNil (zh F))=true->True/\zb/\([],zh F,())=zc)/\((!aK.isNil (zh F))=false->((fun a0 a1 a2 a3 a4:Prop=>a0/\a1/\a2/\a3/\a4/\a4/\a4) (zt F) (zy F) (zw F) (zz F) (zu F)/\(zy F/\(zv F/\zx F/\zu F)/\zz F/\(zx F/\zu F)/\(fun a0:Prop=>a0/\a0) (zu F)/\zu F)/\(fun a0 a1 a2:Prop=>a0/\a1/\a2/\a2/\a2) (zw F) (zz F) (zu F)/\(zz F/\(zx F/\zu F)/\(fun a0:Prop=>a0/\a0) (zu F)/\zu F)/\(fun a0:Prop=>a0/\a0/\a0) (zu F)/\(fun a0:Prop=>a0/\a0) (zu F)/\zu F)/\∀I:Nat,I=F+1->aJ (↑F:Int)->aJ 1->aJ ((↑F:Int)+1)/\∃(x':Nat),(x'<=ze/\∀(j:Nat),j<x'->(cU (aO f (nth aG zd j).1).1).2=0)/\ze-x'<ze-F/\((↑F:Int)+1=(↑x':Int)/\zi I=fR (gN x' zd)/\zk I=fS (gN x' zd)/\zm I=fN za (gN x' zd)/\True)/\zi I=fR (gN x' zd)/\zk I=fS (gN x' zd)/\zm I=fN za (gN x' zd)/\zo/\zp/\zr))))/\((decide ((↑F:Int)<(↑ze:Int)))=false->(gE (zm F)<=1000/\∀(i:Nat),i<gE (zm F)->gE (nth aB (zm F) i).2.1<=1000)/\True/\zb/\((zaa F).1,(zaa F).2,())=zc)))) (by kernel_rfl) ?_
 dsimp -iota -proj -eta only;dsimp only at hp;refine⟨dT,fun h0=>iB (fun h1=>(by exact⟨dT,rfl,by rw[PS h1];rfl⟩)) (fun h1 h2=>⟨(⟨0,⟨hn _,fun j hj=>absurd hj (ho _)⟩,⟨rfl,rfl,rfl,rfl,dT⟩,(by trivial)⟩),fun F q_0=>iL (fun h3=>⟨(by omega),dT,fun h4=>iB (fun h5=>(absurd ((PR h1).2 F (by omega)).1 (dX h5))) (fun h5=>⟨dT,iB (fun h6=>⟨dT,rfl,by rw[Vi h1 (HM q_0.2 (by omega) (dX h6)) (dX h6)]⟩) (fun h6=>⟨⟨(show ∀{a0 a1 a2 a3 a4:Prop},a0->a1->a2->a3->a4->a0/\a1/\a2/\a3/\a4/\a4/\a4 from fun g0 g1 g2 g3 g4=>⟨g0,g1,g2,g3,g4,g4,g4⟩) (⟨?a,⟨(show ∀{a0:Prop},a0->a0/\a0/\a0 from fun g0=>⟨g0,g0,g0⟩) (⟨?b,?c,?d⟩),(show ∀{a0:Prop},a0->a0/\a0 from fun g0=>⟨g0,g0⟩) (⟨?e,?f,?g⟩),⟨?h,?i,?j⟩⟩⟩) ((show ∀{a0 a1 a2 a3 a4:Prop},a0->a1->a2->a3->a4->a0/\a1/\a2/\a3/\a4/\a4 from fun g0 g1 g2 g3 g4=>⟨g0,g1,g2,g3,g4,g4⟩) (⟨?k,⟨(show ∀{a0:Prop},a0->a0/\a0/\a0 from fun g0=>⟨g0,g0,g0⟩) (⟨?l,?m,?n⟩),(show ∀{a0:Prop},a0->a0/\a0 from fun g0=>⟨g0,g0⟩) (⟨?o,?p,?q⟩),⟨?r,?s,?t⟩⟩⟩) (⟨⟨?u,(show ∀{a0:Prop},a0->a0/\a0/\a0 from fun g0=>⟨g0,g0,g0⟩) (⟨?v,?w,?x⟩)⟩,⟨?y,(show ∀{a0:Prop},a0->a0/\a0 from fun g0=>⟨g0,g0⟩) (⟨?z,?a0,?a1⟩)⟩,⟨?a2,?a3,?a4,?a5⟩⟩) (⟨?a6,⟨(show ∀{a0:Prop},a0->a0/\a0 from fun g0=>⟨g0,g0⟩) (⟨?a7,?a8,?a9⟩),⟨?aa,?ab,?ac⟩⟩⟩) (⟨⟨?ad,(show ∀{a0:Prop},a0->a0/\a0 from fun g0=>⟨g0,g0⟩) (⟨?ae,?af,?ag⟩)⟩,⟨?ah,?ai,?aj,?ak⟩⟩) (⟨?al,?am,?an,?ao⟩)) (⟨?ap,⟨(show ∀{a0:Prop},a0->a0/\a0 from fun g0=>⟨g0,g0⟩) (⟨?aq,?ar,?au⟩),⟨?av,?aw,?ax⟩⟩⟩) ((show ∀{a0 a1 a2:Prop},a0->a1->a2->a0/\a1/\a2/\a2 from fun g0 g1 g2=>⟨g0,g1,g2,g2⟩) (⟨?ay,⟨(show ∀{a0:Prop},a0->a0/\a0 from fun g0=>⟨g0,g0⟩) (⟨?az,?b0,?b1⟩),⟨?b2,?b3,?b4⟩⟩⟩) (⟨⟨?b5,(show ∀{a0:Prop},a0->a0/\a0 from fun g0=>⟨g0,g0⟩) (⟨?b6,?b7,?b8⟩)⟩,⟨?b9,?ba,?bb,?bc⟩⟩) (⟨?bd,?be,?bf,?bg⟩)) (⟨?bh,?bi,?bj,?bk⟩),⟨(show ∀{a0 a1 a2 a3 a4:Prop},a0->a1->a2->a3->a4->a0/\a1/\a2/\a3/\a4/\a4 from fun g0 g1 g2 g3 g4=>⟨g0,g1,g2,g3,g4,g4⟩) (⟨?bl,⟨(show ∀{a0:Prop},a0->a0/\a0/\a0 from fun g0=>⟨g0,g0,g0⟩) (⟨?bm,?bn,?bo⟩),(show ∀{a0:Prop},a0->a0/\a0 from fun g0=>⟨g0,g0⟩) (⟨?bp,?bq,?br⟩),⟨?bs,?bt,?bu⟩⟩⟩) (⟨⟨?bv,(show ∀{a0:Prop},a0->a0/\a0/\a0 from fun g0=>⟨g0,g0,g0⟩) (⟨?bw,?bx,?bz⟩)⟩,⟨?c0,(show ∀{a0:Prop},a0->a0/\a0 from fun g0=>⟨g0,g0⟩) (⟨?c1,?c2,?c3⟩)⟩,⟨?c4,?c5,?c6,?c7⟩⟩) (⟨?c8,⟨(show ∀{a0:Prop},a0->a0/\a0 from fun g0=>⟨g0,g0⟩) (⟨?c9,?ca,?cb⟩),⟨?cc,?cd,?ce⟩⟩⟩) (⟨⟨?cf,(show ∀{a0:Prop},a0->a0/\a0 from fun g0=>⟨g0,g0⟩) (⟨?cg,?ch,?ci⟩)⟩,⟨?cj,?ck,?cl,?cm⟩⟩) (⟨?cn,?co,?cp,?cq⟩),⟨⟨⟨?cr,(show ∀{a0:Prop},a0->a0/\a0/\a0 from fun g0=>⟨g0,g0,g0⟩) (⟨?cs,?ct,?cu⟩)⟩,⟨?cv,(show ∀{a0:Prop},a0->a0/\a0 from fun g0=>⟨g0,g0⟩) (⟨?cw,?cx,?cy⟩)⟩,⟨?cz,?d0,?d1,?d2⟩⟩,⟨⟨?d3,(show ∀{a0:Prop},a0->a0/\a0 from fun g0=>⟨g0,g0⟩) (⟨?d4,?d5,?d6⟩)⟩,⟨?d7,?d8,?d9,?da⟩⟩,⟨?db,?dc,?dd,?de⟩⟩,(show ∀{a0 a1 a2:Prop},a0->a1->a2->a0/\a1/\a2/\a2 from fun g0 g1 g2=>⟨g0,g1,g2,g2⟩) (⟨?df,⟨(show ∀{a0:Prop},a0->a0/\a0 from fun g0=>⟨g0,g0⟩) (⟨?dg,?dh,?di⟩),⟨?dj,?dk,?dl⟩⟩⟩) (⟨⟨?dm,(show ∀{a0:Prop},a0->a0/\a0 from fun g0=>⟨g0,g0⟩) (⟨?dn,?dp,?dq⟩)⟩,⟨?dr,?ds,?dt,?du⟩⟩) (⟨?dv,?dw,?dx,?dy⟩),⟨⟨⟨?dz,(show ∀{a0:Prop},a0->a0/\a0 from fun g0=>⟨g0,g0⟩) (⟨?e0,?e1,?e2⟩)⟩,⟨?e3,?e4,?e5,?e6⟩⟩,⟨?e7,?e8,?e9,?ea⟩⟩,(show ∀{a0:Prop},a0->a0/\a0 from fun g0=>⟨g0,g0⟩) (⟨?eb,?ec,?ed,?ee⟩),⟨?ef,?eg,?eh,?ei⟩⟩,(show ∀{a0 a1 a2:Prop},a0->a1->a2->a0/\a1/\a2/\a2/\a2 from fun g0 g1 g2=>⟨g0,g1,g2,g2,g2⟩) (⟨?ej,⟨(show ∀{a0:Prop},a0->a0/\a0 from fun g0=>⟨g0,g0⟩) (⟨?ek,?el,?em⟩),⟨?en,?eo,?ep⟩⟩⟩) ((show ∀{a0 a1 a2:Prop},a0->a1->a2->a0/\a1/\a2/\a2 from fun g0 g1 g2=>⟨g0,g1,g2,g2⟩) (⟨?eq,⟨(show ∀{a0:Prop},a0->a0/\a0 from fun g0=>⟨g0,g0⟩) (⟨?er,?es,?et⟩),⟨?eu,?ev,?ew⟩⟩⟩) (⟨⟨?ex,(show ∀{a0:Prop},a0->a0/\a0 from fun g0=>⟨g0,g0⟩) (⟨?ey,?ez,?f0⟩)⟩,⟨?f1,?f2,?f3,?f4⟩⟩) (⟨?f5,?f6,?f7,?f8⟩)) (⟨?f9,?fa,?fb,?fc⟩),⟨(show ∀{a0 a1 a2:Prop},a0->a1->a2->a0/\a1/\a2/\a2 from fun g0 g1 g2=>⟨g0,g1,g2,g2⟩) (⟨?fd,⟨(show ∀{a0:Prop},a0->a0/\a0 from fun g0=>⟨g0,g0⟩) (⟨?fe,?ff,?fg⟩),⟨?fh,?fi,?fj⟩⟩⟩) (⟨⟨?fk,(show ∀{a0:Prop},a0->a0/\a0 from fun g0=>⟨g0,g0⟩) (⟨?fl,?fm,?fn⟩)⟩,⟨?fo,?fp,?fq,?fr⟩⟩) (⟨?fs,?ft,?fu,?fv⟩),⟨⟨⟨?fw,(show ∀{a0:Prop},a0->a0/\a0 from fun g0=>⟨g0,g0⟩) (⟨?fx,?fy,?fz⟩)⟩,⟨?g0,?g1,?g2,?g3⟩⟩,⟨?g4,?g5,?g6,?g7⟩⟩,(show ∀{a0:Prop},a0->a0/\a0 from fun g0=>⟨g0,g0⟩) (⟨?g8,?g9,?ga,?gb⟩),⟨?gc,?gd,?ge,?gf⟩⟩,(show ∀{a0:Prop},a0->a0/\a0/\a0 from fun g0=>⟨g0,g0,g0⟩) (⟨?gg,?gh,?gi,?gj⟩),(show ∀{a0:Prop},a0->a0/\a0 from fun g0=>⟨g0,g0⟩) (⟨?gk,?gl,?gm,?gn⟩),⟨?go,?gp,?gq,?gr⟩⟩,fun I q_1 h7 h8=>⟨(by simp only[aJ,aL]at*;omega),?gs⟩⟩)⟩)⟩) (fun h3=>⟨(by rw[HH (by omega)];exact PY hp.1 fun j hj=>q_0.2 j (by omega)),(by rw[HH (by omega)];exact⟨dT,rfl,Ta h1 (vp fun j hj=>q_0.2 j (by omega))⟩)⟩)⟩)⟩
 case a|b|c|e|f|h|i|k|l|m|o|p|r|s|u|v|w|y|z|a0|a2|a3|a4|a6|a7|a8|aa|ab|ad|ae|af|ah|ai|aj|al|am|an|ap|aq|ar|av|aw|ay|az|b0|b2|b3|b5|b6|b7|b9|ba|bb|bd|be|bf|bh|bi|bj|bl|bm|bn|bp|bq|bs|bt|bv|bw|bx|c0|c1|c2|c4|c5|c6|c8|c9|ca|cc|cd|cf|cg|ch|cj|ck|cl|cn|co|cp|cr|cs|ct|cv|cw|cx|cz|d0|d1|d3|d4|d5|d7|d8|d9|db|dc|dd|df|dg|dh|dj|dk|dm|dn|dp|dr|ds|dt|dv|dw|dx|dz|e0|e1|e3|e4|e5|e7|e8|e9|eb|ec|ed|ef|eg|eh|ej|ek|el|en|eo|eq|er|es|eu|ev|ex|ey|ez|f1|f2|f3|f5|f6|f7|f9|fa|fb|fd|fe|ff|fh|fi|fk|fl|fm|fo|fp|fq|fs|ft|fu|fw|fx|fy|g0|g1|g2|g4|g5|g6|g8|g9|ga|gc|gd|ge|gg|gh|gi|gk|gl|gm|go|gp|gq=>exact⟨rfl,by simp only[fR,fS,fN,List.length_map,hh,hc];have:=hp.1;omega⟩
 case d|g|j|n|q|t|x|a1|a5|a9|ac|ag|ak|ao|au|ax|b1|b4|b8|bc|bg|bk|bo|br|bu|bz|c3|c7|cb|ce|ci|cm|cq|cu|cy|d2|d6|da|de|di|dl|dq|du|dy|e2|e6|ea|ee|ei|em|ep|et|ew|f0|f4|f8|fc|fg|fj|fn|fr|fv|fz|g3|g7|gb|gf|gj|gn|gr=>exact⟨F+1,rfl,⟨zN (by omega),zO (by omega),Cn (by omega),dT⟩,zN (by omega),zO (by omega),Cn (by omega),(by trivial)⟩
 case gs=>
  subst q_1;exact⟨F+1,⟨by omega,lX q_0.2 (aQ.1 ‹_›)⟩,by omega,⟨by omega,rfl,rfl,rfl,dT⟩,rfl,rfl,rfl,(by trivial)⟩
def Tryz.WZ:bX Tryz.prog Tryz.B.eT Tryz.X 34 false (aU Tryz.aW [.d aC,.obj 0] (fun a x=>a.1.2.1.length<=1000/\x.2.1.1.length<=6) Tryz.DM):=
 bE (X:=Tryz.X) Tryz.Ui Tryz.func34 (by kernel_rfl) (fun(a:CD [.d aC,.obj 0]) (x:PD Tryz.aW)=>Tryz.RL a.1 x) (fun(a:CD [.d aC,.obj 0]) (x:PD Tryz.aW) hw hp=>WY a.1 x hw hp)
@[reducible] def Tryz.cH:List Ob:=[.box 75 [.obj 1,.obj 3],.box 93 [.obj 2,.d (.int .i64)],.ext 1 (iU cK),.box 117 [.obj 4,.d (.int .i64),.d (.slice aC)],.box 98 [.obj 5,.obj 6,.obj 7,.d (.int .i64),.d .bool],.row true .str,.row true .str,.tok gR]
@[reducible] def Tryz.s6:List Ob:=[.box 93 [.obj 1,.d (.int .i64)],.ext 1 (iU cK),.box 98 [.obj 3,.obj 4,.obj 5,.d (.int .i64),.d .bool],.row true .str,.row true .str,.tok gR]
def Tryz.LR:List (FuncId×(Bool×aT)):=[(39,Tryz.spZ24)]
def Tryz.RM:bO Tryz.prog Tryz.B Tryz.X Tryz.LR:=
 aN (Tryz.LF) (bR Tryz.bQ)
def Tryz.Bk:List (Alt Tryz.s6 [.obj 0,.obj 2]):=[
 {bN:=Tryz.s6,res:=[.gV,.d .err],ok:=fun _ x=>(cG x.2.2).2≠0,out:=fun _ x=>x,ret:=fun _ x=>(aI (cG x.2.2).2,())},
 {bN:=Tryz.s6++[.box 75 [.obj 0,.obj 7],.box 117 [.obj 2,.d (.int .i64),.d (.slice aC)]],res:=[.obj 6,.d .err],ok:=fun _ x=>(cG x.2.2).2=0,out:=fun _ x=>(x.1,x.2.1,x.2.2.1,x.2.2.2.1,x.2.2.2.2.1,x.2.2.2.2.2.1,(),((cG x.2.2).1.1,(cG x.2.2).1.2,()),()),ret:=fun _ _=>(aK.nil,())}]
def V3(n:Int×Unit)(m:List FE×Int×Unit)(d:Dk)(hw:gH [.obj 0,.obj 2] ())(hp:(fun _ x=>cW x.2.2 1000000/\∀i,i<x.2.2.2.2.1.length->(nth .str x.2.2.2.2.1 i).length=64) () (n,m,d)):(cR Tryz.B Tryz.LR Tryz.f21 [] Tryz.s6 [.obj 0,.obj 2] Tryz.Bk () (n,m,d)).holds:=by
 refine holds_of (p:=
  let za:=d.2.2.2.1
  let zb:=za=za
  let zc:=d.2.2.1
  let zd:=(cG d).2
  let ze:=zd≠0
  let zf:=(n,m,d)=(n,m,d)
  let zg:=(aI zd,())
  let zh:=(n,m,d.1,d.2.1,zc,za,(),((cG d).1.1,(cG d).1.2,()),())
  zb/\(cW d 1000000/\∀(i:Nat),i<gE zc->gE (nth Ty.str zc i)=64)/\(ze->((!aK.isNil (aI zd))=true->zb/\ze/\zf/\zg=zg)/\((!aK.isNil (aI zd))=false->False))/\(zd=0->((!aK.isNil aK.nil)=true->zb/\ze/\zf/\(aK.nil,())=zg)/\((!aK.isNil aK.nil)=false->zb/\zd=0/\zh=zh/\(aK.nil,())=(aK.nil,())))) (by kernel_rfl) ?_
 dsimp -iota -proj -eta only;dsimp only at hp;refine⟨rfl,?a,⟨fun h0=>iB (fun h1 =>?b) (fun h1=>(absurd (aQ.1 h1) h0)),fun h0=>⟨fun h1=>absurd (show false=true from h1) (by decide),fun h1 =>?c⟩⟩⟩
 case a|b|c=>trivial
def Tryz.DN:bX Tryz.prog Tryz.B.eT Tryz.X 21 false (aU Tryz.s6 [.obj 0,.obj 2] (fun _ x=>cW x.2.2 1000000/\∀i,i<x.2.2.2.2.1.length->(nth .str x.2.2.2.2.1 i).length=64) Tryz.Bk):=
 bE (X:=Tryz.X) Tryz.RM Tryz.func21 (by kernel_rfl) (fun(a:CD [.obj 0,.obj 2]) (x:PD Tryz.s6)=>[]) (fun(a:CD [.obj 0,.obj 2]) (x:PD Tryz.s6) hw hp=>V3 x.1 x.2.1 x.2.2 hw hp)
def Tryz.FD:List (FuncId×(Bool×aT)):=[(30,(false,aU Tryz.aW [.obj 0,.d .str] (fun _ x=>x.2.1.1.length<=6) Tryz.Bj)),(31,(false,aU Tryz.bT [.obj 0,.d aC] (fun a x=>(a.1.2.1.length<=1000000/\a.1.2.2.1.length<=1000000)/\x.1.2.1.length<=99/\0<=(x.1.1:Int)/\(x.1.1:Int)<=1000000000/\cW x.2 1000000) Tryz.DF))]
def Tryz.KC:bO Tryz.prog Tryz.B Tryz.X Tryz.FD:=
 aN (Tryz.V2) (aN (Tryz.TT) (bR Tryz.bQ))
def Tryz.vM:List (Alt Tryz.cH [.obj 0,.d .str]):=[{bN:=Tryz.cH,res:=[.d .err],out:=fun a x=>((),x.2.1,x.2.2.1,(jO (x.2.1,x.2.2.1,()) x.2.2.2 a.1).1),ret:=fun a x=>(aI (jO (x.2.1,x.2.2.1,()) x.2.2.2 a.1).2,())}]
def RN(s:List UInt8)(n:Int×Unit)(m:List FE×Int×Unit)(r:Int)(o:List (D aC))(d:Dk)(hw:gH [.obj 0,.d .str] (s,()))(hp:(fun _ x=>gD (x.2.1,x.2.2.1,())/\xM x.2.2.2) (s,()) ((),n,m,(r,o,()),d)):(cR Tryz.B Tryz.FD Tryz.f10 [] Tryz.cH [.obj 0,.d .str] Tryz.vM (s,()) ((),n,m,(r,o,()),d)).holds:=by
 refine holds_of (p:=
  let za:=dZ (aO (n,m,())) s
  let zb:=d.2.2.2.1=d.2.2.2.1
  let zc:=((r,o,()),d)
  let zd:=jO (n,m,()) zc s
  let ze:=((),n,m,zd.1)
  let zf:=(aI zd.2,())
  let zg:=kr zc za.1
  let zh:=zg.1.2.2.2.2.1
  gE m.1<=6/\(True->((!aK.isNil (aI za.2))=true->zb/\True/\((),n,m,zc)=ze/\(aI za.2,())=zf)/\((!aK.isNil (aI za.2))=false->zb/\((gE za.1.2.1<=1000000/\gE za.1.2.2.1<=1000000)/\gE o<=99/\0<=r/\r<=1000000000/\cW d 1000000)/\(True->zh=zh/\True/\((),n,m,zg.1)=ze/\(aI zg.2,())=zf)))) (by kernel_rfl) ?_
 dsimp -iota -proj -eta only;dsimp only at hp;exact⟨hp.1.st.pre.1,fun h0=>iB (fun h1=>(by rw[QL (dX h1)];exact⟨rfl,dT,rfl,rfl⟩)) (fun h1=>⟨rfl,⟨NN hp.1 (aQ.1 h1),hp.2⟩,fun h2=>(by rw[NM (aQ.1 h1)];exact⟨rfl,dT,rfl,rfl⟩)⟩)⟩
def Tryz.RO:bX Tryz.prog Tryz.B.eT Tryz.X 10 false (aU Tryz.cH [.obj 0,.d .str] (fun _ x=>gD (x.2.1,x.2.2.1,())/\xM x.2.2.2) Tryz.vM):=
 bE (X:=Tryz.X) Tryz.KC Tryz.func10 (by kernel_rfl) (fun(a:CD [.obj 0,.d .str]) (x:PD Tryz.cH)=>[]) (fun(a:CD [.obj 0,.d .str]) (x:PD Tryz.cH) hw hp=>RN a.1 x.2.1 x.2.2.1 x.2.2.2.1.1 x.2.2.2.1.2.1 x.2.2.2.2 hw hp)
def Tryz.Jk:List (FuncId×(Bool×aT)):=[(38,(false,aU Tryz.bT [.obj 0,.d .str] (fun _ x=>x.1.2.1.length<=100/\0<=(x.1.1:Int)/\(x.1.1:Int)<=1000000000/\cW x.2 1000000) Tryz.Bg))]
def Tryz.Oi:bO Tryz.prog Tryz.B Tryz.X Tryz.Jk:=
 aN (Tryz.VV) (bR Tryz.bQ)
def Tryz.xW:List (Alt Tryz.cH [.obj 0,.d .str]):=[{bN:=Tryz.cH,res:=[.d .err],out:=fun a x=>((),x.2.1,x.2.2.1,(gJ x.2.2.2 a.1).1),ret:=fun a x=>(aI (gJ x.2.2.2 a.1).2,())}]
def Uj(s:List UInt8)(n:Int×Unit)(m:List FE×Int×Unit)(r:Int)(o:List (D aC))(d:Dk)(hw:gH [.obj 0,.d .str] (s,()))(hp:(fun _ x=>xM x.2.2.2) (s,()) ((),n,m,(r,o,()),d)):(cR Tryz.B Tryz.Jk Tryz.f16 [] Tryz.cH [.obj 0,.d .str] Tryz.xW (s,()) ((),n,m,(r,o,()),d)).holds:=by
 refine holds_of (p:=
  let za:=gJ ((r,o,()),d) s
  let zb:=za.1.2.2.2.2.1
  let zc:=((),n,m,za.1)
  let zd:=(aI za.2,())
  d.2.2.2.1=d.2.2.2.1/\(gE o<=100/\0<=r/\r<=1000000000/\cW d 1000000)/\(True->zb=zb/\True/\zc=zc/\zd=zd)) (by kernel_rfl) ?_
 dsimp -iota -proj -eta only;dsimp only at hp;exact⟨rfl,⟨Nat.le_trans hp.1 (by decide),hp.2⟩,fun h0=>(by trivial)⟩
def Tryz.Uk:bX Tryz.prog Tryz.B.eT Tryz.X 16 false (aU Tryz.cH [.obj 0,.d .str] (fun _ x=>xM x.2.2.2) Tryz.xW):=
 bE (X:=Tryz.X) Tryz.Oi Tryz.func16 (by kernel_rfl) (fun(a:CD [.obj 0,.d .str]) (x:PD Tryz.cH)=>[]) (fun(a:CD [.obj 0,.d .str]) (x:PD Tryz.cH) hw hp=>Uj a.1 x.2.1 x.2.2.1 x.2.2.2.1.1 x.2.2.2.1.2.1 x.2.2.2.2 hw hp)
def Tryz.Jl:List (FuncId×(Bool×aT)):=[(32,(false,aU Tryz.bT [.obj 0,.d .str] (fun _ x=>∀i,i<x.1.2.1.length->(nth aC x.1.2.1 i).2.1.length<=1000000/\(nth aC x.1.2.1 i).2.2.1.length<=1000000) Tryz.DG)),(33,Tryz.spZ32),(34,(false,aU Tryz.aW [.d aC,.obj 0] (fun a x=>a.1.2.1.length<=1000/\x.2.1.1.length<=6) Tryz.DM)),(22,(false,aU Tryz.aW [.obj 0,.d .str] (fun _ x=>x.2.1.1.length<=6) Tryz.Bi))]
def Tryz.Oj:bO Tryz.prog Tryz.B Tryz.X Tryz.Jl:=
 aN (Tryz.WO) (aN (Tryz.Jj) (aN (Tryz.WZ) (aN (Tryz.V0) (bR Tryz.bQ))))
def Tryz.xX:List (Alt Tryz.cH [.obj 0,.d .str]):=[{bN:=Tryz.cH,res:=[.d (.slice dH),.d .bool,.d .err],out:=fun _ x=>x,ret:=fun a x=>((jI (x.2.1,x.2.2.1,()) x.2.2.2.1.2.1 a.1).1,(jI (x.2.1,x.2.2.1,()) x.2.2.2.1.2.1 a.1).2.1,aI (jI (x.2.1,x.2.2.1,()) x.2.2.2.1.2.1 a.1).2.2,())}]
def Ul(s:List UInt8)(n:Int×Unit)(m:List FE×Int×Unit)(r:Int)(o:List (D aC))(d:Dk)(hw:gH [.obj 0,.d .str] (s,()))(hp:(fun _ x=>x.2.2.1.1.length<=6/\tD x.2.2.2.1.2.1) (s,()) ((),n,m,(r,o,()),d)):(cR Tryz.B Tryz.Jl Tryz.f11 [] Tryz.cH [.obj 0,.d .str] Tryz.xX (s,()) ((),n,m,(r,o,()),d)).holds:=by
 refine holds_of (p:=
  let za:=d.2.2.2.1=d.2.2.2.1
  let zb:=aO (n,m,())
  let zc:=(gG o s).1
  let zd:=gE m.1<=6
  let ze:=((),n,m,(r,o,()),d)
  let zf:=aI (ky zb zc).2
  let zg:=jI (n,m,()) o s
  let zh:=(zg.1,zg.2.1,aI zg.2.2,())
  let zi:=zd/\(True->za/\True/\ze=ze/\((jb zb s).1,false,aI (jb zb s).2,())=zh)
  za/\(∀(i:Nat),i<gE o->gE (nth aC o i).2.1<=1000000/\gE (nth aC o i).2.2.1<=1000000)/\(True->(((gG o s).2)=true->True/\(True->((gI zb zc)=true->(gE zc.2.1<=1000/\zd)/\(True->za/\True/\ze=ze/\((ky zb zc).1,aK.isNil zf,zf,())=zh))/\((gI zb zc)=false->zi)))/\(((gG o s).2)=false->zi))) (by kernel_rfl) ?_
 dsimp -iota -proj -eta only;dsimp only at hp;refine⟨rfl,hp.2.wide,fun h0=>⟨fun h1=>⟨dT,fun h2=>⟨fun h3=>⟨⟨QM hp.2 h1,hp.1⟩,fun h4=>(by rw[QN h1 h3,Vu];exact⟨rfl,dT,rfl,rfl⟩)⟩,fun h3=>⟨?a,fun h4=>(by rw[xN fun z=>hf (z.2.symm.trans h3)];exact⟨rfl,dT,rfl,rfl⟩)⟩⟩⟩,fun h1=>⟨?b,fun h2=>(by rw[xN fun z=>hf (z.1.symm.trans h1)];exact⟨rfl,dT,rfl,rfl⟩)⟩⟩⟩
 case a|b=>omega
def Tryz.Jm:bX Tryz.prog Tryz.B.eT Tryz.X 11 false (aU Tryz.cH [.obj 0,.d .str] (fun _ x=>x.2.2.1.1.length<=6/\tD x.2.2.2.1.2.1) Tryz.xX):=
 bE (X:=Tryz.X) Tryz.Oj Tryz.func11 (by kernel_rfl) (fun(a:CD [.obj 0,.d .str]) (x:PD Tryz.cH)=>[]) (fun(a:CD [.obj 0,.d .str]) (x:PD Tryz.cH) hw hp=>Ul a.1 x.2.1 x.2.2.1 x.2.2.2.1.1 x.2.2.2.1.2.1 x.2.2.2.2 hw hp)
def Tryz.FF:List (FuncId×(Bool×aT)):=[(37,(false,aU Tryz.bT [.obj 0] (fun _ x=>x.1.2.1.length<=1000000) Tryz.xS))]
def Tryz.KD:bO Tryz.prog Tryz.B Tryz.X Tryz.FF:=
 aN (Tryz.TW) (bR Tryz.bQ)
def Tryz.vN:List (Alt Tryz.cH [.obj 0]):=[{bN:=Tryz.cH,res:=[.d (.slice .str)],out:=fun _ x=>x,ret:=fun _ x=>(jf x.2.2.2.1.2.1,())}]
def RP(n:Int×Unit)(m:List FE×Int×Unit)(r:Int)(o:List (D aC))(d:Dk)(hw:gH [.obj 0] ())(hp:(fun _ x=>x.2.2.2.1.2.1.length<=1000000) () ((),n,m,(r,o,()),d)):(cR Tryz.B Tryz.FF Tryz.f15 [] Tryz.cH [.obj 0] Tryz.vN () ((),n,m,(r,o,()),d)).holds:=by
 refine holds_of (p:=
  let za:=d.2.2.2.1=d.2.2.2.1
  let zb:=((),n,m,(r,o,()),d)
  let zc:=(jf o,())
  za/\gE o<=1000000/\(True->za/\True/\zb=zb/\zc=zc)) (by kernel_rfl) ?_
 dsimp -iota -proj -eta only;dsimp only at hp;refine⟨rfl,?a,fun h0 =>?b⟩
 case a|b=>trivial
def Tryz.RQ:bX Tryz.prog Tryz.B.eT Tryz.X 15 false (aU Tryz.cH [.obj 0] (fun _ x=>x.2.2.2.1.2.1.length<=1000000) Tryz.vN):=
 bE (X:=Tryz.X) Tryz.KD Tryz.func15 (by kernel_rfl) (fun(a:CD [.obj 0]) (x:PD Tryz.cH)=>[]) (fun(a:CD [.obj 0]) (x:PD Tryz.cH) hw hp=>RP x.2.1 x.2.2.1 x.2.2.2.1.1 x.2.2.2.1.2.1 x.2.2.2.2 hw hp)
def FG(e:D aC):dO:=[
 (0,fun st=>{X:=Nat,inv:=fun i=>i<=e.2.1.length/\∀j,j<i->(nth aG e.2.1 j).1.length<=20,cA:=fun i=>e.2.1.length-i,bK:=fun i=>[(3,sI i)],keep:=[1]})]
def FZ(e:D aC)(hw:gA [aC] e):(dG Tryz.B [] Tryz.f29 (FG e) [aC] [.bool] (fun e y=>y=true->r5 e) e).holds:=by
 refine holds_of (p:=
  let za:=false=true->r5 e
  let zb:=e.2.1
  let zc:=gE zb
  let zd:=e.2.2.1
  let ze:=fun(F:Nat)=>gE (nth aG zb F).1
  gE e.1<=aL->((decide ((↑(gE e.1):Int) > 20))=true->za)/\((decide ((↑(gE e.1):Int) > 20))=false->zc<=aL->((decide ((↑zc:Int) > 8))=true->za)/\((decide ((↑zc:Int) > 8))=false->gE zd<=aL->((decide ((↑(gE zd):Int) > 40))=true->za)/\((decide ((↑(gE zd):Int) > 40))=false->(∃(x:Nat),(x<=zc/\∀(j:Nat),j<x->gE (nth aG zb j).1<=20)/\(0=(↑x:Int)/\True)/\True)/\∀F:Nat,(F<=zc/\∀(j:Nat),j<F->gE (nth aG zb j).1<=20)->zc<=aL->((decide ((↑F:Int)<(↑zc:Int)))=true->(0<=(↑F:Int)/\(↑F:Int)<(↑zc:Int))/\(ze F<=aL->((decide ((↑(ze F):Int) > 20))=true->za)/\((decide ((↑(ze F):Int) > 20))=false->aJ (↑F:Int)->aJ 1->aJ ((↑F:Int)+1)/\∃(x':Nat),(x'<=zc/\∀(j:Nat),j<x'->gE (nth aG zb j).1<=20)/\zc-x'<zc-F/\((↑F:Int)+1=(↑x':Int)/\True)/\(e.1=e.1/\zb=zb/\zd=zd/\True)/\True)))/\((decide ((↑F:Int)<(↑zc:Int)))=false->true=true->r5 e))))) (by kernel_rfl) ?_
 dsimp -iota -proj -eta only;refine fun h0=>iL (fun h1 =>?a) (fun h1 h2=>iL (fun h3 =>?b) (fun h3 h4=>iL (fun h5 =>?c) (fun h5=>⟨?d,fun F q_0 h6=>iL (fun h7=>⟨(by omega),fun h8=>iL (fun h9 =>?e) (fun h9 h10 h11=>⟨(by simp only[aJ,aL]at*;omega),(⟨F+1,⟨by omega,lX q_0.2 (by omega)⟩,by omega,⟨by omega,dT⟩,(by trivial)⟩)⟩)⟩) (fun h7=>(fun _=>⟨by omega,by omega,by omega,fun i hi=>q_0.2 i (by omega)⟩))⟩)))
 case a|b|c|e=>simp_all
 case d=>refine⟨0,?_⟩;(repeat' (first|exact trivial|rfl|omega|assumption|apply And.intro))
def Tryz.q7:bW Tryz.prog Tryz.B.eT Tryz.X 29 [aC] [.bool] (fun _=>True) (fun e y=>y=true->r5 e):=
 cC (X:=Tryz.X) (bR Tryz.bQ) Tryz.func29 (by kernel_rfl) (fun x=>FG x) (fun x hw hp=>FZ x hw)
def Tryz.spZ33:Bool×aT:=(true,pX [aC] [.bool] (fun _=>True) (fun e y=>y=true->r5 e))
def Tryz.Jn:List (FuncId×(Bool×aT)):=[(29,Tryz.spZ33)]
def Tryz.Ok:bO Tryz.prog Tryz.B Tryz.X Tryz.Jn:=
 aN (ij Tryz.q7) (bR Tryz.bQ)
def FH(l:List (D dC))(m:Int):dO:=[
 (0,fun st=>{X:=Nat×Int,inv:=fun x=>x.1<=l.length/\(0<=x.2/\x.2<=20000)/\∀j,j<x.1->xf (nth dC l j),cA:=fun x=>l.length-x.1,bK:=fun x=>[(6,sI x.1),(5,sI x.2)],keep:=[0]})]
def Jo(l:List (D dC))(m:Int)(hw:gA [.slice dC,.int .i64] (l,m)):(dG (Mw Tryz.B) Tryz.Jn Tryz.f8 (FH l m) [.slice dC,.int .i64] [.bool] (fun x y=>y=true->rA x.1 x.2) (l,m)).holds:=by
 refine holds_of (p:=
  let za:=gE l
  let zb:=false=true->rA l m
  let zc:=fun(F:Nat×Int)=>(↑F.1:Int)<(↑za:Int)
  let zd:=fun(F:Nat×Int)=>0<=(↑F.1:Int)/\zc F
  let ze:=fun(F:Nat×Int)=>gE (nth dC l F.1).2.2.1
  let zf:=fun(F:Nat×Int)=>gE (nth dC l F.1).2.1
  za<=aL->((decide ((↑za:Int) > m))=true->zb)/\((decide ((↑za:Int) > m))=false->(∃(x:Nat×Int),(x.1<=za/\(0<=x.2/\x.2<=20000)/\∀(j:Nat),j<x.1->xf (nth dC l j))/\(0=(↑x.1:Int)/\0=x.2/\True)/\True)/\∀F:Nat×Int,(F.1<=za/\(0<=F.2/\F.2<=20000)/\∀(j:Nat),j<F.1->xf (nth dC l j))->za<=aL->((decide (zc F))=true->zd F/\(ze F<=aL->∀I:Int,I=hg hb (F.2+(↑(ze F):Int))->zd F/\(zf F<=aL->((decide ((↑(zf F):Int) > 100))=true->zb)/\((decide ((↑(zf F):Int) > 100))=false->zd F/\(ze F<=aL->((decide ((↑(ze F):Int) > 1300))=true->zb)/\((decide ((↑(ze F):Int) > 1300))=false->((decide (I > 20000))=true->zb)/\((decide (I > 20000))=false->zd F/\True/\∀K:Bool,(K=true->r5 (nth dC l F.1).2.2.2.2.2.1)->((!K)=true->zb)/\((!K)=false->∀M:Int,M=hg hb ((↑F.1:Int)+1)->∃(x':Nat×Int),(x'.1<=za/\(0<=x'.2/\x'.2<=20000)/\∀(j:Nat),j<x'.1->xf (nth dC l j))/\za-x'.1<za-F.1/\(M=(↑x'.1:Int)/\I=x'.2/\True)/\True))))))))/\((decide (zc F))=false->true=true->rA l m))) (by kernel_rfl) ?_
 dsimp -iota -proj -eta only;refine fun h0=>iL (fun h1 =>?a) (fun h1=>⟨(by exact⟨(0,0),⟨by omega,by simp,fun j hj=>by simp only at hj;omega⟩,⟨rfl,rfl,dT⟩,dT⟩),fun F q_0 h2=>iL (fun h3=>⟨?b,fun h4 I q_1=>⟨?c,fun h5=>iL (fun h6 =>?d) (fun h6=>⟨?e,fun h7=>iL (fun h8 =>?f) (fun h8=>iL (fun h9 =>?g) (fun h9=>⟨?h,dT,fun K q_2=>iB (fun h10 =>?i) (fun h10 M q_3 =>?j)⟩))⟩)⟩⟩) (fun h3=>(fun _=>⟨by omega,fun i hi=>q_0.2.2 i (by omega)⟩))⟩)
 case a|d|f|g|i=>simp_all
 case b|c|e|h=>omega
 case j=>
  have hw2:hg hb (F.2+(gE (nth dC l F.1).2.2.1:Int))=F.2+(gE (nth dC l F.1).2.2.1:Int):=lA (by omega) (by omega);have hw3:hg hb ((F.1:Int)+1)=(F.1:Int)+1:=lA (by omega) (by have:(aL:Int)=9223372036854775807:=rfl;omega);exact⟨(F.1+1,_),⟨by omega,by simp only;omega,lX q_0.2.2 ⟨by omega,by omega,by simp_all⟩⟩,by simp only;omega,⟨by simp only;omega,rfl,dT⟩,(by trivial)⟩
def Tryz.xY:bW Tryz.prog Tryz.B.eT Tryz.X 8 [.slice dC,.int .i64] [.bool] (fun _=>True) (fun x y=>y=true->rA x.1 x.2):=
 cC (B:=(Mw Tryz.B)) (X:=Tryz.X) (bO.wrap Tryz.Ok) Tryz.func8 (by kernel_rfl) (fun x=>FH x.1 x.2) (fun x hw hp=>Jo x.1 x.2 hw)
def Tryz.spZ34:Bool×aT:=(true,pX [.slice dC,.int .i64] [.bool] (fun _=>True) (fun x y=>y=true->rA x.1 x.2))
def Tryz.spZ35:Bool×aT:=(false,aU [] [] (fun _ _=>True) Tryz.DJ)
def Tryz.spZ36:Bool×aT:=(false,aU Tryz.aW [.obj 0,.d .str,.d .str] (fun _ x=>x.2.1.1.length<=6/\0<=x.1.1/\x.1.1<=1000000) Tryz.vJ)
def Tryz.spZ37:Bool×aT:=(false,aU Tryz.aW [.obj 0,.d .str] (fun _ _=>True) Tryz.tI)
def Tryz.FI:List (FuncId×(Bool×aT)):=[(45,Tryz.spZ0),(17,Tryz.spZ1),(29,Tryz.spZ33),(8,Tryz.spZ34),(26,Tryz.spZ35),(13,Tryz.spZ27),(27,Tryz.spZ36),(28,Tryz.spZ37)]
def Tryz.KE:bO Tryz.prog Tryz.B Tryz.X Tryz.FI:=
 aN (aE Tryz.jm) (aN (aE Tryz.ir) (aN (ij Tryz.q7) (aN (ij Tryz.xY) (aN (Tryz.LH) (aN (Tryz.sj) (aN (Tryz.Fm) (aN (Tryz.CT) (bR Tryz.bQ))))))))
def Tryz.LS(l:List (D dC))(f:cX):dO:=[(0,fun st=>{X:=Nat,inv:=fun i=>i<=l.length,cA:=fun i=>l.length-i,bK:=fun i=>[(4,sI i)],keep:=[0,1],aF:=fun i=>[(0,.cells 93 [.eQ 1,.d (.int .i64) (jr f (l.take i)).1.1]),(1,.ext 1 (iU cK) (jr f (l.take i)).2.1)],gQ:=[0,1]})]
def Tryz.Bl:List (Alt Tryz.aW [.obj 0,.d (.slice dC)]):=[{bN:=Tryz.aW,res:=[],out:=fun a x=>jr x a.1,ret:=fun _ _=>()}]
def V4(l:List (D dC))(f:cX)(hw:gH [.obj 0,.d (.slice dC)] (l,()))(hp:(fun _ x=>dE x) (l,()) f):(cR Tryz.B Tryz.FI Tryz.f14 (Tryz.LS l f) Tryz.aW [.obj 0,.d (.slice dC)] Tryz.Bl (l,()) f).holds:=by
 refine holds_of (p:=
  let za:=gE l
  let zb:=C.eQ 1=C.eQ 1
  let zc:=fun(F:Nat)=>0<=(↑F:Int)/\(↑F:Int)<(↑za:Int)
  let zd:=fun(F:Nat)=>jr f (gN F l)
  let ze:=aJ 1
  let zf:=fun(F:Nat)=>(↑F:Int)+1
  let zg:=fun(F:Nat)=>(cL (zd F) (nth dC l F).2.1 (nth dC l F).2.2.1).1
  let zh:=fun(F:Nat)=>(fD (zd F) (nth dC l F).2.1).1
  (∃(x:Nat),x<=za/\(0=(↑x:Int)/\True)/\(zb/\f.1.1=(jr f (gN x l)).1.1/\True)/\f.2.1=(jr f (gN x l)).2.1/\True)/\∀F:Nat,F<=za->za<=aL->((decide ((↑F:Int)<(↑za:Int)))=true->zc F/\(((nth dC l F).1 == [119,114,105,116,101])=true->zc F/\zc F/\(gE (zd F).2.1.1<=6/\0<=(zd F).1.1/\(zd F).1.1<=1000000)/\(True->aJ (↑F:Int)->ze->aJ (zf F)/\∃(x':Nat),x'<=za/\za-x'<za-F/\(zf F=(↑x':Int)/\True)/\(zb/\(zg F).1.1=(jr f (gN x' l)).1.1/\True)/\(zg F).2.1=(jr f (gN x' l)).2.1/\True))/\(((nth dC l F).1 == [119,114,105,116,101])=false->zc F/\(((nth dC l F).1 == [114,101,109,111,118,101])=true->zc F/\True/\(True->aJ (↑F:Int)->ze->aJ (zf F)/\∃(x':Nat),x'<=za/\za-x'<za-F/\(zf F=(↑x':Int)/\True)/\(zb/\(zh F).1.1=(jr f (gN x' l)).1.1/\True)/\(zh F).2.1=(jr f (gN x' l)).2.1/\True))/\(((nth dC l F).1 == [114,101,109,111,118,101])=false->aJ (↑F:Int)->ze->aJ (zf F)/\∃(x':Nat),x'<=za/\za-x'<za-F/\(zf F=(↑x':Int)/\True)/\(zb/\(zd F).1.1=(jr f (gN x' l)).1.1/\True)/\(zd F).2.1=(jr f (gN x' l)).2.1/\True)))/\((decide ((↑F:Int)<(↑za:Int)))=false->True/\zd F=jr f l/\()=())) (by kernel_rfl) ?_
 dsimp -iota -proj -eta only;refine⟨(⟨0,by omega,⟨rfl,dT⟩,⟨rfl,rfl,dT⟩,rfl,dT⟩),fun F q_0 h0=>iL (fun h1=>⟨?a,iQ (fun h2=>⟨?b,?c,((dE.done _ hp).pre),fun h3 h4 h5=>⟨?d,(by exact⟨F+1,by omega,by omega,⟨by omega,dT⟩,by rw[ve (by omega),JV (by unfold r6;assumption)];exact⟨⟨rfl,rfl,dT⟩,rfl,dT⟩⟩)⟩⟩) (fun h2=>⟨?e,iQ (fun h3=>⟨?f,dT,fun h4 h5 h6=>⟨?g,(by exact⟨F+1,by omega,by omega,⟨by omega,dT⟩,by rw[ve (by omega),Hr (by unfold r6;assumption) (by unfold ud;assumption)];exact⟨⟨rfl,rfl,dT⟩,rfl,dT⟩⟩)⟩⟩) (fun h3 h4 h5=>⟨?h,(by exact⟨F+1,by omega,by omega,⟨by omega,dT⟩,by rw[ve (by omega),MI (by unfold r6;assumption) (by unfold ud;assumption)];exact⟨⟨rfl,rfl,dT⟩,rfl,dT⟩⟩)⟩)⟩)⟩) (fun h1=>(by rw[hk (by omega)];exact⟨dT,rfl,rfl⟩))⟩
 case a|b|c|e|f=>omega
 case d|g|h=>simp only[aJ,aL]at*;omega
def Tryz.V5:bX Tryz.prog Tryz.B.eT Tryz.X 14 false (aU Tryz.aW [.obj 0,.d (.slice dC)] (fun _ x=>dE x) Tryz.Bl):=
 bE (X:=Tryz.X) Tryz.KE Tryz.func14 (by kernel_rfl) (fun(a:CD [.obj 0,.d (.slice dC)]) (x:PD Tryz.aW)=>Tryz.LS a.1 x) (fun(a:CD [.obj 0,.d (.slice dC)]) (x:PD Tryz.aW) hw hp=>V4 a.1 x hw hp)
def Tryz.spZ38:Bool×aT:=(false,aU Tryz.s6 [.obj 0,.obj 2] (fun _ x=>cW x.2.2 1000000/\∀i,i<x.2.2.2.2.1.length->(nth .str x.2.2.2.2.1 i).length=64) Tryz.Bk)
def Tryz.spZ39:Bool×aT:=(false,aU Tryz.cH [.obj 0,.d .str] (fun _ x=>x.2.2.1.1.length<=6/\tD x.2.2.2.1.2.1) Tryz.xX)
def Tryz.Jp:List (FuncId×(Bool×aT)):=[(45,Tryz.spZ0),(17,Tryz.spZ1),(25,(false,aU [] [] (fun _ _=>True) Tryz.tH)),(26,Tryz.spZ35),(27,Tryz.spZ36),(28,Tryz.spZ37),(21,Tryz.spZ38),(11,Tryz.spZ39)]
def Tryz.Ol:bO Tryz.prog Tryz.B Tryz.X Tryz.Jp:=
 aN (aE Tryz.jm) (aN (aE Tryz.ir) (aN (Tryz.N2) (aN (Tryz.LH) (aN (Tryz.Fm) (aN (Tryz.CT) (aN (Tryz.DN) (aN (Tryz.Jm) (bR Tryz.bQ))))))))
def Tryz.xZ:List (Alt [] []):=[{bN:=Tryz.cH,res:=[.obj 1,.obj 0,.obj 4,.d .bool],out:=fun _ _=>((),IA.1,IA.2.1,jl),ret:=fun _ _=>(true,())}]
def Um  (hw:gH [] ()):(cR Tryz.B Tryz.Jp Tryz.f7 [] [] [] Tryz.xZ () ()).holds:=by
 refine holds_of (p:=
  let za:=(iR (qX (112:Int))).1
  let zb:=za.2.2.2.1=za.2.2.2.1
  let zc:=(cG za).2
  let zd:=gE (@ha FE)<=6/\(0:Int)<=(0:Int)/\(0:Int)<=(1000000:Int)
  let ze:=!aK.isNil (aI (0:Int))
  let zf:=[(122:UInt8),122]
  let zg:=((0:Int)+(1:Int),())
  let zh:=eS cK (@ha FE) zf ([(119:UInt8),111,114,100,32,53,10,98,97,115,101,32,48,32,51,10],zg) (0:Int)
  let zi:=(cG za).1.2
  let zj:=(mR cK (@ha FE) zf (0:Int),())
  let zk:=jI (zg,(zh,zj),()) zi zf
  True/\(True->True/\(True->((!true)=true->False)/\((!true)=false->zb/\(cW za 1000000/\∀(i:Nat),i<gE za.2.2.1->gE (nth Ty.str za.2.2.1 i)=64)/\(zc≠(0:Int)->((!aK.isNil (aI zc))=true->False)/\((!aK.isNil (aI zc))=false->zd/\(True->(ze=true->False)/\(ze=false->False))))/\(zc=(0:Int)->((!aK.isNil aK.nil)=true->False)/\((!aK.isNil aK.nil)=false->zd/\(True->(ze=true->False)/\(ze=false->zb/\(gE zh<=6/\tD zi)/\(True->((!aK.isNil (aI zk.2.2))=true->False)/\((!aK.isNil (aI zk.2.2))=false->((zk.2.1)=true->False)/\((zk.2.1)=false->gE zk.1<=aL->(((↑(gE zk.1):Int) != (1:Int))=true->False)/\(((↑(gE zk.1):Int) != (1:Int))=false->True/\(True->(ze=true->False)/\(ze=false->zb/\True/\((),zg,(fQ cK zh zf,zj),((cG za).1.1,zi,()),za)=((),zg,(fQ cK (eS cK (@ha FE) zf (AU,zg) (0:Int)) zf,zj),jl)/\(true,())=(true,()))))))))))))))) (by kernel_rfl) ?_
 dsimp -iota -proj -eta only;refine⟨dT,fun h0=>⟨dT,fun h1=>⟨fun h2=>absurd (show false=true from h2) (by decide),fun h2=>⟨rfl,⟨jB.sZ,jB.sec⟩,⟨fun h3=>iB (fun h4 =>?a) (fun h4=>⟨?b,fun h5=>⟨fun h6=>absurd (show false=true from h6) (by decide),fun h6 =>?c⟩⟩),fun h3=>⟨fun h4=>absurd (show false=true from h4) (by decide),fun h4=>⟨?d,fun h5=>⟨fun h6=>absurd (show false=true from h6) (by decide),fun h6=>⟨rfl,⟨Vx,vX.TC⟩,fun h7=>iB (fun h8=>(hf ((congrArg (fun z:List (D dH)×Bool×Int=>(aI z.2.2).isNil) DC).symm.trans h8))) (fun h8=>⟨fun h9=>(hf ((congrArg (fun z:List (D dH)×Bool×Int=>z.2.1) DC).symm.trans h9)),fun h9 h10=>iN (fun h11=>(absurd (congrArg (fun z:List (D dH)×Bool×Int=>(z.1.length:Int)) DC) h11)) (fun h11=>⟨dT,fun h12=>⟨fun h13=>absurd (show false=true from h13) (by decide),fun h13=>⟨rfl,dT,congrArg (fun z=>((),IA.1,IA.2.1,z)) z6,rfl⟩⟩⟩)⟩)⟩⟩⟩⟩⟩⟩⟩⟩⟩
 case a|c=>exact absurd jB.yB ‹_›
 case b|d=>trivial
def Tryz.Un:bX Tryz.prog Tryz.B.eT Tryz.X 7 false (aU [] [] (fun _ _=>True) Tryz.xZ):=
 bE (X:=Tryz.X) Tryz.Ol Tryz.func7 (by kernel_rfl) (fun(a:CD []) (x:PD [])=>[]) (fun(a:CD []) (x:PD []) hw hp=>Um  hw)
def Tryz.LU:List (FuncId×(Bool×aT)):=[(10,(false,aU Tryz.cH [.obj 0,.d .str] (fun _ x=>gD (x.2.1,x.2.2.1,())/\xM x.2.2.2) Tryz.vM)),(16,(false,aU Tryz.cH [.obj 0,.d .str] (fun _ x=>xM x.2.2.2) Tryz.xW)),(21,Tryz.spZ38),(14,(false,aU Tryz.aW [.obj 0,.d (.slice dC)] (fun _ x=>dE x) Tryz.Bl))]
def Tryz.RR:bO Tryz.prog Tryz.B Tryz.X Tryz.LU:=
 aN (Tryz.RO) (aN (Tryz.Uk) (aN (Tryz.DN) (aN (Tryz.V5) (bR Tryz.bQ))))
def Tryz.LV:dO:=[
 (200000,fun st=>{X:=Nat×cX×Sh,inv:=fun x=>x.1<=(cZ (.slice dC) st 3).length/\np x.2.1 x.2.2 x.1,cA:=fun x=>(cZ (.slice dC) st 3).length-x.1,bK:=fun x=>[(9,sI x.1)],keep:=[0,2,3,8],aM:=Tryz.cH,refs:=[(0,1),(1,0),(2,4)],stay:=[1,4],pd:=fun x=>((),x.2.1.1,x.2.1.2.1,x.2.2)})]
def Tryz.spZ40:Bool×aT:=(true,cB [.slice (.int .i64),.slice (.int .i64)] [.bool] (fun _=>True) (fun x=>mI x.1 x.2))
def Tryz.FJ:List (FuncId×(Bool×aT)):=[(42,Tryz.spZ40)]
def Tryz.KF:bO Tryz.prog Tryz.B Tryz.X Tryz.FJ:=
 aN (aE Tryz.uu) (bR Tryz.bQ)
def FK(a:List (D dH))(b:List (D dH)):dO:=[
 (0,fun st=>{X:=Nat,inv:=fun i=>i<=a.length,cA:=fun i=>a.length-i,bK:=fun i=>[(5,sI i)],keep:=[0,1]})]
def Jq(a:List (D dH))(b:List (D dH))(hw:gA [.slice dH,.slice dH] (a,b)):(dG Tryz.B Tryz.FJ Tryz.f23 (FK a b) [.slice dH,.slice dH] [.bool] (fun x y=>x.1=x.2->y=true) (a,b)).holds:=by
 refine holds_of (p:=
  let za:=gE a
  let zb:=(↑(gE b):Int)
  let zc:=a=b->false=true
  let zd:=fun(F:Nat)=>0<=(↑F:Int)/\(↑F:Int)<(↑za:Int)
  let ze:=fun(F:Nat)=>0<=(↑F:Int)/\(↑F:Int)<zb
  za<=aL->gE b<=aL->(((↑za:Int) != zb)=true->zc)/\(((↑za:Int) != zb)=false->(∃(x:Nat),x<=za/\(0=(↑x:Int)/\True)/\True)/\∀F:Nat,F<=za->za<=aL->((decide ((↑F:Int)<(↑za:Int)))=true->zd F/\ze F/\True/\zd F/\ze F/\((!(nth dH a F).1 == (nth dH b F).1)=true->zc)/\((!(nth dH a F).1 == (nth dH b F).1)=false->zd F/\ze F/\(((nth dH a F).2.1 != (nth dH b F).2.1)=true->zc)/\(((nth dH a F).2.1 != (nth dH b F).2.1)=false->((!mI (nth dH a F).2.2.1 (nth dH b F).2.2.1)=true->zc)/\((!mI (nth dH a F).2.2.1 (nth dH b F).2.2.1)=false->aJ (↑F:Int)->aJ 1->aJ ((↑F:Int)+1)/\∃(x':Nat),x'<=za/\za-x'<za-F/\((↑F:Int)+1=(↑x':Int)/\True)/\True))))/\((decide ((↑F:Int)<(↑za:Int)))=false->a=b->true=true))) (by kernel_rfl) ?_
 dsimp -iota -proj -eta only;refine fun h0 h1=>iN (fun h2=>(by intro e;subst e;exact absurd rfl h2)) (fun h2=>⟨(⟨0,by omega,⟨rfl,dT⟩,dT⟩),fun F q_0 h3=>iL (fun h4=>⟨?a,?b,dT,?c,?d,⟨fun h5 =>?e,fun h5=>⟨?f,?g,iN (fun h6 =>?h) (fun h6=>iB (fun h7 =>?i) (fun h7 h8 h9=>⟨?j,?k⟩))⟩⟩⟩) (fun h4=>(by simp_all))⟩)
 case a|b|c|d=>omega
 case e=>
  simp only[bl,reduceCtorEq]at h5;intro e;subst e;exact absurd rfl h5
 case f|g=>
  simp only[bl,reduceCtorEq]at h5;omega
 case h=>
  simp only[bl,reduceCtorEq]at h5;intro e;subst e;exact absurd rfl h6
 case i=>
  simp only[bl,reduceCtorEq]at h5;intro e;subst e;simp[mI]at h7
 case j=>
  simp only[bl,reduceCtorEq]at h5;simp only[aJ,aL]at*;omega
 case k=>
  simp only[bl,reduceCtorEq]at h5;exact⟨F+1,by omega,by omega,⟨by omega,dT⟩,(by trivial)⟩
def Tryz.Jr:bW Tryz.prog Tryz.B.eT Tryz.X 23 [.slice dH,.slice dH] [.bool] (fun _=>True) (fun x y=>x.1=x.2->y=true):=
 cC (X:=Tryz.X) Tryz.KF Tryz.func23 (by kernel_rfl) (fun x=>FK x.1 x.2) (fun x hw hp=>Jq x.1 x.2 hw)
def Tryz.pK:List (Alt Tryz.bA [.obj 0,.d (.int .u64)]):=[{bN:=Tryz.bA,res:=[],out:=fun a x=>fW x a.1,ret:=fun _ _=>()}]
def Tryz.F0:Tryz.pK=Tryz.oq:=by
 unfold Tryz.pK Tryz.oq;simp only[jt]
def Tryz.Js:bX Tryz.prog Tryz.B.eT Tryz.X 20 false (aU Tryz.bA [.obj 0,.d (.int .u64)] (fun _ x=>x.2.1.length=x.2.2.1.length/\∀i,i<x.2.2.2.1.length->0<=((nth gR x.2.2.2.1 i).1:Int)/\((nth gR x.2.2.2.1 i).1:Int)<x.2.2.1.length) Tryz.pK):=by
 rw[Tryz.F0];exact Tryz.tG
end Go.Proofs.YtgokjhhcfemnhadGreatDoor

