/- A part of the proof that the law TopKeptCard holds of the given program: facts that are used there. -/
import Derived.Test.YtgokjhhcfemnhacGreatDoorPart4
set_option linter.unusedSimpArgs false
set_option linter.unusedVariables false
set_option maxRecDepth 100000
set_option maxHeartbeats 4000000
set_option linter.defProp false
noncomputable section
open True renaming intro->dT
open List renaming length->gE,take->gN,nil->ha,length_singleton->hc,length_take->hh,take_of_length_le->hk
open Go.IntKind renaming i64->hb,wrap->hg
open Bool renaming noConfusion->hf
open Nat renaming zero_le->hn,not_lt_zero->ho
namespace Go.Proofs.YtgokjhhcfemnhacGreatDoor
open Go.Vg Go.Mrl
def Jg(l:List (D aA)):dL:=[
 (0,fun st=>{X:=Nat,inv:=fun i=>i<=l.length,bX:=fun i=>l.length-i,bK:=fun i=>[(8,sI i),(3,.s (.one (.app (.int .i64) (cA (l.take i)) (bJ st 3))))],aF:=fun i=>[(bJ st 3,.tok (.int .i64) (cA (l.take i)))],keep:=[2,6,7],gY:=[bJ st 3]})]
def Ru(l:List (D aA))(hw:fY [.slice aA] l)(hp:(fun l=>l.length<=1000) l):(cV Tryz.B [] Tryz.f114 (Jg l) [.slice aA] [.slice (.int .i64)] (fun x y=>y=(fun l=>cA l) x) l).holds:=by
 refine holds_of (p:=
  let za:=gE l
  let zb:=fun(E:Nat)=>gE (nth aA l E).2.1
  let zc:=fun(E:Nat)=>cA (gN E l)
  let zd:=fun(E:Nat)=>zc E++[(↑(zb E):Int)]
  za<=aK->(∃(x:Nat),x<=za/\(0=(↑x:Int)/\@ha Int=cA (gN x l)/\True)/\@ha Int=cA (gN x l)/\True)/\∀E:Nat,E<=za->((decide ((↑E:Int)<(↑za:Int)))=true->(0<=(↑E:Int)/\(↑E:Int)<(↑za:Int))/\(zb E<=aK->(zc E=zc E/\gE (zc E)+gE [(↑(zb E):Int)]<=1000000000)/\(aJ (↑E:Int)->aJ 1->aJ ((↑E:Int)+1)/\∃(x':Nat),x'<=za/\za-x'<za-E/\((↑E:Int)+1=(↑x':Int)/\zd E=cA (gN x' l)/\True)/\zd E=cA (gN x' l)/\@ha Int=@ha Int/\True)))/\((decide ((↑E:Int)<(↑za:Int)))=false->zc E=cA l)) (by kernel_rfl) ?_
 dsimp -iota -proj -eta only;exact fun h0=>⟨(⟨0,by omega,⟨rfl,rfl,dT⟩,rfl,dT⟩),fun E q_0=>iL (fun h1=>⟨(by omega),fun h2=>⟨(by exact⟨rfl,by rw[pH,hh];simp only[hc];omega⟩),fun h3 h4=>⟨(by simp only[aJ,aK]at*;omega),(⟨E+1,by omega,by omega,⟨by omega,(zI (by omega)).symm,dT⟩,(zI (by omega)).symm,(by trivial)⟩)⟩⟩⟩) (fun h1=>(by rw[hk (by omega)]))⟩
def Tryz.Rv:bT Tryz.prog Tryz.B.eT Tryz.X 114 [.slice aA] [.slice (.int .i64)] (fun l=>l.length<=1000) (fun x y=>y=(fun l=>cA l) x):=
 bW (X:=Tryz.X) (bR Tryz.bQ) Tryz.func114 (by kernel_rfl) (fun x=>Jg x) (fun x hw hp=>Ru x hw hp)
def Jh(l:List (D aA)):dL:=[
 (0,fun st=>{X:=Nat,inv:=fun i=>i<=l.length,bX:=fun i=>l.length-i,bK:=fun i=>[(8,sI i),(3,.s (.one (.app ji (cY (l.take i)) (bJ st 3))))],aF:=fun i=>[(bJ st 3,.tok ji (cY (l.take i)))],keep:=[2,6,7],gY:=[bJ st 3]})]
def Rw(l:List (D aA))(hw:fY [.slice aA] l)(hp:(fun l=>l.length<=1000) l):(cV Tryz.B [] Tryz.f115 (Jh l) [.slice aA] [mh] (fun x y=>y=(fun l=>cY l) x) l).holds:=by
 refine holds_of (p:=
  let za:=gE l
  let zb:=fun(E:Nat)=>cY (gN E l)
  let zc:=fun(E:Nat)=>zb E++[(nth aA l E).2.1]
  za<=aK->(∃(x:Nat),x<=za/\(0=(↑x:Int)/\@ha (List Int)=cY (gN x l)/\True)/\@ha (List Int)=cY (gN x l)/\True)/\∀E:Nat,E<=za->((decide ((↑E:Int)<(↑za:Int)))=true->(0<=(↑E:Int)/\(↑E:Int)<(↑za:Int))/\(zb E=zb E/\gE (zb E)+gE [(nth aA l E).2.1]<=1000000000)/\(aJ (↑E:Int)->aJ 1->aJ ((↑E:Int)+1)/\∃(x':Nat),x'<=za/\za-x'<za-E/\((↑E:Int)+1=(↑x':Int)/\zc E=cY (gN x' l)/\True)/\zc E=cY (gN x' l)/\@ha (List Int)=@ha (List Int)/\True))/\((decide ((↑E:Int)<(↑za:Int)))=false->zb E=cY l)) (by kernel_rfl) ?_
 dsimp -iota -proj -eta only;exact fun h0=>⟨(⟨0,by omega,⟨rfl,rfl,dT⟩,rfl,dT⟩),fun E q_0=>iL (fun h1=>⟨(by omega),(by exact⟨rfl,by rw[nM,hh];simp only[hc];omega⟩),fun h2 h3=>⟨(by simp only[aJ,aK]at*;omega),(⟨E+1,by omega,by omega,⟨by omega,(zJ (by omega)).symm,dT⟩,(zJ (by omega)).symm,(by trivial)⟩)⟩⟩) (fun h1=>(by rw[hk (by omega)]))⟩
def Tryz.Rx:bT Tryz.prog Tryz.B.eT Tryz.X 115 [.slice aA] [mh] (fun l=>l.length<=1000) (fun x y=>y=(fun l=>cY l) x):=
 bW (X:=Tryz.X) (bR Tryz.bQ) Tryz.func115 (by kernel_rfl) (fun x=>Jh x) (fun x hw hp=>Rw x hw hp)
def Tryz.Ry:List (FuncId×(Bool×aT)):=[(115,(true,cB [.slice aA] [mh] (fun l=>l.length<=1000) (fun l=>cY l))),(36,(true,cB [mh,.slice aS] [mh,.err] (fun x=>x.1.length<=100000/\∀i,i<x.1.length->(nth ji x.1 i).length<=100000000) (fun x=>iX x)))]
def Tryz.T7:bN Tryz.prog Tryz.B Tryz.X Tryz.Ry:=
 aP (aE Tryz.Rx) (aP (aE Tryz.WO) (bR Tryz.bQ))
def Rz(ns:List (List UInt8))(bs:List Int)(os:List (D aA))(ps:List (D aS)):dL:=[
 (0,fun st=>{X:=Nat,inv:=fun i=>i<=os.length,bX:=fun i=>os.length-i,bK:=fun i=>[(39,sI i),(12,.s (.one (.app dF (je ns bs (iX (cY os,ps)).1 i) (bJ st 12))))],aF:=fun i=>[(bJ st 12,.tok dF (je ns bs (iX (cY os,ps)).1 i))],keep:=[0,1,8,9,10,38],gY:=[bJ st 12]})]
def WQ(ns:List (List UInt8))(bs:List Int)(os:List (D aA))(ps:List (D aS))(hw:fY [.slice .str,.slice (.int .i64),.slice aA,.slice aS] (ns,bs,os,ps))(hp:(fun x=>x.2.2.1.length<=1000/\∀i,i<x.2.2.1.length->(nth aA x.2.2.1 i).2.1.length<=1000) (ns,bs,os,ps)):(cV Tryz.B Tryz.Ry Tryz.f80 (Rz ns bs os ps) [.slice .str,.slice (.int .i64),.slice aA,.slice aS] [.slice dF,.err] (fun x y=>y=(fun x=>jM x.1 x.2.1 x.2.2.1 x.2.2.2) x) (ns,bs,os,ps)).holds:=by
 refine holds_of (p:=
  let za:=gE os
  let zb:=za<=aK
  let zc:=(↑(gE ns):Int)
  let zd:=(↑za:Int)
  let ze:=jM ns bs os ps
  let zf:=([],aM.no 3)=ze
  let zg:=(↑(gE bs):Int)
  let zh:=cY os
  let zi:=iX (zh,ps)
  let zj:=(iX (zh,ps)).1
  let zk:=fun(E:Nat)=>(↑E:Int)
  let zl:=fun(E:Nat)=>0<=zk E
  let zm:=fun(E:Nat)=>je ns bs zj E
  let zn:=fun(E:Nat)=>[(nth Ty.str ns E,nth (Ty.int hb) bs E,nth (Ty.slice (Ty.int hb)) zi.1 E,())]
  gE ns<=aK->zb->((zc != zd)=true->zf)/\((zc != zd)=false->gE bs<=aK->zb->((zg != zd)=true->zf)/\((zg != zd)=false->za<=1000/\(gE zh<=100000/\∀(i:Nat),i<gE zh->gE (nth ji zh i)<=100000000)/\((!aM.isNil zi.2)=true->([],zi.2)=ze)/\((!aM.isNil zi.2)=false->zb->(∃(x:Nat),x<=za/\(0=(↑x:Int)/\@ha (List UInt8×Int×List Int×Unit)=je ns bs zj x/\True)/\@ha (List UInt8×Int×List Int×Unit)=je ns bs zj x/\True)/\∀E:Nat,E<=za->((decide (zk E<zd))=true->(zl E/\zk E<zc)/\(zl E/\zk E<zg)/\(zl E/\zk E<(↑(gE zi.1):Int))/\(zm E=zm E/\gE (zm E)+gE (zn E)<=1000000000)/\(aJ (zk E)->aJ 1->aJ (zk E+1)/\∃(x':Nat),x'<=za/\za-x'<za-E/\(zk E+1=(↑x':Int)/\zm E++zn E=je ns bs zj x'/\True)/\zm E++zn E=je ns bs zj x'/\@ha (List UInt8×Int×List Int×Unit)=@ha (List UInt8×Int×List Int×Unit)/\True))/\((decide (zk E<zd))=false->(zm E,aM.nil)=ze))))) (by kernel_rfl) ?_
 dsimp -iota -proj -eta only;dsimp only at hp;refine fun h0 h1=>iN (fun h2=>((Ch (.inl (by omega))).symm)) (fun h2 h3 h4=>iN (fun h5=>((Ch (.inr (by omega))).symm)) (fun h5=>⟨?a,(U7 hp),iB (fun h6=>((SQ (by omega) (by omega) h6).symm)) (fun h6 h7=>⟨(⟨0,by omega,⟨rfl,rfl,dT⟩,rfl,dT⟩),fun E q_0=>iL (fun h8=>⟨?b,?c,(by rw[Sz ‹_›,nM];omega),(by exact⟨rfl,by rw[M1];simp only[hc];omega⟩),fun h9 h10=>⟨(by simp only[aJ,aK]at*;omega),(⟨E+1,by omega,by omega,⟨by omega,(zL _ _ _ _).symm,dT⟩,(zL _ _ _ _).symm,(by trivial)⟩)⟩⟩) (fun h8=>(by rw[Dm (by omega) (by omega) ‹_›,show E=os.length by omega]))⟩)⟩))
 case a|b|c=>omega
def Tryz.RA:bT Tryz.prog Tryz.B.eT Tryz.X 80 [.slice .str,.slice (.int .i64),.slice aA,.slice aS] [.slice dF,.err] (fun x=>x.2.2.1.length<=1000/\∀i,i<x.2.2.1.length->(nth aA x.2.2.1 i).2.1.length<=1000) (fun x y=>y=(fun x=>jM x.1 x.2.1 x.2.2.1 x.2.2.2) x):=
 bW (X:=Tryz.X) Tryz.T7 Tryz.func80 (by kernel_rfl) (fun x=>Rz x.1 x.2.1 x.2.2.1 x.2.2.2) (fun x hw hp=>WQ x.1 x.2.1 x.2.2.1 x.2.2.2 hw hp)
def Tryz.FI:List (FuncId×(Bool×aT)):=[(31,(false,aY Tryz.aU [.obj 0,.d .str] (fun _ x=>x.2.1.1.length<=6) Tryz.DJ)),(114,(true,cB [.slice aA] [.slice (.int .i64)] (fun l=>l.length<=1000) (fun l=>cA l))),(113,(true,cB [.slice (.int .i64),.slice aZ] [.slice (.int .i64),.err] (fun _=>True) (fun x=>cL x))),(35,(true,cB [.slice aA,.slice (.int .i64)] [.slice aS,.err] (fun x=>jN x.1) (fun x=>iC x)))]
def Tryz.KE:bN Tryz.prog Tryz.B Tryz.X Tryz.FI:=
 aP (Tryz.Kz) (aP (aE Tryz.Rv) (aP (aE Tryz.T4) (aP (aE Tryz.WM) (bR Tryz.bQ))))
def Tryz.vK:List (Alt Tryz.aU [.obj 0,.d .str]):=[{bO:=Tryz.aU,res:=[.d (.slice .str),.d (.slice aA),.d (.slice (.int .i64)),.d (.slice aS),.d .err],out:=fun _ x=>x,ret:=fun a x=>((aX (aL x) a.1).1,(aX (aL x) a.1).2.1,(aX (aL x) a.1).2.2.1,(aX (aL x) a.1).2.2.2.1,aI (aX (aL x) a.1).2.2.2.2,())}]
def RB(s:List UInt8)(f:dA)(hw:gV [.obj 0,.d .str] (s,()))(hp:(fun _ x=>x.2.1.1.length<=6) (s,()) f):(cW Tryz.B Tryz.FI Tryz.f79 [] Tryz.aU [.obj 0,.d .str] Tryz.vK (s,()) f).holds:=by
 refine holds_of (p:=
  let za:=bE (aL f) s
  let zb:=aI za.2.2
  let zc:=f=f
  let zd:=aX (aL f) s
  let ze:=(zd.1,zd.2.1,zd.2.2.1,zd.2.2.2.1,aI zd.2.2.2.2,())
  let zf:=za.2.1
  let zg:=cL (cA zf,[])
  let zh:=iC (zf,zg.1)
  gE f.2.1.1<=6/\(True->((!aM.isNil zb)=true->True/\zc/\([],[],[],[],zb,())=ze)/\((!aM.isNil zb)=false->gE zf<=1000/\True/\((!aM.isNil zg.2)=true->True/\zc/\([],[],[],[],zg.2,())=ze)/\((!aM.isNil zg.2)=false->jN zf/\((!aM.isNil zh.2)=true->True/\zc/\([],[],[],[],zh.2,())=ze)/\((!aM.isNil zh.2)=false->True/\zc/\(za.1,zf,zg.1,zh.1,aM.nil,())=ze))))) (by kernel_rfl) ?_
 dsimp -iota -proj -eta only;exact⟨(by trivial),fun h0=>iB (fun h1=>⟨dT,rfl,by rw[xy (dZ h1)]⟩) (fun h1=>⟨(Nat.le_trans (PM (jB hp) (aQ.1 ‹_›)) (by decide)),dT,iB (fun h2=>⟨dT,rfl,by rw[xz (aQ.1 ‹_›) h2,ri (Cf _)]⟩) (fun h2=>⟨(M3 (jB hp) (aQ.1 ‹_›)),iB (fun h3=>⟨dT,rfl,by rw[Cg (aQ.1 ‹_›) ‹_› h3,SU]⟩) (fun h3=>(by exact⟨dT,rfl,by rw[zK (aQ.1 ‹_›) ‹_› ‹_›];rfl⟩))⟩)⟩)⟩
def Tryz.FJ:bZ Tryz.prog Tryz.B.eT Tryz.X 79 false (aY Tryz.aU [.obj 0,.d .str] (fun _ x=>x.2.1.1.length<=6) Tryz.vK):=
 bG (X:=Tryz.X) Tryz.KE Tryz.func79 (by kernel_rfl) (fun(a:CD [.obj 0,.d .str]) (x:PD Tryz.aU)=>[]) (fun(a:CD [.obj 0,.d .str]) (x:PD Tryz.aU) hw hp=>RB a.1 x hw hp)
def Tryz.spZ28:Bool×aT:=(false,aY Tryz.aU [.obj 0,.d .str] (fun _ x=>x.2.1.1.length<=6) Tryz.vK)
def Tryz.spZ29:Bool×aT:=(true,cB [.slice .str,.slice (.int .i64),.slice aA,.slice aS] [.slice dF,.err] (fun x=>x.2.2.1.length<=1000/\∀i,i<x.2.2.1.length->(nth aA x.2.2.1 i).2.1.length<=1000) (fun x=>jM x.1 x.2.1 x.2.2.1 x.2.2.2))
def Tryz.LL:List (FuncId×(Bool×aT)):=[(79,Tryz.spZ28),(80,Tryz.spZ29)]
def Tryz.RC:bN Tryz.prog Tryz.B Tryz.X Tryz.LL:=
 aP (Tryz.FJ) (aP (aE Tryz.RA) (bR Tryz.bQ))
def Tryz.Bg:List (Alt Tryz.aU [.obj 0,.d .str]):=[{bO:=Tryz.aU,res:=[.d (.slice dF),.d .err],out:=fun _ x=>x,ret:=fun a x=>((gH (aL x) a.1).1,aI (gH (aL x) a.1).2,())}]
def VS(s:List UInt8)(f:dA)(hw:gV [.obj 0,.d .str] (s,()))(hp:(fun _ x=>x.2.1.1.length<=6) (s,()) f):(cW Tryz.B Tryz.LL Tryz.f34 [] Tryz.aU [.obj 0,.d .str] Tryz.Bg (s,()) f).holds:=by
 refine holds_of (p:=
  let za:=aX (aL f) s
  let zb:=aI za.2.2.2.2
  let zc:=gH (aL f) s
  let zd:=(zc.1,aI zc.2,())
  let ze:=gE za.2.1
  let zf:=jM za.1 za.2.2.1 za.2.1 za.2.2.2.1
  gE f.2.1.1<=6/\(True->((!aM.isNil zb)=true->True/\f=f/\([],zb,())=zd)/\((!aM.isNil zb)=false->(ze<=1000/\∀(i:Nat),i<ze->gE (nth aA za.2.1 i).2.1<=1000)/\True/\f=f/\(zf.1,zf.2,())=zd))) (by kernel_rfl) ?_
 dsimp -iota -proj -eta only;exact⟨(by trivial),fun h0=>iB (fun h1=>⟨dT,rfl,by rw[SR (dZ h1)]⟩) (fun h1=>⟨(HH (jB hp) (aQ.1 ‹_›)),⟨dT,rfl,SS (aQ.1 ‹_›)⟩⟩)⟩
def Tryz.LM:bZ Tryz.prog Tryz.B.eT Tryz.X 34 false (aY Tryz.aU [.obj 0,.d .str] (fun _ x=>x.2.1.1.length<=6) Tryz.Bg):=
 bG (X:=Tryz.X) Tryz.RC Tryz.func34 (by kernel_rfl) (fun(a:CD [.obj 0,.d .str]) (x:PD Tryz.aU)=>[]) (fun(a:CD [.obj 0,.d .str]) (x:PD Tryz.aU) hw hp=>VS a.1 x hw hp)
def Tryz.LN:List (FuncId×(Bool×aT)):=[(79,Tryz.spZ28),(47,Tryz.spZ24)]
def Tryz.RD:bN Tryz.prog Tryz.B Tryz.X Tryz.LN:=
 aP (Tryz.FJ) (aP (Tryz.sh) (bR Tryz.bQ))
def Tryz.LO(s:List UInt8)(f:dA):dL:=[
 (0,fun st=>{X:=Nat,inv:=fun i=>i<=gE (cU (.slice .str) st 6),bX:=fun i=>gE (cU (.slice .str) st 6)-i,bK:=fun i=>[(35,sI i)],keep:=[0,4,8,11,33,34],aF:=fun i=>[(bJ st 11,.cells 40 [.d .str s,.app aG (cD (aL f) (cU (.slice .str) st 6) (cU (.slice (.int .i64)) st 8) i) (nC st (bJ st 11) 1),.d (.slice aS) (cU (.slice aS) st 9)]),(nC st (bJ st 11) 1,.tok aG (cD (aL f) (cU (.slice .str) st 6) (cU (.slice (.int .i64)) st 8) i))],gY:=[bJ st 11,nC st (bJ st 11) 1]})]
def Tryz.Bh:List (Alt Tryz.aU [.obj 0,.d .str]):=[{bO:=Tryz.aU,res:=[.d aC,.d .err],out:=fun _ x=>x,ret:=fun a x=>((dQ (aL x) a.1).1,aI (dQ (aL x) a.1).2,())}]
def VT(s:List UInt8)(f:dA)(hw:gV [.obj 0,.d .str] (s,()))(hp:(fun _ x=>x.2.1.1.length<=6) (s,()) f):(cW Tryz.B Tryz.LN Tryz.f44 (Tryz.LO s f) Tryz.aU [.obj 0,.d .str] Tryz.Bh (s,()) f).holds:=by
 refine holds_of (p:=
  let za:=aL f
  let zb:=aX za s
  let zc:=aI zb.2.2.2.2
  let zd:=([],[],[],())
  let ze:=((dQ za s).1,aI (dQ za s).2,())
  let zf:=zb.1
  let zg:=gE zf
  let zh:=zb.2.2.1
  let zi:=zb.2.2.2.1
  let zj:=zi=zi/\True
  let zk:=fun(E:Nat)=>aI (aL f (nth Ty.str zf E)).2.2
  let zl:=fun(E:Nat)=>cD za zf zh E
  let zm:=fun(E:Nat)=>[(nth Ty.str zf E,(aL f (nth Ty.str zf E)).2.1,nth (Ty.int hb) zh E,())]
  let zn:=@ha (Int×Int×Int×Unit)=@ha (Int×Int×Int×Unit)
  let zo:=@ha (List UInt8×Int×Int×Unit)=@ha (List UInt8×Int×Int×Unit)
  gE f.2.1.1<=6/\(True->((!aM.isNil zc)=true->True/\f=f/\(zd,zc,())=ze)/\((!aM.isNil zc)=false->zg<=aK->(∃(x:Nat),x<=zg/\(0=(↑x:Int)/\True)/\(s=s/\@ha (List UInt8×Int×Int×Unit)=cD za zf zh x/\zj)/\@ha (List UInt8×Int×Int×Unit)=cD za zf zh x/\True)/\∀E:Nat,E<=zg->((decide ((↑E:Int)<(↑zg:Int)))=true->(0<=(↑E:Int)/\(↑E:Int)<(↑zg:Int))/\True/\(True->((!aM.isNil (zk E))=true->True/\f=f/\(zd,zk E,())=ze)/\((!aM.isNil (zk E))=false->(0<=(↑E:Int)/\(↑E:Int)<(↑(gE zh):Int))/\(zl E=zl E/\gE (zl E)+gE (zm E)<=1000000000)/\(aJ (↑E:Int)->aJ 1->aJ ((↑E:Int)+1)/\∃(x':Nat),x'<=zg/\zg-x'<zg-E/\((↑E:Int)+1=(↑x':Int)/\True)/\(s=s/\zl E++zm E=cD za zf zh x'/\zj)/\zl E++zm E=cD za zf zh x'/\zn/\zo/\(C.eQ 1=C.eQ 1/\f.1.1=f.1.1/\True)/\f.2.1=f.2.1/\(@ha UInt8=@ha UInt8/\zo/\zn/\True)/\zn/\zo/\True))))/\((decide ((↑E:Int)<(↑zg:Int)))=false->True/\f=f/\((s,zl E,zi,()),aM.nil,())=ze)))) (by kernel_rfl) ?_
 dsimp -iota -proj -eta only;exact⟨(by trivial),fun h0=>iB (fun h1=>(by exact⟨dT,rfl,by rw[HK (dZ h1)];rfl⟩)) (fun h1 h2=>⟨(⟨0,hn _,⟨rfl,dT⟩,⟨rfl,rfl,rfl,dT⟩,rfl,(by trivial)⟩),fun E q_0=>iL (fun h3=>⟨(by omega),dT,fun h4=>iB (fun h5=>(absurd (ER (jB hp) (aQ.1 h1) (by omega)) (dZ h5))) (fun h5=>⟨(by have:=(ES (jB hp) (aQ.1 h1)).1;omega),(by exact⟨rfl,by rw[eW];have:=(ES (jB hp) (aQ.1 h1)).2;simp only[hc];omega⟩),fun h6 h7=>⟨(by simp only[aJ,aK]at*;omega),(⟨E+1,by omega,by omega,⟨by omega,dT⟩,⟨rfl,(xB _ _ _ _).symm,rfl,dT⟩,(xB _ _ _ _).symm,(by trivial)⟩)⟩⟩)⟩) (fun h3=>(by exact⟨dT,rfl,by rw[yy (aQ.1 h1),show E=gE (aX (aL f) s).1 by omega];rfl⟩))⟩)⟩
def Tryz.VU:bZ Tryz.prog Tryz.B.eT Tryz.X 44 false (aY Tryz.aU [.obj 0,.d .str] (fun _ x=>x.2.1.1.length<=6) Tryz.Bh):=
 bG (X:=Tryz.X) Tryz.RD Tryz.func44 (by kernel_rfl) (fun(a:CD [.obj 0,.d .str]) (x:PD Tryz.aU)=>Tryz.LO a.1 x) (fun(a:CD [.obj 0,.d .str]) (x:PD Tryz.aU) hw hp=>VT a.1 x hw hp)
def Tryz.Ji:List (FuncId×(Bool×aT)):=[(47,Tryz.spZ24)]
def Tryz.Of:bN Tryz.prog Tryz.B Tryz.X Tryz.Ji:=
 aP (Tryz.sh) (bR Tryz.bQ)
def Tryz.Jj(e:D aC)(f:dA):dL:=[
 (0,fun st=>{X:=Nat,inv:=fun i=>i<=gE e.2.1/\∀j,j<i->jf (aL f) (nth aG e.2.1 j)=true,bX:=fun i=>gE e.2.1-i,bK:=fun i=>[(13,sI i)],keep:=[1,2,11,12]})]
def Tryz.xW:List (Alt Tryz.aU [.d aC,.obj 0]):=[{bO:=Tryz.aU,res:=[.d .bool],out:=fun _ x=>x,ret:=fun a x=>(fM (aL x) a.1,())}]
def T8(e:D aC)(f:dA)(hw:gV [.d aC,.obj 0] (e,())):(cW Tryz.B Tryz.Ji Tryz.f46 (Tryz.Jj e f) Tryz.aU [.d aC,.obj 0] Tryz.xW (e,()) f).holds:=by
 refine holds_of (p:=
  let za:=e.2.1
  let zb:=gE za
  let zc:=aL f
  let zd:=fun(E:Nat)=>(aL f (nth aG za E).1).2
  let ze:=(fM zc e,())
  let zf:=True/\f=f/\(false,())=ze
  zb<=aK->(∃(x:Nat),(x<=zb/\∀(j:Nat),j<x->jf zc (nth aG za j)=true)/\(0=(↑x:Int)/\True)/\True)/\∀E:Nat,(E<=zb/\∀(j:Nat),j<E->jf zc (nth aG za j)=true)->((decide ((↑E:Int)<(↑zb:Int)))=true->(0<=(↑E:Int)/\(↑E:Int)<(↑zb:Int))/\True/\(True->((!aM.isNil (aI (zd E).2))=true->zf)/\((!aM.isNil (aI (zd E).2))=false->(((zd E).1 != (nth aG za E).2.1)=true->zf)/\(((zd E).1 != (nth aG za E).2.1)=false->aJ (↑E:Int)->aJ 1->aJ ((↑E:Int)+1)/\∃(x':Nat),(x'<=zb/\∀(j:Nat),j<x'->jf zc (nth aG za j)=true)/\zb-x'<zb-E/\((↑E:Int)+1=(↑x':Int)/\True)/\(e.1=e.1/\za=za/\e.2.2.1=e.2.2.1/\True)/\(C.eQ 1=C.eQ 1/\f.1.1=f.1.1/\True)/\f.2.1=f.2.1/\True))))/\((decide ((↑E:Int)<(↑zb:Int)))=false->zb<=aK->True/\f=f/\(decide ((↑zb:Int) > 0),())=ze)) (by kernel_rfl) ?_
 dsimp -iota -proj -eta only;exact fun h0=>⟨(⟨0,⟨hn _,fun j hj=>absurd hj (ho _)⟩,⟨rfl,dT⟩,dT⟩),fun E q_0=>iL (fun h1=>⟨(by omega),dT,fun h2=>iB (fun h3=>⟨dT,rfl,by rw[HM (i:=E) (by omega) (PX h3)]⟩) (fun h3=>iN (fun h4=>⟨dT,rfl,by rw[HM (i:=E) (by omega) (Nc h4)]⟩) (fun h4 h5 h6=>⟨(by simp only[aJ,aK]at*;omega),(⟨E+1,⟨by omega,jU q_0.2 (Nd ‹_› ‹_›)⟩,by omega,⟨by omega,dT⟩,(by trivial)⟩)⟩))⟩) (fun h1 h2=>(by exact⟨dT,rfl,by rw[EL fun i hi=>q_0.2 i (by omega)];simp⟩))⟩
def Tryz.Jk:bZ Tryz.prog Tryz.B.eT Tryz.X 46 false (aY Tryz.aU [.d aC,.obj 0] (fun _ _=>True) Tryz.xW):=
 bG (X:=Tryz.X) Tryz.Of Tryz.func46 (by kernel_rfl) (fun(a:CD [.d aC,.obj 0]) (x:PD Tryz.aU)=>Tryz.Jj a.1 x) (fun(a:CD [.d aC,.obj 0]) (x:PD Tryz.aU) hw hp=>T8 a.1 x hw)
def Tryz.spZ30:Bool×aT:=(false,aY Tryz.aU [.d aC,.obj 0] (fun _ _=>True) Tryz.xW)
def Tryz.RE:List (FuncId×(Bool×aT)):=[(46,Tryz.spZ30),(47,Tryz.spZ24),(77,Tryz.spZ25),(80,Tryz.spZ29)]
def Tryz.T9:bN Tryz.prog Tryz.B Tryz.X Tryz.RE:=
 aP (Tryz.Jk) (aP (Tryz.sh) (aP (aE Tryz.FA) (aP (aE Tryz.RA) (bR Tryz.bQ))))
def Tryz.RG(e:D aC)(f:dA):dL:=[
 (0,fun st=>{X:=Nat,inv:=fun i=>i<=gE e.2.1/\∀j,j<i->(cR (aL f (nth aG e.2.1 j).1).1).2=0,bX:=fun i=>gE e.2.1-i,bK:=fun i=>[(23,sI i),(6,.s (.one (.app .str (fV (gN i e.2.1)) (bJ st 6)))),(7,.s (.one (.app (.int .i64) (fW (gN i e.2.1)) (bJ st 7)))),(8,.s (.one (.app aA (fR (aL f) (gN i e.2.1)) (bJ st 8))))],aF:=fun i=>[(bJ st 6,.tok .str (fV (gN i e.2.1))),(bJ st 7,.tok (.int .i64) (fW (gN i e.2.1))),(bJ st 8,.tok aA (fR (aL f) (gN i e.2.1)))],keep:=[1,2,21,22],gY:=[bJ st 6,bJ st 7,bJ st 8]}),
 (300015,fun st=>{X:=Nat,inv:=fun i=>i=(cU (.int .i64) st 23).toNat+1,bX:=fun _=>0,bK:=fun i=>[(6,.s (.one (.app .str (fV (gN i e.2.1)) (bJ st 6)))),(7,.s (.one (.app (.int .i64) (fW (gN i e.2.1)) (bJ st 7)))),(8,.s (.one (.app aA (fR (aL f) (gN i e.2.1)) (bJ st 8))))],aF:=fun i=>[(bJ st 6,.tok .str (fV (gN i e.2.1))),(bJ st 7,.tok (.int .i64) (fW (gN i e.2.1))),(bJ st 8,.tok aA (fR (aL f) (gN i e.2.1)))],keep:=[1,2,4,5,10,11,13,14,21,22,23,24,25,26,27,28,29,30,31,32,33,34,35,36,37,38,39,40,41,42,43,44,45],gY:=[bJ st 6,bJ st 7,bJ st 8]})]
def Tryz.DN:List (Alt Tryz.aU [.d aC,.obj 0]):=[{bO:=Tryz.aU,res:=[.d (.slice dF),.d .err],out:=fun _ x=>x,ret:=fun a x=>((kz (aL x) a.1).1,aI (kz (aL x) a.1).2,())}]
def WR(e:D aC)(f:dA)(hw:gV [.d aC,.obj 0] (e,()))(hp:(fun a x=>a.1.2.1.length<=1000/\x.2.1.1.length<=6) (e,()) f):(cW Tryz.B Tryz.RE Tryz.f48 (Tryz.RG e f) Tryz.aU [.d aC,.obj 0] Tryz.DN (e,()) f).holds:=by
 refine holds_of (p:=
  let za:=aL f
  let zb:=f=f
  let zc:=((kz za e).1,aI (kz za e).2,())
  let zd:=e.2.1
  let ze:=gE zd
  let zf:=fun(E:Nat)=>(nth aG zd E).1
  let zg:=fun(E:Nat)=>aI (aL f (zf E)).2.2
  let zh:=fun(E:Nat)=>aI (cR (aL f (zf E)).1).2
  let zi:=fun(E:Nat)=>fV (gN E zd)
  let zj:=fun(E:Nat)=>zi E=zi E/\gE (zi E)+gE [zf E]<=1000000000
  let zk:=fun(E:Nat)=>fW (gN E zd)
  let zl:=fun(E:Nat)=>(nth aG zd E).2.2.1
  let zm:=fun(E:Nat)=>fR za (gN E zd)
  let zn:=fun(E:Nat)=>(cR (aL f (zf E)).1).1
  let zo:=C.eQ 1=C.eQ 1/\f.1.1=f.1.1/\True
  let zp:=f.2.1=f.2.1
  let zq:=e.2.2.1
  let zr:=@ha (List UInt8×Int×List Int×Unit)=@ha (List UInt8×Int×List Int×Unit)/\(e.1=e.1/\zd=zd/\zq=zq/\True)/\True
  let zs:=fun(E:Nat)=>(zk E=zk E/\gE (zk E)+gE [zl E]<=1000000000)/\(zm E=zm E/\gE (zm E)+gE [zn E]<=1000000000)/\∃(x':Nat),x'=E+1/\(zi E++[zf E]=fV (gN x' zd)/\zk E++[zl E]=fW (gN x' zd)/\zm E++[zn E]=fR za (gN x' zd)/\True)/\zi E++[zf E]=fV (gN x' zd)/\zk E++[zl E]=fW (gN x' zd)/\zm E++[zn E]=fR za (gN x' zd)/\((zn E).1=(zn E).1/\(zn E).2.1=(zn E).2.1/\(zn E).2.2.1=(zn E).2.2.1/\(zn E).2.2.2.1=(zn E).2.2.2.1/\True)/\@ha (Int×Int×Int×List UInt8×Bool×Unit)=@ha (Int×Int×Int×List UInt8×Bool×Unit)/\@ha (List UInt8×Int×Bool×Unit)=@ha (List UInt8×Int×Bool×Unit)/\@ha Int=@ha Int/\@ha (List UInt8)=@ha (List UInt8)/\zo/\zp/\(zf E=zf E/\(nth aG zd E).2.1=(nth aG zd E).2.1/\zl E=zl E/\True)/\zr
  let zt:=fun(E:Nat)=>zj E/\(fun a0:Prop=>a0/\a0/\a0) (zs E)/\(fun a0:Prop=>a0/\a0) (zs E)/\zs E
  let zu:=fun(E:Nat)=>zj E/\zs E
  let zv:=fun(E:Nat)=>(zj E/\(fun a0:Prop=>a0/\a0/\a0) (zs E))/\(zj E/\(fun a0:Prop=>a0/\a0) (zs E))/\zu E
  let zw:=fun(E:Nat)=>zj E/\(fun a0:Prop=>a0/\a0) (zs E)/\zs E
  let zx:=fun(E:Nat)=>(zj E/\(fun a0:Prop=>a0/\a0) (zs E))/\zu E
  let zy:=fun(E:Nat)=>(fun a0 a1 a2 a3 a4:Prop=>a0/\a1/\a2/\a3/\a4/\a4) (zt E) (zv E) (zw E) (zx E) (zu E)
  let zz:=fun(E:Nat)=>(fun a0 a1 a2:Prop=>a0/\a1/\a2/\a2) (zw E) (zx E) (zu E)
  let zaa:=fun(E:Nat)=>jM (zi E) (zk E) (zm E) zq
  True/\(True->((!fM za e)=true->True/\zb/\([],aM.no 10,())=zc)/\((!fM za e)=false->ze<=aK->(∃(x:Nat),(x<=ze/\∀(j:Nat),j<x->(cR (aL f (nth aG zd j).1).1).2=0)/\(0=(↑x:Int)/\@ha (List UInt8)=fV (gN x zd)/\@ha Int=fW (gN x zd)/\@ha (List (List UInt8)×List Int×List (List UInt8×Int×Bool×Unit)×List (Int×Int×Int×List UInt8×Bool×Unit)×Unit)=fR za (gN x zd)/\True)/\@ha (List UInt8)=fV (gN x zd)/\@ha Int=fW (gN x zd)/\@ha (List (List UInt8)×List Int×List (List UInt8×Int×Bool×Unit)×List (Int×Int×Int×List UInt8×Bool×Unit)×Unit)=fR za (gN x zd)/\True)/\∀E:Nat,(E<=ze/\∀(j:Nat),j<E->(cR (aL f (nth aG zd j).1).1).2=0)->((decide ((↑E:Int)<(↑ze:Int)))=true->(0<=(↑E:Int)/\(↑E:Int)<(↑ze:Int))/\True/\(True->((!aM.isNil (zg E))=true->True/\zb/\([],zg E,())=zc)/\((!aM.isNil (zg E))=false->True/\((!aM.isNil (zh E))=true->True/\zb/\([],zh E,())=zc)/\((!aM.isNil (zh E))=false->((fun a0 a1 a2 a3 a4:Prop=>a0/\a1/\a2/\a3/\a4/\a4/\a4) (zt E) (zy E) (zw E) (zz E) (zu E)/\(zy E/\(zv E/\zx E/\zu E)/\zz E/\(zx E/\zu E)/\(fun a0:Prop=>a0/\a0) (zu E)/\zu E)/\(fun a0 a1 a2:Prop=>a0/\a1/\a2/\a2/\a2) (zw E) (zz E) (zu E)/\(zz E/\(zx E/\zu E)/\(fun a0:Prop=>a0/\a0) (zu E)/\zu E)/\(fun a0:Prop=>a0/\a0/\a0) (zu E)/\(fun a0:Prop=>a0/\a0) (zu E)/\zu E)/\∀F:Nat,F=E+1->aJ (↑E:Int)->aJ 1->aJ ((↑E:Int)+1)/\∃(x':Nat),(x'<=ze/\∀(j:Nat),j<x'->(cR (aL f (nth aG zd j).1).1).2=0)/\ze-x'<ze-E/\((↑E:Int)+1=(↑x':Int)/\zi F=fV (gN x' zd)/\zk F=fW (gN x' zd)/\zm F=fR za (gN x' zd)/\True)/\zi F=fV (gN x' zd)/\zk F=fW (gN x' zd)/\zm F=fR za (gN x' zd)/\zo/\zp/\zr))))/\((decide ((↑E:Int)<(↑ze:Int)))=false->(gE (zm E)<=1000/\∀(i:Nat),i<gE (zm E)->gE (nth aA (zm E) i).2.1<=1000)/\True/\zb/\((zaa E).1,(zaa E).2,())=zc)))) (by kernel_rfl) ?_
 dsimp -iota -proj -eta only;dsimp only at hp;refine⟨dT,fun h0=>iB (fun h1=>(by exact⟨dT,rfl,by rw[PR h1];rfl⟩)) (fun h1 h2=>⟨(⟨0,⟨hn _,fun j hj=>absurd hj (ho _)⟩,⟨rfl,rfl,rfl,rfl,dT⟩,(by trivial)⟩),fun E q_0=>iL (fun h3=>⟨(by omega),dT,fun h4=>iB (fun h5=>(absurd ((EM h1).2 E (by omega)).1 (dZ h5))) (fun h5=>⟨dT,iB (fun h6=>⟨dT,rfl,by rw[U8 h1 (HN q_0.2 (by omega) (dZ h6)) (dZ h6)]⟩) (fun h6=>⟨⟨(show ∀{a0 a1 a2 a3 a4:Prop},a0->a1->a2->a3->a4->a0/\a1/\a2/\a3/\a4/\a4/\a4 from fun g0 g1 g2 g3 g4=>⟨g0,g1,g2,g3,g4,g4,g4⟩) (⟨?a,⟨(show ∀{a0:Prop},a0->a0/\a0/\a0 from fun g0=>⟨g0,g0,g0⟩) (⟨?b,?c,?d⟩),(show ∀{a0:Prop},a0->a0/\a0 from fun g0=>⟨g0,g0⟩) (⟨?e,?f,?g⟩),⟨?h,?i,?j⟩⟩⟩) ((show ∀{a0 a1 a2 a3 a4:Prop},a0->a1->a2->a3->a4->a0/\a1/\a2/\a3/\a4/\a4 from fun g0 g1 g2 g3 g4=>⟨g0,g1,g2,g3,g4,g4⟩) (⟨?k,⟨(show ∀{a0:Prop},a0->a0/\a0/\a0 from fun g0=>⟨g0,g0,g0⟩) (⟨?l,?m,?n⟩),(show ∀{a0:Prop},a0->a0/\a0 from fun g0=>⟨g0,g0⟩) (⟨?o,?p,?q⟩),⟨?r,?s,?t⟩⟩⟩) (⟨⟨?u,(show ∀{a0:Prop},a0->a0/\a0/\a0 from fun g0=>⟨g0,g0,g0⟩) (⟨?v,?w,?x⟩)⟩,⟨?y,(show ∀{a0:Prop},a0->a0/\a0 from fun g0=>⟨g0,g0⟩) (⟨?z,?a0,?a1⟩)⟩,⟨?a2,?a3,?a4,?a5⟩⟩) (⟨?a6,⟨(show ∀{a0:Prop},a0->a0/\a0 from fun g0=>⟨g0,g0⟩) (⟨?a7,?a8,?a9⟩),⟨?aa,?ab,?ac⟩⟩⟩) (⟨⟨?ad,(show ∀{a0:Prop},a0->a0/\a0 from fun g0=>⟨g0,g0⟩) (⟨?ae,?af,?ag⟩)⟩,⟨?ah,?ai,?aj,?ak⟩⟩) (⟨?al,?am,?an,?ao⟩)) (⟨?ap,⟨(show ∀{a0:Prop},a0->a0/\a0 from fun g0=>⟨g0,g0⟩) (⟨?aq,?ar,?au⟩),⟨?av,?aw,?ax⟩⟩⟩) ((show ∀{a0 a1 a2:Prop},a0->a1->a2->a0/\a1/\a2/\a2 from fun g0 g1 g2=>⟨g0,g1,g2,g2⟩) (⟨?ay,⟨(show ∀{a0:Prop},a0->a0/\a0 from fun g0=>⟨g0,g0⟩) (⟨?az,?b0,?b1⟩),⟨?b2,?b3,?b4⟩⟩⟩) (⟨⟨?b5,(show ∀{a0:Prop},a0->a0/\a0 from fun g0=>⟨g0,g0⟩) (⟨?b6,?b7,?b8⟩)⟩,⟨?b9,?ba,?bb,?bc⟩⟩) (⟨?bd,?be,?bf,?bg⟩)) (⟨?bh,?bi,?bj,?bk⟩),⟨(show ∀{a0 a1 a2 a3 a4:Prop},a0->a1->a2->a3->a4->a0/\a1/\a2/\a3/\a4/\a4 from fun g0 g1 g2 g3 g4=>⟨g0,g1,g2,g3,g4,g4⟩) (⟨?bl,⟨(show ∀{a0:Prop},a0->a0/\a0/\a0 from fun g0=>⟨g0,g0,g0⟩) (⟨?bm,?bn,?bo⟩),(show ∀{a0:Prop},a0->a0/\a0 from fun g0=>⟨g0,g0⟩) (⟨?bp,?bq,?br⟩),⟨?bs,?bt,?bu⟩⟩⟩) (⟨⟨?bv,(show ∀{a0:Prop},a0->a0/\a0/\a0 from fun g0=>⟨g0,g0,g0⟩) (⟨?bw,?bx,?bz⟩)⟩,⟨?c0,(show ∀{a0:Prop},a0->a0/\a0 from fun g0=>⟨g0,g0⟩) (⟨?c1,?c2,?c3⟩)⟩,⟨?c4,?c5,?c6,?c7⟩⟩) (⟨?c8,⟨(show ∀{a0:Prop},a0->a0/\a0 from fun g0=>⟨g0,g0⟩) (⟨?c9,?ca,?cb⟩),⟨?cc,?cd,?ce⟩⟩⟩) (⟨⟨?cf,(show ∀{a0:Prop},a0->a0/\a0 from fun g0=>⟨g0,g0⟩) (⟨?cg,?ch,?ci⟩)⟩,⟨?cj,?ck,?cl,?cm⟩⟩) (⟨?cn,?co,?cp,?cq⟩),⟨⟨⟨?cr,(show ∀{a0:Prop},a0->a0/\a0/\a0 from fun g0=>⟨g0,g0,g0⟩) (⟨?cs,?ct,?cu⟩)⟩,⟨?cv,(show ∀{a0:Prop},a0->a0/\a0 from fun g0=>⟨g0,g0⟩) (⟨?cw,?cx,?cy⟩)⟩,⟨?cz,?d0,?d1,?d2⟩⟩,⟨⟨?d3,(show ∀{a0:Prop},a0->a0/\a0 from fun g0=>⟨g0,g0⟩) (⟨?d4,?d5,?d6⟩)⟩,⟨?d7,?d8,?d9,?da⟩⟩,⟨?db,?dc,?dd,?de⟩⟩,(show ∀{a0 a1 a2:Prop},a0->a1->a2->a0/\a1/\a2/\a2 from fun g0 g1 g2=>⟨g0,g1,g2,g2⟩) (⟨?df,⟨(show ∀{a0:Prop},a0->a0/\a0 from fun g0=>⟨g0,g0⟩) (⟨?dg,?dh,?di⟩),⟨?dj,?dk,?dl⟩⟩⟩) (⟨⟨?dm,(show ∀{a0:Prop},a0->a0/\a0 from fun g0=>⟨g0,g0⟩) (⟨?dn,?dp,?dq⟩)⟩,⟨?dr,?ds,?dt,?du⟩⟩) (⟨?dv,?dw,?dx,?dy⟩),⟨⟨⟨?dz,(show ∀{a0:Prop},a0->a0/\a0 from fun g0=>⟨g0,g0⟩) (⟨?e0,?e1,?e2⟩)⟩,⟨?e3,?e4,?e5,?e6⟩⟩,⟨?e7,?e8,?e9,?ea⟩⟩,(show ∀{a0:Prop},a0->a0/\a0 from fun g0=>⟨g0,g0⟩) (⟨?eb,?ec,?ed,?ee⟩),⟨?ef,?eg,?eh,?ei⟩⟩,(show ∀{a0 a1 a2:Prop},a0->a1->a2->a0/\a1/\a2/\a2/\a2 from fun g0 g1 g2=>⟨g0,g1,g2,g2,g2⟩) (⟨?ej,⟨(show ∀{a0:Prop},a0->a0/\a0 from fun g0=>⟨g0,g0⟩) (⟨?ek,?el,?em⟩),⟨?en,?eo,?ep⟩⟩⟩) ((show ∀{a0 a1 a2:Prop},a0->a1->a2->a0/\a1/\a2/\a2 from fun g0 g1 g2=>⟨g0,g1,g2,g2⟩) (⟨?eq,⟨(show ∀{a0:Prop},a0->a0/\a0 from fun g0=>⟨g0,g0⟩) (⟨?er,?es,?et⟩),⟨?eu,?ev,?ew⟩⟩⟩) (⟨⟨?ex,(show ∀{a0:Prop},a0->a0/\a0 from fun g0=>⟨g0,g0⟩) (⟨?ey,?ez,?f0⟩)⟩,⟨?f1,?f2,?f3,?f4⟩⟩) (⟨?f5,?f6,?f7,?f8⟩)) (⟨?f9,?fa,?fb,?fc⟩),⟨(show ∀{a0 a1 a2:Prop},a0->a1->a2->a0/\a1/\a2/\a2 from fun g0 g1 g2=>⟨g0,g1,g2,g2⟩) (⟨?fd,⟨(show ∀{a0:Prop},a0->a0/\a0 from fun g0=>⟨g0,g0⟩) (⟨?fe,?ff,?fg⟩),⟨?fh,?fi,?fj⟩⟩⟩) (⟨⟨?fk,(show ∀{a0:Prop},a0->a0/\a0 from fun g0=>⟨g0,g0⟩) (⟨?fl,?fm,?fn⟩)⟩,⟨?fo,?fp,?fq,?fr⟩⟩) (⟨?fs,?ft,?fu,?fv⟩),⟨⟨⟨?fw,(show ∀{a0:Prop},a0->a0/\a0 from fun g0=>⟨g0,g0⟩) (⟨?fx,?fy,?fz⟩)⟩,⟨?g0,?g1,?g2,?g3⟩⟩,⟨?g4,?g5,?g6,?g7⟩⟩,(show ∀{a0:Prop},a0->a0/\a0 from fun g0=>⟨g0,g0⟩) (⟨?g8,?g9,?ga,?gb⟩),⟨?gc,?gd,?ge,?gf⟩⟩,(show ∀{a0:Prop},a0->a0/\a0/\a0 from fun g0=>⟨g0,g0,g0⟩) (⟨?gg,?gh,?gi,?gj⟩),(show ∀{a0:Prop},a0->a0/\a0 from fun g0=>⟨g0,g0⟩) (⟨?gk,?gl,?gm,?gn⟩),⟨?go,?gp,?gq,?gr⟩⟩,fun F q_1 h7 h8=>⟨(by simp only[aJ,aK]at*;omega),?gs⟩⟩)⟩)⟩) (fun h3=>⟨(by rw[HI (by omega)];exact PW hp.1 fun j hj=>q_0.2 j (by omega)),(by rw[HI (by omega)];exact⟨dT,rfl,S3 h1 (vk fun j hj=>q_0.2 j (by omega))⟩)⟩)⟩)⟩
 case a|b|c|e|f|h|i|k|l|m|o|p|r|s|u|v|w|y|z|a0|a2|a3|a4|a6|a7|a8|aa|ab|ad|ae|af|ah|ai|aj|al|am|an|ap|aq|ar|av|aw|ay|az|b0|b2|b3|b5|b6|b7|b9|ba|bb|bd|be|bf|bh|bi|bj|bl|bm|bn|bp|bq|bs|bt|bv|bw|bx|c0|c1|c2|c4|c5|c6|c8|c9|ca|cc|cd|cf|cg|ch|cj|ck|cl|cn|co|cp|cr|cs|ct|cv|cw|cx|cz|d0|d1|d3|d4|d5|d7|d8|d9|db|dc|dd|df|dg|dh|dj|dk|dm|dn|dp|dr|ds|dt|dv|dw|dx|dz|e0|e1|e3|e4|e5|e7|e8|e9|eb|ec|ed|ef|eg|eh|ej|ek|el|en|eo|eq|er|es|eu|ev|ex|ey|ez|f1|f2|f3|f5|f6|f7|f9|fa|fb|fd|fe|ff|fh|fi|fk|fl|fm|fo|fp|fq|fs|ft|fu|fw|fx|fy|g0|g1|g2|g4|g5|g6|g8|g9|ga|gc|gd|ge|gg|gh|gi|gk|gl|gm|go|gp|gq=>exact⟨rfl,by simp only[fV,fW,fR,List.length_map,hh,hc];have:=hp.1;omega⟩
 case d|g|j|n|q|t|x|a1|a5|a9|ac|ag|ak|ao|au|ax|b1|b4|b8|bc|bg|bk|bo|br|bu|bz|c3|c7|cb|ce|ci|cm|cq|cu|cy|d2|d6|da|de|di|dl|dq|du|dy|e2|e6|ea|ee|ei|em|ep|et|ew|f0|f4|f8|fc|fg|fj|fn|fr|fv|fz|g3|g7|gb|gf|gj|gn|gr=>exact⟨E+1,rfl,⟨zO (by omega),zP (by omega),Cj (by omega),dT⟩,zO (by omega),zP (by omega),Cj (by omega),(by trivial)⟩
 case gs=>
  subst q_1;exact⟨E+1,⟨by omega,jU q_0.2 (aQ.1 ‹_›)⟩,by omega,⟨by omega,rfl,rfl,rfl,dT⟩,rfl,rfl,rfl,(by trivial)⟩
def Tryz.WS:bZ Tryz.prog Tryz.B.eT Tryz.X 48 false (aY Tryz.aU [.d aC,.obj 0] (fun a x=>a.1.2.1.length<=1000/\x.2.1.1.length<=6) Tryz.DN):=
 bG (X:=Tryz.X) Tryz.T9 Tryz.func48 (by kernel_rfl) (fun(a:CD [.d aC,.obj 0]) (x:PD Tryz.aU)=>Tryz.RG a.1 x) (fun(a:CD [.d aC,.obj 0]) (x:PD Tryz.aU) hw hp=>WR a.1 x hw hp)
@[reducible] def Tryz.dN:List Ob:=[.box 167 [.obj 1,.obj 3],.box 152 [.obj 2,.d (.int .i64)],.ext 1 (iU cI),.box 126 [.obj 4,.d (.int .i64),.d (.slice aC)],.box 123 [.obj 5,.obj 6,.obj 7,.d (.int .i64),.d .bool],.row true .str,.row true .str,.tok jr]
@[reducible] def Tryz.sX:List Ob:=[.box 152 [.obj 1,.d (.int .i64)],.ext 1 (iU cI),.box 123 [.obj 3,.obj 4,.obj 5,.d (.int .i64),.d .bool],.row true .str,.row true .str,.tok jr]
def Tryz.LP:List (FuncId×(Bool×aT)):=[(23,Tryz.spZ21)]
def Tryz.RH:bN Tryz.prog Tryz.B Tryz.X Tryz.LP:=
 aP (Tryz.LB) (bR Tryz.bQ)
def Tryz.Bi:List (Alt Tryz.sX [.obj 0,.obj 2]):=[
 {bO:=Tryz.sX,res:=[.gX,.d .err],ok:=fun _ x=>(dP x.2.2).2≠0,out:=fun _ x=>x,ret:=fun _ x=>(aI (dP x.2.2).2,())},
 {bO:=Tryz.sX++[.box 167 [.obj 0,.obj 7],.box 126 [.obj 2,.d (.int .i64),.d (.slice aC)]],res:=[.obj 6,.d .err],ok:=fun _ x=>(dP x.2.2).2=0,out:=fun _ x=>(x.1,x.2.1,x.2.2.1,x.2.2.2.1,x.2.2.2.2.1,x.2.2.2.2.2.1,(),((dP x.2.2).1.1,(dP x.2.2).1.2,()),()),ret:=fun _ _=>(aM.nil,())}]
def VV(n:Int×Unit)(m:List FE×Int×Unit)(d:Dk)(hw:gV [.obj 0,.obj 2] ())(hp:(fun _ x=>cZ x.2.2 1000000/\∀i,i<x.2.2.2.2.1.length->(nth .str x.2.2.2.2.1 i).length=64) () (n,m,d)):(cW Tryz.B Tryz.LP Tryz.f84 [] Tryz.sX [.obj 0,.obj 2] Tryz.Bi () (n,m,d)).holds:=by
 refine holds_of (p:=
  let za:=d.2.2.2.1
  let zb:=za=za
  let zc:=d.2.2.1
  let zd:=(dP d).2
  let ze:=zd≠0
  let zf:=(n,m,d)=(n,m,d)
  let zg:=(aI zd,())
  let zh:=(n,m,d.1,d.2.1,zc,za,(),((dP d).1.1,(dP d).1.2,()),())
  zb/\(cZ d 1000000/\∀(i:Nat),i<gE zc->gE (nth Ty.str zc i)=64)/\(ze->((!aM.isNil (aI zd))=true->zb/\ze/\zf/\zg=zg)/\((!aM.isNil (aI zd))=false->False))/\(zd=0->((!aM.isNil aM.nil)=true->zb/\ze/\zf/\(aM.nil,())=zg)/\((!aM.isNil aM.nil)=false->zb/\zd=0/\zh=zh/\(aM.nil,())=(aM.nil,())))) (by kernel_rfl) ?_
 dsimp -iota -proj -eta only;dsimp only at hp;refine⟨rfl,?a,⟨fun h0=>iB (fun h1 =>?b) (fun h1=>(absurd (aQ.1 h1) h0)),fun h0=>⟨fun h1=>absurd (show false=true from h1) (by decide),fun h1 =>?c⟩⟩⟩
 case a|b|c=>trivial
def Tryz.LQ:bZ Tryz.prog Tryz.B.eT Tryz.X 84 false (aY Tryz.sX [.obj 0,.obj 2] (fun _ x=>cZ x.2.2 1000000/\∀i,i<x.2.2.2.2.1.length->(nth .str x.2.2.2.2.1 i).length=64) Tryz.Bi):=
 bG (X:=Tryz.X) Tryz.RH Tryz.func84 (by kernel_rfl) (fun(a:CD [.obj 0,.obj 2]) (x:PD Tryz.sX)=>[]) (fun(a:CD [.obj 0,.obj 2]) (x:PD Tryz.sX) hw hp=>VV x.1 x.2.1 x.2.2 hw hp)
def Tryz.FK:List (FuncId×(Bool×aT)):=[(44,(false,aY Tryz.aU [.obj 0,.d .str] (fun _ x=>x.2.1.1.length<=6) Tryz.Bh)),(17,(false,aY Tryz.cF [.obj 0,.d aC] (fun a x=>(a.1.2.1.length<=1000000/\a.1.2.2.1.length<=1000000)/\x.1.2.1.length<=99/\0<=(x.1.1:Int)/\(x.1.1:Int)<=1000000000/\cZ x.2 1000000) Tryz.DE))]
def Tryz.KF:bN Tryz.prog Tryz.B Tryz.X Tryz.FK:=
 aP (Tryz.VU) (aP (Tryz.TM) (bR Tryz.bQ))
def Tryz.vL:List (Alt Tryz.dN [.obj 0,.d .str]):=[{bO:=Tryz.dN,res:=[.d .err],out:=fun a x=>((),x.2.1,x.2.2.1,(jO (x.2.1,x.2.2.1,()) x.2.2.2 a.1).1),ret:=fun a x=>(aI (jO (x.2.1,x.2.2.1,()) x.2.2.2 a.1).2,())}]
def RI(s:List UInt8)(n:Int×Unit)(m:List FE×Int×Unit)(r:Int)(o:List (D aC))(d:Dk)(hw:gV [.obj 0,.d .str] (s,()))(hp:(fun _ x=>gI (x.2.1,x.2.2.1,())/\xM x.2.2.2) (s,()) ((),n,m,(r,o,()),d)):(cW Tryz.B Tryz.FK Tryz.f85 [] Tryz.dN [.obj 0,.d .str] Tryz.vL (s,()) ((),n,m,(r,o,()),d)).holds:=by
 refine holds_of (p:=
  let za:=dQ (aL (n,m,())) s
  let zb:=d.2.2.2.1=d.2.2.2.1
  let zc:=((r,o,()),d)
  let zd:=jO (n,m,()) zc s
  let ze:=((),n,m,zd.1)
  let zf:=(aI zd.2,())
  let zg:=kv zc za.1
  let zh:=zg.1.2.2.2.2.1
  gE m.1<=6/\(True->((!aM.isNil (aI za.2))=true->zb/\True/\((),n,m,zc)=ze/\(aI za.2,())=zf)/\((!aM.isNil (aI za.2))=false->zb/\((gE za.1.2.1<=1000000/\gE za.1.2.2.1<=1000000)/\gE o<=99/\0<=r/\r<=1000000000/\cZ d 1000000)/\(True->zh=zh/\True/\((),n,m,zg.1)=ze/\(aI zg.2,())=zf)))) (by kernel_rfl) ?_
 dsimp -iota -proj -eta only;dsimp only at hp;exact⟨hp.1.st.pre.1,fun h0=>iB (fun h1=>(by rw[QH (dZ h1)];exact⟨rfl,dT,rfl,rfl⟩)) (fun h1=>⟨rfl,⟨NL hp.1 (aQ.1 h1),hp.2⟩,fun h2=>(by rw[NK (aQ.1 h1)];exact⟨rfl,dT,rfl,rfl⟩)⟩)⟩
def Tryz.RJ:bZ Tryz.prog Tryz.B.eT Tryz.X 85 false (aY Tryz.dN [.obj 0,.d .str] (fun _ x=>gI (x.2.1,x.2.2.1,())/\xM x.2.2.2) Tryz.vL):=
 bG (X:=Tryz.X) Tryz.KF Tryz.func85 (by kernel_rfl) (fun(a:CD [.obj 0,.d .str]) (x:PD Tryz.dN)=>[]) (fun(a:CD [.obj 0,.d .str]) (x:PD Tryz.dN) hw hp=>RI a.1 x.2.1 x.2.2.1 x.2.2.2.1.1 x.2.2.2.1.2.1 x.2.2.2.2 hw hp)
def Tryz.Jl:List (FuncId×(Bool×aT)):=[(19,(false,aY Tryz.cF [.obj 0,.d .str] (fun _ x=>x.1.2.1.length<=100/\0<=(x.1.1:Int)/\(x.1.1:Int)<=1000000000/\cZ x.2 1000000) Tryz.Be))]
def Tryz.Og:bN Tryz.prog Tryz.B Tryz.X Tryz.Jl:=
 aP (Tryz.VN) (bR Tryz.bQ)
def Tryz.xX:List (Alt Tryz.dN [.obj 0,.d .str]):=[{bO:=Tryz.dN,res:=[.d .err],out:=fun a x=>((),x.2.1,x.2.2.1,(gL x.2.2.2 a.1).1),ret:=fun a x=>(aI (gL x.2.2.2 a.1).2,())}]
def Ua(s:List UInt8)(n:Int×Unit)(m:List FE×Int×Unit)(r:Int)(o:List (D aC))(d:Dk)(hw:gV [.obj 0,.d .str] (s,()))(hp:(fun _ x=>xM x.2.2.2) (s,()) ((),n,m,(r,o,()),d)):(cW Tryz.B Tryz.Jl Tryz.f86 [] Tryz.dN [.obj 0,.d .str] Tryz.xX (s,()) ((),n,m,(r,o,()),d)).holds:=by
 refine holds_of (p:=
  let za:=gL ((r,o,()),d) s
  let zb:=za.1.2.2.2.2.1
  let zc:=((),n,m,za.1)
  let zd:=(aI za.2,())
  d.2.2.2.1=d.2.2.2.1/\(gE o<=100/\0<=r/\r<=1000000000/\cZ d 1000000)/\(True->zb=zb/\True/\zc=zc/\zd=zd)) (by kernel_rfl) ?_
 dsimp -iota -proj -eta only;dsimp only at hp;exact⟨rfl,⟨Nat.le_trans hp.1 (by decide),hp.2⟩,fun h0=>(by trivial)⟩
def Tryz.Ub:bZ Tryz.prog Tryz.B.eT Tryz.X 86 false (aY Tryz.dN [.obj 0,.d .str] (fun _ x=>xM x.2.2.2) Tryz.xX):=
 bG (X:=Tryz.X) Tryz.Og Tryz.func86 (by kernel_rfl) (fun(a:CD [.obj 0,.d .str]) (x:PD Tryz.dN)=>[]) (fun(a:CD [.obj 0,.d .str]) (x:PD Tryz.dN) hw hp=>Ua a.1 x.2.1 x.2.2.1 x.2.2.2.1.1 x.2.2.2.1.2.1 x.2.2.2.2 hw hp)
def Tryz.spZ31:Bool×aT:=(false,aY Tryz.aU [.obj 0,.d .str] (fun _ x=>x.2.1.1.length<=6) Tryz.Bg)
def Tryz.Jm:List (FuncId×(Bool×aT)):=[(69,(false,aY Tryz.cF [.obj 0,.d .str] (fun _ x=>∀i,i<x.1.2.1.length->(nth aC x.1.2.1 i).2.1.length<=1000000/\(nth aC x.1.2.1 i).2.2.1.length<=1000000) Tryz.DF)),(46,Tryz.spZ30),(48,(false,aY Tryz.aU [.d aC,.obj 0] (fun a x=>a.1.2.1.length<=1000/\x.2.1.1.length<=6) Tryz.DN)),(34,Tryz.spZ31)]
def Tryz.Oh:bN Tryz.prog Tryz.B Tryz.X Tryz.Jm:=
 aP (Tryz.WH) (aP (Tryz.Jk) (aP (Tryz.WS) (aP (Tryz.LM) (bR Tryz.bQ))))
def Tryz.xY:List (Alt Tryz.dN [.obj 0,.d .str]):=[{bO:=Tryz.dN,res:=[.d (.slice dF),.d .bool,.d .err],out:=fun _ x=>x,ret:=fun a x=>((kU (x.2.1,x.2.2.1,()) x.2.2.2.1.2.1 a.1).1,(kU (x.2.1,x.2.2.1,()) x.2.2.2.1.2.1 a.1).2.1,aI (kU (x.2.1,x.2.2.1,()) x.2.2.2.1.2.1 a.1).2.2,())}]
def Uc(s:List UInt8)(n:Int×Unit)(m:List FE×Int×Unit)(r:Int)(o:List (D aC))(d:Dk)(hw:gV [.obj 0,.d .str] (s,()))(hp:(fun _ x=>x.2.2.1.1.length<=6/\vC x.2.2.2.1.2.1) (s,()) ((),n,m,(r,o,()),d)):(cW Tryz.B Tryz.Jm Tryz.f52 [] Tryz.dN [.obj 0,.d .str] Tryz.xY (s,()) ((),n,m,(r,o,()),d)).holds:=by
 refine holds_of (p:=
  let za:=d.2.2.2.1=d.2.2.2.1
  let zb:=aL (n,m,())
  let zc:=(fK o s).1
  let zd:=gE m.1<=6
  let ze:=((),n,m,(r,o,()),d)
  let zf:=aI (kz zb zc).2
  let zg:=kU (n,m,()) o s
  let zh:=(zg.1,zg.2.1,aI zg.2.2,())
  let zi:=zd/\(True->za/\True/\ze=ze/\((gH zb s).1,false,aI (gH zb s).2,())=zh)
  za/\(∀(i:Nat),i<gE o->gE (nth aC o i).2.1<=1000000/\gE (nth aC o i).2.2.1<=1000000)/\(True->(((fK o s).2)=true->True/\(True->((fM zb zc)=true->(gE zc.2.1<=1000/\zd)/\(True->za/\True/\ze=ze/\((kz zb zc).1,aM.isNil zf,zf,())=zh))/\((fM zb zc)=false->zi)))/\(((fK o s).2)=false->zi))) (by kernel_rfl) ?_
 dsimp -iota -proj -eta only;dsimp only at hp;refine⟨rfl,hp.2.wide,fun h0=>⟨fun h1=>⟨dT,fun h2=>⟨fun h3=>⟨⟨QI hp.2 h1,hp.1⟩,fun h4=>(by rw[QJ h1 h3,Vl];exact⟨rfl,dT,rfl,rfl⟩)⟩,fun h3=>⟨?a,fun h4=>(by rw[xN fun z=>hf (z.2.symm.trans h3)];exact⟨rfl,dT,rfl,rfl⟩)⟩⟩⟩,fun h1=>⟨?b,fun h2=>(by rw[xN fun z=>hf (z.1.symm.trans h1)];exact⟨rfl,dT,rfl,rfl⟩)⟩⟩⟩
 case a|b=>omega
def Tryz.Jn:bZ Tryz.prog Tryz.B.eT Tryz.X 52 false (aY Tryz.dN [.obj 0,.d .str] (fun _ x=>x.2.2.1.1.length<=6/\vC x.2.2.2.1.2.1) Tryz.xY):=
 bG (X:=Tryz.X) Tryz.Oh Tryz.func52 (by kernel_rfl) (fun(a:CD [.obj 0,.d .str]) (x:PD Tryz.dN)=>[]) (fun(a:CD [.obj 0,.d .str]) (x:PD Tryz.dN) hw hp=>Uc a.1 x.2.1 x.2.2.1 x.2.2.2.1.1 x.2.2.2.1.2.1 x.2.2.2.2 hw hp)
def FL(e:D aC):dL:=[
 (0,fun st=>{X:=Nat,inv:=fun i=>i<=e.2.1.length/\∀j,j<i->(nth aG e.2.1 j).1.length<=20,bX:=fun i=>e.2.1.length-i,bK:=fun i=>[(3,sI i)],keep:=[1]})]
def F2(e:D aC)(hw:fY [aC] e):(cV Tryz.B [] Tryz.f56 (FL e) [aC] [.bool] (fun e y=>y=true->rY e) e).holds:=by
 refine holds_of (p:=
  let za:=false=true->rY e
  let zb:=e.2.1
  let zc:=gE zb
  let zd:=e.2.2.1
  let ze:=fun(E:Nat)=>gE (nth aG zb E).1
  gE e.1<=aK->((decide ((↑(gE e.1):Int) > 20))=true->za)/\((decide ((↑(gE e.1):Int) > 20))=false->zc<=aK->((decide ((↑zc:Int) > 8))=true->za)/\((decide ((↑zc:Int) > 8))=false->gE zd<=aK->((decide ((↑(gE zd):Int) > 40))=true->za)/\((decide ((↑(gE zd):Int) > 40))=false->(∃(x:Nat),(x<=zc/\∀(j:Nat),j<x->gE (nth aG zb j).1<=20)/\(0=(↑x:Int)/\True)/\True)/\∀E:Nat,(E<=zc/\∀(j:Nat),j<E->gE (nth aG zb j).1<=20)->zc<=aK->((decide ((↑E:Int)<(↑zc:Int)))=true->(0<=(↑E:Int)/\(↑E:Int)<(↑zc:Int))/\(ze E<=aK->((decide ((↑(ze E):Int) > 20))=true->za)/\((decide ((↑(ze E):Int) > 20))=false->aJ (↑E:Int)->aJ 1->aJ ((↑E:Int)+1)/\∃(x':Nat),(x'<=zc/\∀(j:Nat),j<x'->gE (nth aG zb j).1<=20)/\zc-x'<zc-E/\((↑E:Int)+1=(↑x':Int)/\True)/\(e.1=e.1/\zb=zb/\zd=zd/\True)/\True)))/\((decide ((↑E:Int)<(↑zc:Int)))=false->true=true->rY e))))) (by kernel_rfl) ?_
 dsimp -iota -proj -eta only;refine fun h0=>iL (fun h1 =>?a) (fun h1 h2=>iL (fun h3 =>?b) (fun h3 h4=>iL (fun h5 =>?c) (fun h5=>⟨?d,fun E q_0 h6=>iL (fun h7=>⟨(by omega),fun h8=>iL (fun h9 =>?e) (fun h9 h10 h11=>⟨(by simp only[aJ,aK]at*;omega),(⟨E+1,⟨by omega,jU q_0.2 (by omega)⟩,by omega,⟨by omega,dT⟩,(by trivial)⟩)⟩)⟩) (fun h7=>(fun _=>⟨by omega,by omega,by omega,fun i hi=>q_0.2 i (by omega)⟩))⟩)))
 case a|b|c|e=>simp_all
 case d=>refine⟨0,?_⟩;(repeat' (first|exact trivial|rfl|omega|assumption|apply And.intro))
def Tryz.qY:bT Tryz.prog Tryz.B.eT Tryz.X 56 [aC] [.bool] (fun _=>True) (fun e y=>y=true->rY e):=
 bW (X:=Tryz.X) (bR Tryz.bQ) Tryz.func56 (by kernel_rfl) (fun x=>FL x) (fun x hw hp=>F2 x hw)
def Tryz.spZ32:Bool×aT:=(true,mW [aC] [.bool] (fun _=>True) (fun e y=>y=true->rY e))
def Tryz.Jo:List (FuncId×(Bool×aT)):=[(56,Tryz.spZ32)]
def Tryz.Oi:bN Tryz.prog Tryz.B Tryz.X Tryz.Jo:=
 aP (fD Tryz.qY) (bR Tryz.bQ)
def FM(l:List (D dB))(m:Int):dL:=[
 (0,fun st=>{X:=Nat×Int,inv:=fun x=>x.1<=l.length/\(0<=x.2/\x.2<=20000)/\∀j,j<x.1->xe (nth dB l j),bX:=fun x=>l.length-x.1,bK:=fun x=>[(6,sI x.1),(5,sI x.2)],keep:=[0]})]
def Jp(l:List (D dB))(m:Int)(hw:fY [.slice dB,.int .i64] (l,m)):(cV (Mw Tryz.B) Tryz.Jo Tryz.f15 (FM l m) [.slice dB,.int .i64] [.bool] (fun x y=>y=true->rv x.1 x.2) (l,m)).holds:=by
 refine holds_of (p:=
  let za:=gE l
  let zb:=false=true->rv l m
  let zc:=fun(E:Nat×Int)=>(↑E.1:Int)<(↑za:Int)
  let zd:=fun(E:Nat×Int)=>0<=(↑E.1:Int)/\zc E
  let ze:=fun(E:Nat×Int)=>gE (nth dB l E.1).2.2.1
  let zf:=fun(E:Nat×Int)=>gE (nth dB l E.1).2.1
  za<=aK->((decide ((↑za:Int) > m))=true->zb)/\((decide ((↑za:Int) > m))=false->(∃(x:Nat×Int),(x.1<=za/\(0<=x.2/\x.2<=20000)/\∀(j:Nat),j<x.1->xe (nth dB l j))/\(0=(↑x.1:Int)/\0=x.2/\True)/\True)/\∀E:Nat×Int,(E.1<=za/\(0<=E.2/\E.2<=20000)/\∀(j:Nat),j<E.1->xe (nth dB l j))->za<=aK->((decide (zc E))=true->zd E/\(ze E<=aK->∀F:Int,F=hg hb (E.2+(↑(ze E):Int))->zd E/\(zf E<=aK->((decide ((↑(zf E):Int) > 100))=true->zb)/\((decide ((↑(zf E):Int) > 100))=false->zd E/\(ze E<=aK->((decide ((↑(ze E):Int) > 1300))=true->zb)/\((decide ((↑(ze E):Int) > 1300))=false->((decide (F > 20000))=true->zb)/\((decide (F > 20000))=false->zd E/\True/\∀G:Bool,(G=true->rY (nth dB l E.1).2.2.2.2.2.1)->((!G)=true->zb)/\((!G)=false->∀I:Int,I=hg hb ((↑E.1:Int)+1)->∃(x':Nat×Int),(x'.1<=za/\(0<=x'.2/\x'.2<=20000)/\∀(j:Nat),j<x'.1->xe (nth dB l j))/\za-x'.1<za-E.1/\(I=(↑x'.1:Int)/\F=x'.2/\True)/\True))))))))/\((decide (zc E))=false->true=true->rv l m))) (by kernel_rfl) ?_
 dsimp -iota -proj -eta only;refine fun h0=>iL (fun h1 =>?a) (fun h1=>⟨(by exact⟨(0,0),⟨by omega,by simp,fun j hj=>by simp only at hj;omega⟩,⟨rfl,rfl,dT⟩,dT⟩),fun E q_0 h2=>iL (fun h3=>⟨?b,fun h4 F q_1=>⟨?c,fun h5=>iL (fun h6 =>?d) (fun h6=>⟨?e,fun h7=>iL (fun h8 =>?f) (fun h8=>iL (fun h9 =>?g) (fun h9=>⟨?h,dT,fun G q_2=>iB (fun h10 =>?i) (fun h10 I q_3 =>?j)⟩))⟩)⟩⟩) (fun h3=>(fun _=>⟨by omega,fun i hi=>q_0.2.2 i (by omega)⟩))⟩)
 case a|d|f|g|i=>simp_all
 case b|c|e|h=>omega
 case j=>
  have hw2:hg hb (E.2+(gE (nth dB l E.1).2.2.1:Int))=E.2+(gE (nth dB l E.1).2.2.1:Int):=lB (by omega) (by omega);have hw3:hg hb ((E.1:Int)+1)=(E.1:Int)+1:=lB (by omega) (by have:(aK:Int)=9223372036854775807:=rfl;omega);exact⟨(E.1+1,_),⟨by omega,by simp only;omega,jU q_0.2.2 ⟨by omega,by omega,by simp_all⟩⟩,by simp only;omega,⟨by simp only;omega,rfl,dT⟩,(by trivial)⟩
def Tryz.xZ:bT Tryz.prog Tryz.B.eT Tryz.X 15 [.slice dB,.int .i64] [.bool] (fun _=>True) (fun x y=>y=true->rv x.1 x.2):=
 bW (B:=(Mw Tryz.B)) (X:=Tryz.X) (bN.wrap Tryz.Oi) Tryz.func15 (by kernel_rfl) (fun x=>FM x.1 x.2) (fun x hw hp=>Jp x.1 x.2 hw)
def Tryz.spZ33:Bool×aT:=(true,mW [.slice dB,.int .i64] [.bool] (fun _=>True) (fun x y=>y=true->rv x.1 x.2))
def Tryz.spZ34:Bool×aT:=(false,aY [] [] (fun _ _=>True) Tryz.DI)
def Tryz.spZ35:Bool×aT:=(false,aY Tryz.aU [.obj 0,.d .str,.d .str] (fun _ x=>x.2.1.1.length<=6/\0<=x.1.1/\x.1.1<=1000000) Tryz.vI)
def Tryz.spZ36:Bool×aT:=(false,aY Tryz.aU [.obj 0,.d .str] (fun _ _=>True) Tryz.tB)
def Tryz.FN:List (FuncId×(Bool×aT)):=[(76,Tryz.spZ0),(99,Tryz.spZ1),(21,Tryz.spZ2),(56,Tryz.spZ32),(15,Tryz.spZ33),(29,Tryz.spZ34),(47,Tryz.spZ24),(30,Tryz.spZ35),(41,Tryz.spZ36)]
def Tryz.KG:bN Tryz.prog Tryz.B Tryz.X Tryz.FN:=
 aP (aE Tryz.jm) (aP (aE Tryz.fH) (aP (aE Tryz.im) (aP (fD Tryz.qY) (aP (fD Tryz.xZ) (aP (Tryz.LD) (aP (Tryz.sh) (aP (Tryz.Fs) (aP (Tryz.CP) (bR Tryz.bQ)))))))))
def Tryz.LR(l:List (D dB))(f:dA):dL:=[(0,fun st=>{X:=Nat,inv:=fun i=>i<=l.length,bX:=fun i=>l.length-i,bK:=fun i=>[(4,sI i)],keep:=[0,1],aF:=fun i=>[(0,.cells 152 [.eQ 1,.d (.int .i64) (js f (l.take i)).1.1]),(1,.ext 1 (iU cI) (js f (l.take i)).2.1)],gY:=[0,1]})]
def Tryz.Bj:List (Alt Tryz.aU [.obj 0,.d (.slice dB)]):=[{bO:=Tryz.aU,res:=[],out:=fun a x=>js x a.1,ret:=fun _ _=>()}]
def VW(l:List (D dB))(f:dA)(hw:gV [.obj 0,.d (.slice dB)] (l,()))(hp:(fun _ x=>dD x) (l,()) f):(cW Tryz.B Tryz.FN Tryz.f40 (Tryz.LR l f) Tryz.aU [.obj 0,.d (.slice dB)] Tryz.Bj (l,()) f).holds:=by
 refine holds_of (p:=
  let za:=gE l
  let zb:=C.eQ 1=C.eQ 1
  let zc:=fun(E:Nat)=>0<=(↑E:Int)/\(↑E:Int)<(↑za:Int)
  let zd:=fun(E:Nat)=>js f (gN E l)
  let ze:=aJ 1
  let zf:=fun(E:Nat)=>(↑E:Int)+1
  let zg:=fun(E:Nat)=>(cJ (zd E) (nth dB l E).2.1 (nth dB l E).2.2.1).1
  let zh:=fun(E:Nat)=>(fE (zd E) (nth dB l E).2.1).1
  (∃(x:Nat),x<=za/\(0=(↑x:Int)/\True)/\(zb/\f.1.1=(js f (gN x l)).1.1/\True)/\f.2.1=(js f (gN x l)).2.1/\True)/\∀E:Nat,E<=za->za<=aK->((decide ((↑E:Int)<(↑za:Int)))=true->zc E/\(((nth dB l E).1 == [119,114,105,116,101])=true->zc E/\zc E/\(gE (zd E).2.1.1<=6/\0<=(zd E).1.1/\(zd E).1.1<=1000000)/\(True->aJ (↑E:Int)->ze->aJ (zf E)/\∃(x':Nat),x'<=za/\za-x'<za-E/\(zf E=(↑x':Int)/\True)/\(zb/\(zg E).1.1=(js f (gN x' l)).1.1/\True)/\(zg E).2.1=(js f (gN x' l)).2.1/\True))/\(((nth dB l E).1 == [119,114,105,116,101])=false->zc E/\(((nth dB l E).1 == [114,101,109,111,118,101])=true->zc E/\True/\(True->aJ (↑E:Int)->ze->aJ (zf E)/\∃(x':Nat),x'<=za/\za-x'<za-E/\(zf E=(↑x':Int)/\True)/\(zb/\(zh E).1.1=(js f (gN x' l)).1.1/\True)/\(zh E).2.1=(js f (gN x' l)).2.1/\True))/\(((nth dB l E).1 == [114,101,109,111,118,101])=false->aJ (↑E:Int)->ze->aJ (zf E)/\∃(x':Nat),x'<=za/\za-x'<za-E/\(zf E=(↑x':Int)/\True)/\(zb/\(zd E).1.1=(js f (gN x' l)).1.1/\True)/\(zd E).2.1=(js f (gN x' l)).2.1/\True)))/\((decide ((↑E:Int)<(↑za:Int)))=false->True/\zd E=js f l/\()=())) (by kernel_rfl) ?_
 dsimp -iota -proj -eta only;refine⟨(⟨0,by omega,⟨rfl,dT⟩,⟨rfl,rfl,dT⟩,rfl,dT⟩),fun E q_0 h0=>iL (fun h1=>⟨?a,iQ (fun h2=>⟨?b,?c,((dD.done _ hp).pre),fun h3 h4 h5=>⟨?d,(by exact⟨E+1,by omega,by omega,⟨by omega,dT⟩,by rw[u7 (by omega),JV (by unfold rZ;assumption)];exact⟨⟨rfl,rfl,dT⟩,rfl,dT⟩⟩)⟩⟩) (fun h2=>⟨?e,iQ (fun h3=>⟨?f,dT,fun h4 h5 h6=>⟨?g,(by exact⟨E+1,by omega,by omega,⟨by omega,dT⟩,by rw[u7 (by omega),Hs (by unfold rZ;assumption) (by unfold tZ;assumption)];exact⟨⟨rfl,rfl,dT⟩,rfl,dT⟩⟩)⟩⟩) (fun h3 h4 h5=>⟨?h,(by exact⟨E+1,by omega,by omega,⟨by omega,dT⟩,by rw[u7 (by omega),MH (by unfold rZ;assumption) (by unfold tZ;assumption)];exact⟨⟨rfl,rfl,dT⟩,rfl,dT⟩⟩)⟩)⟩)⟩) (fun h1=>(by rw[hk (by omega)];exact⟨dT,rfl,rfl⟩))⟩
 case a|b|c|e|f=>omega
 case d|g|h=>simp only[aJ,aK]at*;omega
def Tryz.VX:bZ Tryz.prog Tryz.B.eT Tryz.X 40 false (aY Tryz.aU [.obj 0,.d (.slice dB)] (fun _ x=>dD x) Tryz.Bj):=
 bG (X:=Tryz.X) Tryz.KG Tryz.func40 (by kernel_rfl) (fun(a:CD [.obj 0,.d (.slice dB)]) (x:PD Tryz.aU)=>Tryz.LR a.1 x) (fun(a:CD [.obj 0,.d (.slice dB)]) (x:PD Tryz.aU) hw hp=>VW a.1 x hw hp)
def Tryz.spZ37:Bool×aT:=(false,aY Tryz.sX [.obj 0,.obj 2] (fun _ x=>cZ x.2.2 1000000/\∀i,i<x.2.2.2.2.1.length->(nth .str x.2.2.2.2.1 i).length=64) Tryz.Bi)
def Tryz.spZ38:Bool×aT:=(false,aY Tryz.dN [.obj 0,.d .str] (fun _ x=>x.2.2.1.1.length<=6/\vC x.2.2.2.1.2.1) Tryz.xY)
def Tryz.Jq:List (FuncId×(Bool×aT)):=[(76,Tryz.spZ0),(99,Tryz.spZ1),(21,Tryz.spZ2),(14,(false,aY [] [] (fun _ _=>True) Tryz.tA)),(29,Tryz.spZ34),(30,Tryz.spZ35),(41,Tryz.spZ36),(84,Tryz.spZ37),(52,Tryz.spZ38)]
def Tryz.Oj:bN Tryz.prog Tryz.B Tryz.X Tryz.Jq:=
 aP (aE Tryz.jm) (aP (aE Tryz.fH) (aP (aE Tryz.im) (aP (Tryz.N0) (aP (Tryz.LD) (aP (Tryz.Fs) (aP (Tryz.CP) (aP (Tryz.LQ) (aP (Tryz.Jn) (bR Tryz.bQ)))))))))
def Tryz.x4:List (Alt [] []):=[{bO:=Tryz.dN,res:=[.obj 1,.obj 0,.obj 4,.d .bool],out:=fun _ _=>((),IC.1,IC.2.1,jl),ret:=fun _ _=>(true,())}]
def Ud  (hw:gV [] ()):(cW Tryz.B Tryz.Jq Tryz.f50 [] [] [] Tryz.x4 () ()).holds:=by
 refine holds_of (p:=
  let za:=(iR (qV (112:Int))).1
  let zb:=za.2.2.2.1=za.2.2.2.1
  let zc:=(dP za).2
  let zd:=gE (@ha FE)<=6/\(0:Int)<=(0:Int)/\(0:Int)<=(1000000:Int)
  let ze:=!aM.isNil (aI (0:Int))
  let zf:=[(122:UInt8),122]
  let zg:=((0:Int)+(1:Int),())
  let zh:=eS cI (@ha FE) zf ([(119:UInt8),111,114,100,32,53,10,98,97,115,101,32,48,32,51,10],zg) (0:Int)
  let zi:=(dP za).1.2
  let zj:=(mQ cI (@ha FE) zf (0:Int),())
  let zk:=kU (zg,(zh,zj),()) zi zf
  True/\(True->True/\(True->((!true)=true->False)/\((!true)=false->zb/\(cZ za 1000000/\∀(i:Nat),i<gE za.2.2.1->gE (nth Ty.str za.2.2.1 i)=64)/\(zc≠(0:Int)->((!aM.isNil (aI zc))=true->False)/\((!aM.isNil (aI zc))=false->zd/\(True->(ze=true->False)/\(ze=false->False))))/\(zc=(0:Int)->((!aM.isNil aM.nil)=true->False)/\((!aM.isNil aM.nil)=false->zd/\(True->(ze=true->False)/\(ze=false->zb/\(gE zh<=6/\vC zi)/\(True->((!aM.isNil (aI zk.2.2))=true->False)/\((!aM.isNil (aI zk.2.2))=false->((zk.2.1)=true->False)/\((zk.2.1)=false->gE zk.1<=aK->(((↑(gE zk.1):Int) != (1:Int))=true->False)/\(((↑(gE zk.1):Int) != (1:Int))=false->True/\(True->(ze=true->False)/\(ze=false->zb/\True/\((),zg,(fU cI zh zf,zj),((dP za).1.1,zi,()),za)=((),zg,(fU cI (eS cI (@ha FE) zf (AT,zg) (0:Int)) zf,zj),jl)/\(true,())=(true,()))))))))))))))) (by kernel_rfl) ?_
 dsimp -iota -proj -eta only;refine⟨dT,fun h0=>⟨dT,fun h1=>⟨fun h2=>absurd (show false=true from h2) (by decide),fun h2=>⟨rfl,⟨jE.vB,jE.sec⟩,⟨fun h3=>iB (fun h4 =>?a) (fun h4=>⟨?b,fun h5=>⟨fun h6=>absurd (show false=true from h6) (by decide),fun h6 =>?c⟩⟩),fun h3=>⟨fun h4=>absurd (show false=true from h4) (by decide),fun h4=>⟨?d,fun h5=>⟨fun h6=>absurd (show false=true from h6) (by decide),fun h6=>⟨rfl,⟨Vo,vW.Wy⟩,fun h7=>iB (fun h8=>(hf ((congrArg (fun z:List (D dF)×Bool×Int=>(aI z.2.2).isNil) DB).symm.trans h8))) (fun h8=>⟨fun h9=>(hf ((congrArg (fun z:List (D dF)×Bool×Int=>z.2.1) DB).symm.trans h9)),fun h9 h10=>iN (fun h11=>(absurd (congrArg (fun z:List (D dF)×Bool×Int=>(z.1.length:Int)) DB) h11)) (fun h11=>⟨dT,fun h12=>⟨fun h13=>absurd (show false=true from h13) (by decide),fun h13=>⟨rfl,dT,congrArg (fun z=>((),IC.1,IC.2.1,z)) z6,rfl⟩⟩⟩)⟩)⟩⟩⟩⟩⟩⟩⟩⟩⟩
 case a|c=>exact absurd jE.DA ‹_›
 case b|d=>trivial
def Tryz.Ue:bZ Tryz.prog Tryz.B.eT Tryz.X 50 false (aY [] [] (fun _ _=>True) Tryz.x4):=
 bG (X:=Tryz.X) Tryz.Oj Tryz.func50 (by kernel_rfl) (fun(a:CD []) (x:PD [])=>[]) (fun(a:CD []) (x:PD []) hw hp=>Ud  hw)
def Tryz.LS:List (FuncId×(Bool×aT)):=[(85,(false,aY Tryz.dN [.obj 0,.d .str] (fun _ x=>gI (x.2.1,x.2.2.1,())/\xM x.2.2.2) Tryz.vL)),(86,(false,aY Tryz.dN [.obj 0,.d .str] (fun _ x=>xM x.2.2.2) Tryz.xX)),(84,Tryz.spZ37),(40,(false,aY Tryz.aU [.obj 0,.d (.slice dB)] (fun _ x=>dD x) Tryz.Bj))]
def Tryz.RL:bN Tryz.prog Tryz.B Tryz.X Tryz.LS:=
 aP (Tryz.RJ) (aP (Tryz.Ub) (aP (Tryz.LQ) (aP (Tryz.VX) (bR Tryz.bQ))))
def Tryz.LU:dL:=[
 (200000,fun st=>{X:=Nat×dA×Sh,inv:=fun x=>x.1<=(cU (.slice dB) st 3).length/\nq x.2.1 x.2.2 x.1,bX:=fun x=>(cU (.slice dB) st 3).length-x.1,bK:=fun x=>[(9,sI x.1)],keep:=[0,2,3,8],aO:=Tryz.dN,refs:=[(0,1),(1,0),(2,4)],stay:=[1,4],pd:=fun x=>((),x.2.1.1,x.2.1.2.1,x.2.2)})]
def Tryz.FO:List (FuncId×(Bool×aT)):=[(37,(true,cB [.slice (.int .i64),.slice (.int .i64)] [.bool] (fun _=>True) (fun x=>mG x.1 x.2)))]
def Tryz.KH:bN Tryz.prog Tryz.B Tryz.X Tryz.FO:=
 aP (aE Tryz.DL) (bR Tryz.bQ)
def FP(a:List (D dF))(b:List (D dF)):dL:=[
 (0,fun st=>{X:=Nat,inv:=fun i=>i<=a.length,bX:=fun i=>a.length-i,bK:=fun i=>[(5,sI i)],keep:=[0,1]})]
def Jr(a:List (D dF))(b:List (D dF))(hw:fY [.slice dF,.slice dF] (a,b)):(cV Tryz.B Tryz.FO Tryz.f42 (FP a b) [.slice dF,.slice dF] [.bool] (fun x y=>x.1=x.2->y=true) (a,b)).holds:=by
 refine holds_of (p:=
  let za:=gE a
  let zb:=(↑(gE b):Int)
  let zc:=a=b->false=true
  let zd:=fun(E:Nat)=>0<=(↑E:Int)/\(↑E:Int)<(↑za:Int)
  let ze:=fun(E:Nat)=>0<=(↑E:Int)/\(↑E:Int)<zb
  za<=aK->gE b<=aK->(((↑za:Int) != zb)=true->zc)/\(((↑za:Int) != zb)=false->(∃(x:Nat),x<=za/\(0=(↑x:Int)/\True)/\True)/\∀E:Nat,E<=za->za<=aK->((decide ((↑E:Int)<(↑za:Int)))=true->zd E/\ze E/\True/\zd E/\ze E/\((!(nth dF a E).1 == (nth dF b E).1)=true->zc)/\((!(nth dF a E).1 == (nth dF b E).1)=false->zd E/\ze E/\(((nth dF a E).2.1 != (nth dF b E).2.1)=true->zc)/\(((nth dF a E).2.1 != (nth dF b E).2.1)=false->((!mG (nth dF a E).2.2.1 (nth dF b E).2.2.1)=true->zc)/\((!mG (nth dF a E).2.2.1 (nth dF b E).2.2.1)=false->aJ (↑E:Int)->aJ 1->aJ ((↑E:Int)+1)/\∃(x':Nat),x'<=za/\za-x'<za-E/\((↑E:Int)+1=(↑x':Int)/\True)/\True))))/\((decide ((↑E:Int)<(↑za:Int)))=false->a=b->true=true))) (by kernel_rfl) ?_
 dsimp -iota -proj -eta only;refine fun h0 h1=>iN (fun h2=>(by intro e;subst e;exact absurd rfl h2)) (fun h2=>⟨(⟨0,by omega,⟨rfl,dT⟩,dT⟩),fun E q_0 h3=>iL (fun h4=>⟨?a,?b,dT,?c,?d,⟨fun h5 =>?e,fun h5=>⟨?f,?g,iN (fun h6 =>?h) (fun h6=>iB (fun h7 =>?i) (fun h7 h8 h9=>⟨?j,?k⟩))⟩⟩⟩) (fun h4=>(by simp_all))⟩)
 case a|b|c|d=>omega
 case e=>
  simp only[bl,reduceCtorEq]at h5;intro e;subst e;exact absurd rfl h5
 case f|g=>
  simp only[bl,reduceCtorEq]at h5;omega
 case h=>
  simp only[bl,reduceCtorEq]at h5;intro e;subst e;exact absurd rfl h6
 case i=>
  simp only[bl,reduceCtorEq]at h5;intro e;subst e;simp[mG]at h7
 case j=>
  simp only[bl,reduceCtorEq]at h5;simp only[aJ,aK]at*;omega
 case k=>
  simp only[bl,reduceCtorEq]at h5;exact⟨E+1,by omega,by omega,⟨by omega,dT⟩,(by trivial)⟩
def Tryz.Js:bT Tryz.prog Tryz.B.eT Tryz.X 42 [.slice dF,.slice dF] [.bool] (fun _=>True) (fun x y=>x.1=x.2->y=true):=
 bW (X:=Tryz.X) Tryz.KH Tryz.func42 (by kernel_rfl) (fun x=>FP x.1 x.2) (fun x hw hp=>Jr x.1 x.2 hw)
end Go.Proofs.YtgokjhhcfemnhacGreatDoor

