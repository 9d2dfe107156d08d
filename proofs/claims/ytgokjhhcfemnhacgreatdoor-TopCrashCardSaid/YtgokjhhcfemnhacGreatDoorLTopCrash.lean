/- A part of the proof that the law TopCrashCard holds of the given program: facts that are used there. -/
import Derived.Test.YtgokjhhcfemnhacGreatDoorPart3
import Derived.Test.YtgokjhhcfemnhacGreatDoorRows
import Derived.Test.YtgokjhhcfemnhacGreatDoorTie
import Derived.Test.YtgokjhhcfemnhacGreatDoorCards
import Derived.LaidMore
set_option linter.unusedSimpArgs false
set_option linter.unusedVariables false
set_option maxRecDepth 100000
set_option maxHeartbeats 4000000
set_option linter.defProp false
noncomputable section
open True renaming intro->dc
open List renaming length->dd,nil->ed,map->eh,take->ek
open Nat renaming le_trans->dn,le_of_succ_le->dp,zero_le->ez
open Prod renaming snd->dT,fst->ef
open Bool renaming noConfusion->et
open Go.Proofs.YtgokjhhcfemnhacGreatDoor.Rows renaming topCrashRow->ew,topCrashSpec->e1
open Go.Lib.laidMet renaming reads->e0
open Go.MakeChecks renaming laidMetH_plain->e2
open Option.some renaming inj->e3
namespace Go.Proofs.YtgokjhhcfemnhacGreatDoor
open Go.Vg Go.Mrl
def Tryz.spZ27:Bool×bA:=(false,bF [] [] (fun _ _=>True) Tryz.po)
def Tryz.spZ28:Bool×bA:=(false,bF Tryz.bE [.obj 0,.d aA] (fun a x=>(a.1.2.1.length<=1000000/\a.1.2.2.1.length<=1000000)/\x.1.2.1.length<=99/\0<=(x.1.1:Int)/\(x.1.1:Int)<=1000000000/\bO x.2 1000000) Tryz.yi)
def Tryz.spZ29:Bool×bA:=(false,bF Tryz.bE [.obj 0] (fun _ x=>x.1.2.1.length<=1000000) Tryz.sW)
def Tryz.KQ:List (FuncId×(Bool×bA)):=[(76,Tryz.spZ0),(99,Tryz.spZ1),(21,Tryz.spZ2),(90,Tryz.spZ9),(65,Tryz.spZ21),(91,Tryz.spZ10),(16,Tryz.spZ22),(63,Tryz.spZ20),(64,Tryz.spZ19),(22,Tryz.spZ23),(54,Tryz.spZ24),(14,Tryz.spZ27),(17,Tryz.spZ28),(69,(false,bF Tryz.bE [.obj 0,.d .str] (fun _ x=>∀i,i<x.1.2.1.length->(nth aA x.1.2.1 i).2.1.length<=1000000/\(nth aA x.1.2.1 i).2.2.1.length<=1000000) Tryz.yj)),(53,Tryz.spZ29),(23,Tryz.spZ25)]
theorem Tryz.LM:bU Tryz.prog Tryz.B Tryz.X Tryz.KQ:=
 aU (aK Tryz.my) (aU (aK Tryz.iy) (aU (aK Tryz.lA) (aU (Tryz.nn) (aU (Tryz.vI) (aU (Tryz.np) (aU (Tryz.ye) (aU (Tryz.q8) (aU (Tryz.kK) (aU (Tryz.mN) (aU (Tryz.yf) (aU (Tryz.xx) (aU (Tryz.C0) (aU (Tryz.MC) (aU (Tryz.C2) (aU (Tryz.ym) (cN Tryz.cL))))))))))))))))
theorem GF  (hw:gq [] ()):(eC Tryz.B Tryz.KQ Tryz.f13 [] [] [.bool] (fun x y=>y=(fun _=>true) x) ()).holds:=by
 refine holds_of (p:=
  let za:=false=true
  let zb:=(fm (nw (112:Int))).1
  let zc:=[([(97:UInt8)],(1:Int),(0:Int),())]
  let zd:=bV zb (2:Int) (@ed (List UInt8×List (List UInt8×Int×Int×Unit)×List (Int×Int×Int×Unit)×Unit)++[([(97:UInt8)],zc,@ed (Int×Int×Int×Unit),())])
  let ze:=zd.1.2.2.2.1
  let zf:=(aX zd.1).2
  let zg:=(aX zd.1).1.2
  let zh:=dd (dE zg)
  True/\(True->((!true)=true->za)/\((!true)=false->zb.2.2.2.1=zb.2.2.2.1/\((dd zc<=1000000/\dd (@ed (Int×Int×Int×Unit))<=1000000)/\dd (@ed (List UInt8×List (List UInt8×Int×Int×Unit)×List (Int×Int×Int×Unit)×Unit))<=99/\(0:Int)<=(2:Int)/\(2:Int)<=(1000000000:Int)/\bO zb 1000000)/\(True->((!aQ.isNil (aJ zd.2))=true->za)/\((!aQ.isNil (aJ zd.2))=false->ze=ze/\(bO zd.1 1000000/\∀(i:Nat),i<dd zd.1.2.2.1->dd (nth Ty.str zd.1.2.2.1 i)=64)/\(zf≠(0:Int)->((aQ.isNil (aJ zf))=true->False)/\((aQ.isNil (aJ zf))=false->za))/\(zf=(0:Int)->((aQ.isNil aQ.nil)=true->ze=ze/\dd zg<=1000000/\(True->zh<=aN->((↑zh:Int) == (1:Int))=true))/\((aQ.isNil aQ.nil)=false->za))))))) (by kernel_rfl) ?_
 dsimp -iota -proj -eta only;refine⟨dc,fun h0=>⟨fun h1=>absurd (show false=true from h1) (by decide),fun h1=>⟨rfl,(⟨⟨by decide,by decide⟩,by decide,by decide,by decide,jU.fJ⟩),fun h2=>iB (fun h3=>(absurd hU.1 (cJ h3))) (fun h3=>⟨rfl,⟨hU.2.fJ,hU.2.sec⟩,⟨fun h4=>⟨fun h5 =>?a,fun h5 =>?b⟩,fun h4=>⟨fun h5=>⟨rfl,hU.2.M6,fun h6 h7=>((congrArg (fun z:List (D aA)=>(((dE z).length:Int) == 1)) hU.2.ja).trans (by rw[hU.2.list];rfl))⟩,fun h5=>absurd (show true=false from h5) (by decide)⟩⟩⟩)⟩⟩⟩
 case a|b=>exact absurd hU.2.fA h4
theorem Tryz.GG:cG Tryz.prog Tryz.B.eT Tryz.X 13 [] [.bool] (fun _=>True) (fun x y=>y=(fun _=>true) x):=
 dk (X:=Tryz.X) Tryz.LM Tryz.func13 (by kernel_rfl) (fun _=>[]) (fun x hw hp=>GF  hw)
def Tryz.Ah:List (FuncId×(Bool×bA)):=[(45,(true,mn [aA,aA] [.bool] (fun _=>True) (fun x y=>x.1=x.2->y=true)))]
theorem Tryz.D6:bU Tryz.prog Tryz.B Tryz.X Tryz.Ah:=
 aU (gi Tryz.C9) (cN Tryz.cL)
def Ai(a:List (D aA))(b:List (D aA)):eo:=[
 (0,fun st=>{X:=Nat,inv:=fun i=>i<=a.length,dx:=fun i=>a.length-i,bX:=fun i=>[(5,sI i)],keep:=[0,1]})]
theorem Dd(a:List (D aA))(b:List (D aA))(hw:gq [.slice aA,.slice aA] (a,b)):(eC Tryz.B Tryz.Ah Tryz.f25 (Ai a b) [.slice aA,.slice aA] [.bool] (fun x y=>x.1=x.2->y=true) (a,b)).holds:=by
 refine holds_of (p:=
  let za:=dd a
  let zb:=(↑(dd b):Int)
  let zc:=a=b->false=true
  za<=aN->dd b<=aN->(((↑za:Int) != zb)=true->zc)/\(((↑za:Int) != zb)=false->(∃(x:Nat),x<=za/\(0=(↑x:Int)/\True)/\True)/\∀F:Nat,F<=za->za<=aN->((decide ((↑F:Int)<(↑za:Int)))=true->(0<=(↑F:Int)/\(↑F:Int)<(↑za:Int))/\(0<=(↑F:Int)/\(↑F:Int)<zb)/\True/\∀G:Bool,(nth aA a F=nth aA b F->G=true)->((!G)=true->zc)/\((!G)=false->aR (↑F:Int)->aR 1->aR ((↑F:Int)+1)/\∃(x':Nat),x'<=za/\za-x'<za-F/\((↑F:Int)+1=(↑x':Int)/\True)/\True))/\((decide ((↑F:Int)<(↑za:Int)))=false->a=b->true=true))) (by kernel_rfl) ?_
 dsimp -iota -proj -eta only;refine fun h0 h1=>iN (fun h2=>(by intro e;subst e;exact absurd rfl h2)) (fun h2=>⟨(⟨0,ez _,⟨rfl,dc⟩,(by trivial)⟩),fun F q_0 h3=>iL (fun h4=>⟨?a,?b,dc,fun G q_1=>iB (fun h5=>(by intro e;subst e;exact et ((q_1 rfl).symm.trans h5))) (fun h5 h6 h7=>⟨(by simp only[aR,aN]at*;omega),(⟨F+1,by omega,by omega,⟨by omega,dc⟩,(by trivial)⟩)⟩)⟩) (fun h4=>(by simp_all))⟩)
 case a|b=>omega
theorem Tryz.De:cG Tryz.prog Tryz.B.eT Tryz.X 25 [.slice aA,.slice aA] [.bool] (fun _=>True) (fun x y=>x.1=x.2->y=true):=
 dk (X:=Tryz.X) Tryz.D6 Tryz.func25 (by kernel_rfl) (fun x=>Ai x.1 x.2) (fun x hw hp=>Dd x.1 x.2 hw)
def Tryz.EX:List (FuncId×(Bool×bA)):=[(58,(false,fS Tryz.B Tryz.yg Tryz.f58 [])),(59,Tryz.spZ13)]
theorem Tryz.IV:bU Tryz.prog Tryz.B Tryz.X Tryz.EX:=
 aU (fp Tryz.z7 Tryz.func58 (by kernel_rfl) []) (aU (aK Tryz.sV) (cN Tryz.cL))
def Tryz.IW:List (FuncId×(Bool×bA)):=[(53,Tryz.spZ29),(69,(false,fS Tryz.B Tryz.EX Tryz.f69 []))]
theorem Tryz.Kp:bU Tryz.prog Tryz.B Tryz.X Tryz.IW:=
 aU (Tryz.C2) (aU (fp Tryz.IV Tryz.func69 (by kernel_rfl) []) (cN Tryz.cL))
def Tryz.IX(r:Int)(o:List (D aA))(d:Dk):eo:=[
 (0,fun st=>{X:=Nat,inv:=fun i=>i<=(dE o).length,dx:=fun i=>(dE o).length-i,bX:=fun i=>[(5,sI i),(3,.s (.one (.app aA (((dE o).take i).map fun s=>(gz o s).1) (dO st 3))))],aC:=fun i=>[(dO st 3,.tok aA (((dE o).take i).map fun s=>(gz o s).1))],keep:=[0,2,4],jq:=[dO st 3]})]
def Tryz.yt:List (Alt Tryz.bE [.obj 0]):=[{bH:=Tryz.bE,res:=[.d (.slice aA)],out:=fun _ x=>x,ret:=fun _ x=>(df x.1.2.1,())}]
theorem LN(r:Int)(o:List (D aA))(d:Dk)(hw:gr [.obj 0] ())(hp:(fun _ x=>x.1.2.1.length<=1000/\∀i,i<x.1.2.1.length->(nth aA x.1.2.1 i).2.1.length<=1000000/\(nth aA x.1.2.1 i).2.2.1.length<=1000000) () ((r,o,()),d)):(dW (iR Tryz.B [28]) Tryz.IW Tryz.f24 (Tryz.IX r o d) Tryz.bE [.obj 0] Tryz.yt () ((r,o,()),d)).holds:=by
 refine holds_of (p:=
  let za:=d.2.2.2.1=d.2.2.2.1
  let zb:=dd o
  let zc:=dE o
  let zd:=dd zc
  let ze:=fun(s:aF)=>(gz o s).1
  let zf:=fun(F:Nat)=>(↑F:Int)
  let zg:=fun(F:Nat)=>zf F<(↑(dd zc):Int)
  let zh:=fun(F:Nat)=>nth Ty.str zc F
  let zi:=fun(G:Nat)=>0<=zf G/\zf G<(↑zb:Int)
  let zj:=fun(F:Nat)=>eh ze (ek F zc)
  let zk:=fun(F:Nat)=>zj F=zj F
  let zl:=[(@ed UInt8,@ed (List UInt8×Int×Int×Unit),@ed (Int×Int×Int×Unit),())]
  let zm:=aR 1
  let zn:=fun(F:Nat)=>zf F+1
  let zo:=C.ref 1 0
  let zp:=(zo=zo/\r=r/\o=o/\True)/\(C.aM 2=C.aM 2/\C.aM 3=C.aM 3/\za/\d.1.1=d.1.1/\d.1.2.1=d.1.2.1/\True)/\d.2.1=d.2.1/\d.2.2.1=d.2.2.1/\za/\@ed (List UInt8×List (List UInt8×Int×Int×Unit)×List (Int×Int×Int×Unit)×Unit)=@ed (List UInt8×List (List UInt8×Int×Int×Unit)×List (Int×Int×Int×Unit)×Unit)/\True
  let zq:=fun(F:Nat)=>(zk F/\dd (zj F)+dd zl<=1000000000)/\(aR (zf F)->zm->aR (zn F)/\∃(x':Nat),x'<=zd/\zd-x'<zd-F/\(zn F=(↑x':Int)/\zj F++zl=eh ze (ek x' zc)/\True)/\zj F++zl=eh ze (ek x' zc)/\zp)
  let zr:=@ed (List UInt8×Int×Int×Unit)=@ed (List UInt8×Int×Int×Unit)
  let zs:=@ed (Int×Int×Int×Unit)=@ed (Int×Int×Int×Unit)
  let zt:=(-1:Int)
  let zu:=nth aA o (Int.toNat zt)
  let zv:=((r,o,()),d)
  za/\zb<=1000000/\(True->(∃(x:Nat),x<=zd/\(0=(↑x:Int)/\@ed (List UInt8×List (List UInt8×Int×Int×Unit)×List (Int×Int×Int×Unit)×Unit)=eh ze (ek x zc)/\True)/\@ed (List UInt8×List (List UInt8×Int×Int×Unit)×List (Int×Int×Int×Unit)×Unit)=eh ze (ek x zc)/\True)/\∀F:Nat,F<=zd->dd zc<=aN->((decide (zg F))=true->(0<=zf F/\zg F)/\(zb<=aN->(∃(x:Nat),(x<=zb/\∀(j:Nat),j<x->(nth aA o j).1≠zh F)/\(0=(↑x:Int)/\True)/\True)/\∀G:Nat,(G<=zb/\∀(j:Nat),j<G->(nth aA o j).1≠zh F)->((decide (zf G<(↑zb:Int)))=true->zi G/\(((nth aA o G).1 == zh F)=true->((decide (zf G<0))=true->zq F)/\((decide (zf G<0))=false->zi G/\(dd (nth aA o G).2.1<=1000000/\dd (nth aA o G).2.2.1<=1000000)/\(zk F/\dd (zj F)+dd [nth aA o G]<=1000000000)/\(aR (zf F)->zm->aR (zn F)/\∃(x':Nat),x'<=zd/\zd-x'<zd-F/\(zn F=(↑x':Int)/\zj F++[nth aA o G]=eh ze (ek x' zc)/\True)/\zj F++[nth aA o G]=eh ze (ek x' zc)/\zp)))/\(((nth aA o G).1 == zh F)=false->aR (zf G)->zm->aR (zn G)/\∃(x':Nat),(x'<=zb/\∀(j:Nat),j<x'->(nth aA o j).1≠zh F)/\zb-x'<zb-G/\(zn G=(↑x':Int)/\True)/\(zh F=zh F/\True)/\(@ed UInt8=@ed UInt8/\zr/\zs/\True)/\zs/\zr/\zk F/\zp))/\((decide (zf G<(↑zb:Int)))=false->((decide (zt<0))=true->zq F)/\((decide (zt<0))=false->(0<=zt/\zt<(↑zb:Int))/\(dd zu.2.1<=1000000/\dd zu.2.2.1<=1000000)/\(zk F/\dd (zj F)+dd [zu]<=1000000000)/\(aR (zf F)->zm->aR (zn F)/\∃(x':Nat),x'<=zd/\zd-x'<zd-F/\(zn F=(↑x':Int)/\zj F++[zu]=eh ze (ek x' zc)/\True)/\zj F++[zu]=eh ze (ek x' zc)/\zp)))))/\((decide (zg F))=false->za/\True/\zv=zv/\(zj F,())=(df o,())))) (by kernel_rfl) ?_
 dsimp -iota -proj -eta only;dsimp only at hp;refine⟨rfl,?a,fun h0=>⟨(⟨0,ez _,⟨rfl,rfl,dc⟩,rfl,(by trivial)⟩),fun F q_0 h1=>iL (fun h2=>⟨?b,fun h3=>⟨(⟨0,⟨ez _,fun j hj=>absurd hj (Nat.not_lt_zero _)⟩,⟨rfl,dc⟩,(by trivial)⟩),fun G q_1=>iL (fun h4=>⟨?c,iQ (fun h5=>⟨fun h6=>absurd (show false=true from h6) (by decide),fun h6=>⟨?d,(by simp_all),?e,fun h7 h8=>⟨?f,?g⟩⟩⟩) (fun h5 h6 h7=>⟨?h,(⟨G+1,⟨by omega,kg q_1.2 h5⟩,by omega,⟨by omega,dc⟩,(by trivial)⟩)⟩)⟩) (fun h4=>⟨fun h5=>⟨?i,fun h6 h7=>⟨?j,?k⟩⟩,fun h5=>absurd (show true=false from h5) (by decide)⟩)⟩⟩) (fun h2=>(by rw[List.take_of_length_le (by omega)];exact⟨rfl,dc,rfl,rfl⟩))⟩⟩
 case a|b|c|d=>omega
 case e|i=>refine⟨rfl,?_⟩;rw[List.length_map,List.length_take,List.length_singleton];have:=w7 o;have:o.length<=1000:=hp.1;omega
 case f|h|j=>simp only[aR,aN]at*;omega
 case g=>
  have e:=Go.Mrl.get_at (l:=o) (s:=nth .str (dE o) F) (i:=G) (by omega) q_1.2 ‹_›;exact⟨F+1,by omega,by omega,⟨by omega,by rw[<-e];exact oY (by omega),dc⟩,by rw[<-e];exact oY (by omega),(by trivial)⟩
 case k=>
  have e:=Go.Mrl.get_none (l:=o) (s:=nth .str (dE o) F) fun j hj=>q_1.2 j (by omega)
  exact⟨F+1,by omega,by omega,⟨by omega,(congrArg (fun z=>_++[z]) e.symm).trans (oY (by omega)),dc⟩,(congrArg (fun z=>_++[z]) e.symm).trans (oY (by omega)),(by trivial)⟩
theorem Tryz.LO:cF Tryz.prog Tryz.B.eT Tryz.X 24 false (bF Tryz.bE [.obj 0] (fun _ x=>x.1.2.1.length<=1000/\∀i,i<x.1.2.1.length->(nth aA x.1.2.1 i).2.1.length<=1000000/\(nth aA x.1.2.1 i).2.2.1.length<=1000000) Tryz.yt):=
 bN (B:=(iR Tryz.B [28])) (X:=Tryz.X) (bU.hint (l:=[28]) Tryz.Kp) Tryz.func24 (by kernel_rfl) (fun(a:CD [.obj 0]) (x:PD Tryz.bE)=>Tryz.IX x.1.1 x.1.2.1 x.2) (fun(a:CD [.obj 0]) (x:PD Tryz.bE) hw hp=>LN x.1.1 x.1.2.1 x.2 hw hp)
@[reducible] def Tryz.LP:List Ob:=[.box 126 [.obj 1,.d (.int .i64),.d (.slice aA)],.box 123 [.obj 2,.obj 3,.obj 4,.d (.int .i64),.d .bool],.row true .str,.row true .str,.tok du,.box 33 [.d (.slice aA)]]
def Tryz.ma:List (Alt Tryz.aT [.obj 0,.d (.int .u64)]):=[{bH:=Tryz.aT,res:=[],out:=fun a x=>bS x a.1,ret:=fun _ _=>()}]
theorem Tryz.Ax:Tryz.ma=Tryz.kL:=by
 unfold Tryz.ma Tryz.kL;simp only[mM]
theorem Tryz.Df:cF Tryz.prog Tryz.B.eT Tryz.X 22 false (bF Tryz.aT [.obj 0,.d (.int .u64)] (fun _ x=>x.2.1.length=x.2.2.1.length/\∀i,i<x.2.2.2.1.length->0<=((nth du x.2.2.2.1 i).1:Int)/\((nth du x.2.2.2.1 i).1:Int)<x.2.2.1.length) Tryz.ma):=by
 rw[Tryz.Ax];exact Tryz.mN
def Tryz.Dg:List (FuncId×(Bool×bA)):=[(22,(false,bF Tryz.aT [.obj 0,.d (.int .u64)] (fun _ x=>x.2.1.length=x.2.2.1.length/\∀i,i<x.2.2.2.1.length->0<=((nth du x.2.2.2.1 i).1:Int)/\((nth du x.2.2.2.1 i).1:Int)<x.2.2.1.length) Tryz.ma)),(76,Tryz.spZ0),(99,Tryz.spZ1),(21,Tryz.spZ2),(90,Tryz.spZ9),(65,Tryz.spZ21),(91,Tryz.spZ10),(16,Tryz.spZ22),(63,Tryz.spZ20),(64,Tryz.spZ19),(22,Tryz.spZ23),(54,Tryz.spZ24),(56,Tryz.spZ26),(15,(true,mn [.slice eX,.int .i64] [.bool] (fun _=>True) (fun x y=>y=true->nN x.1 x.2))),(13,(true,dj [] [.bool] (fun _=>True) (fun _=>true))),(14,Tryz.spZ27),(17,Tryz.spZ28),(19,(false,bF Tryz.bE [.obj 0,.d .str] (fun _ x=>x.1.2.1.length<=100/\0<=(x.1.1:Int)/\(x.1.1:Int)<=1000000000/\bO x.2 1000000) Tryz.vO)),(18,(false,bF Tryz.gV [.obj 0,.d aA] (fun _ x=>x.1.1.length<=1000000) Tryz.vP)),(20,(false,bF Tryz.gV [.obj 0,.d .str] (fun _ x=>x.1.1.length<=1000000) Tryz.sX)),(23,Tryz.spZ25),(24,(false,bF Tryz.bE [.obj 0] (fun _ x=>x.1.2.1.length<=1000/\∀i,i<x.1.2.1.length->(nth aA x.1.2.1 i).2.1.length<=1000000/\(nth aA x.1.2.1 i).2.2.1.length<=1000000) Tryz.yt)),(25,(true,mn [.slice aA,.slice aA] [.bool] (fun _=>True) (fun x y=>x.1=x.2->y=true)))]
theorem Tryz.GH:bU Tryz.prog Tryz.B Tryz.X Tryz.Dg:=
 aU (Tryz.Df) (aU (aK Tryz.my) (aU (aK Tryz.iy) (aU (aK Tryz.lA) (aU (Tryz.nn) (aU (Tryz.vI) (aU (Tryz.np) (aU (Tryz.ye) (aU (Tryz.q8) (aU (Tryz.kK) (aU (Tryz.mN) (aU (Tryz.yf) (aU (gi Tryz.rq) (aU (gi Tryz.Dc) (aU (aK Tryz.GG) (aU (Tryz.xx) (aU (Tryz.C0) (aU (Tryz.LJ) (aU (Tryz.LL) (aU (Tryz.Ko) (aU (Tryz.ym) (aU (Tryz.LO) (aU (gi Tryz.De) (cN Tryz.cL)))))))))))))))))))))))
def Tryz.Dh(l:List (D eX))(f:Int)(c:Int):eo:=[
 (200000,fun st=>{X:=Nat×Sh,inv:=fun x=>x.1<=dd l/\dG x.2 x.2.1.2.1 x.1,dx:=fun x=>dd l-x.1,bX:=fun x=>[(12,sI x.1),(11,sD (.slice aA) x.2.1.2.1)],keep:=[0,2,8,9,10],aG:=Tryz.LP,refs:=[(8,1),(9,0),(10,5)],pd:=fun x=>(x.2.1,x.2.2.1,x.2.2.2.1,x.2.2.2.2.1,x.2.2.2.2.2.1,(x.2.1.2.1,()),())})]
theorem D7(l:List (D eX))(f:Int)(c:Int)(hw:gq [.slice eX,.int .i64,.int .u64] (l,f,c)):(eC (iR Tryz.B [6000011]) Tryz.Dg Tryz.f3 (Tryz.Dh l f c) [.slice eX,.int .i64,.int .u64] [.bool] (fun _ y=>y=true) (l,f,c)).holds:=by
 refine holds_of (p:=
  let za:=false=true
  let zb:=fun(F:Bool)=>F=true
  let zc:=(fm (nw (112:Int))).1
  let zd:=zc.2.2.2.1
  let ze:=Nat×Sh
  let zf:=dd l
  let zg:=@ed (List UInt8×List (List UInt8×Int×Int×Unit)×List (Int×Int×Int×Unit)×Unit)=@ed (List UInt8×List (List UInt8×Int×Int×Unit)×List (Int×Int×Int×Unit)×Unit)/\True
  let zh:=(!false&&true)=true
  let zi:=([],())
  let zj:=(-1:Int)
  let zk:=if zj > f then zj else f
  let zl:=if(1000:Int)<zk then(1000:Int)else zk
  let zm:=fun(G:Nat×Sh)=>G.2.1.2.1
  let zn:=fun(G:Nat×Sh)=>(↑G.1:Int)<(↑zf:Int)
  let zo:=fun(G:Nat×Sh)=>(0:Int)<=(↑G.1:Int)/\zn G
  let zp:=fun(G:Nat×Sh)=>G.2.2.2.2.2.1
  let zq:=fun(G:Nat×Sh)=>(nth eX l G.1).2.2.2.2.2.1
  let zr:=fun(G:Nat×Sh)=>(0:Int)<=G.2.1.1/\G.2.1.1<=(1000000000:Int)/\bO G.2.2 1000000
  let zs:=fun(G:Nat×Sh)=>mr (aJ (bY G.2 (zq G)).2)
  let zt:=fun(G:Nat×Sh)=>(bY G.2 (zq G)).1.2
  let zu:=fun(G:Nat×Sh)=>(zt G).2.2.2.1
  let zv:=fun(G:Nat×Sh)=>bS (zt G) c
  let zw:=fun(G:Nat×Sh)=>(zv G).2.2.2.1=(zv G).2.2.2.1
  let zx:=aQ.isNil aQ.nil
  let zy:=fun(G:Nat×Sh)=>(aX (zv G)).1.2
  let zz:=fun(G:Nat×Sh)=>(eZ (zm G) (zq G)).1
  let zaa:=fun(G:Nat×Sh)=>(↑(dd (df (zy G))):Int)
  let zab:=(0:Int)<=(0:Int)
  let zac:=[(122:UInt8),122]
  let zad:=[(zac,(9:Int),(0:Int),())]
  let zae:=dd zad<=1000000/\dd (@ed (Int×Int×Int×Unit))<=1000000
  let zaf:=fun(G:Nat×Sh)=>(aX (zv G)).1.1
  let zag:=fun(G:Nat×Sh)=>zae/\dd (zy G)<=99/\(0:Int)<=zaf G/\zaf G<=(1000000000:Int)/\bO (zv G) 1000000
  let zah:=fun(G:Nat×Sh)=>((zaf G,zy G,()),zv G)
  let zai:=(zad,[],())
  let zaj:=fun(G:Nat×Sh)=>bY (zah G) ((nth aA (df (zy G)) 0).1,zai)
  let zak:=fun(G:Nat×Sh)=>(zaj G).1.2.2.2.2.1=(zaj G).1.2.2.2.2.1
  let zal:=fun(G:Nat×Sh)=>(aX (zaj G).1.2).2
  let zam:=fun(G:Nat×Sh)=>(aX (zaj G).1.2).1.2
  let zan:=fun(G:Nat×Sh)=>(zaj G).1.1.2.1
  let zao:=(zac,zai)
  let zap:=fun(G:Nat×Sh)=>(bY (zah G) zao).1.2
  let zaq:=fun(G:Nat×Sh)=>(zap G).2.2.2.1=(zap G).2.2.2.1
  let zar:=fun(G:Nat×Sh)=>(aX (zap G)).1.2
  let zas:=fun(G:Nat×Sh)=>(bY (zah G) zao).1.1.2.1
  let zat:=fun(G:Nat×Sh)=>dd (df (zy G))<=aN->((zaa G == (3:Int))=true->(zab/\(0:Int)<zaa G)/\zw G/\zag G/\(True->((!aQ.isNil (aJ (zaj G).2))=true->za)/\((!aQ.isNil (aJ (zaj G).2))=false->zak G/\(bO (zaj G).1.2 1000000/\∀(i:Nat),i<dd (zaj G).1.2.2.2.1->dd (nth Ty.str (zaj G).1.2.2.2.1 i)=64)/\(zal G≠(0:Int)->((aQ.isNil (aJ (zal G)))=true->False)/\((aQ.isNil (aJ (zal G)))=false->za))/\(zal G=(0:Int)->(zx=true->zak G/\(dd (zam G)<=1000/\∀(i:Nat),i<dd (zam G)->dd (nth aA (zam G) i).2.1<=1000000/\dd (nth aA (zam G) i).2.2.1<=1000000)/\(True->zak G/\(dd (zan G)<=1000/\∀(i:Nat),i<dd (zan G)->dd (nth aA (zan G) i).2.1<=1000000/\dd (nth aA (zan G) i).2.2.1<=1000000)/\(True->True/\∀M:Bool,(df (zam G)=df (zan G)->zb M)->zb M)))/\(zx=false->za)))))/\((zaa G == (3:Int))=false->zw G/\zag G/\(True->((!aQ.isNil (aJ (bY (zah G) zao).2))=true->za)/\((!aQ.isNil (aJ (bY (zah G) zao).2))=false->zaq G/\(bO (zap G) 1000000/\∀(i:Nat),i<dd (zap G).2.2.1->dd (nth Ty.str (zap G).2.2.1 i)=64)/\((aX (zap G)).2≠(0:Int)->((aQ.isNil (aJ (aX (zap G)).2))=true->False)/\((aQ.isNil (aJ (aX (zap G)).2))=false->za))/\((aX (zap G)).2=(0:Int)->(zx=true->zaq G/\(dd (zar G)<=1000/\∀(i:Nat),i<dd (zar G)->dd (nth aA (zar G) i).2.1<=1000000/\dd (nth aA (zar G) i).2.2.1<=1000000)/\(True->zaq G/\(dd (zas G)<=1000/\∀(i:Nat),i<dd (zas G)->dd (nth aA (zas G) i).2.1<=1000000/\dd (nth aA (zas G) i).2.2.1<=1000000)/\(True->True/\∀M:Bool,(df (zar G)=df (zas G)->zb M)->zb M)))/\(zx=false->za)))))
  let zau:=fun(G:Nat×Sh)=>(↑G.1:Int)+(1:Int)
  let zav:=fun(G:Nat×Sh)=>True/\((zs G != (eZ (zm G) (zq G)).2)=true->za)/\((zs G != (eZ (zm G) (zq G)).2)=false->aR (↑G.1:Int)->aR (1:Int)->aR (zau G)/\zu G=zu G/\∃(x':ze),(ef x'<=zf/\dG (dT x') (dT x').1.2.1 (ef x'))/\zf-ef x'<zf-G.1/\(zau G=(↑(ef x'):Int)/\zz G=(dT x').1.2.1/\True)/\zg/\zh/\((bY G.2 (zq G)).1.1,(zt G).1,(zt G).2.1,(zt G).2.2.1,zu G,(zz G,()),())=((dT x').1,(dT x').2.1,(dT x').2.2.1,(dT x').2.2.2.1,(dT x').2.2.2.2.1,(dT x').1.2,()))
  let zaw:=fun(G:Nat×Sh)=>dY G.2 (nth eX l G.1).2.1
  let zax:=fun(G:Nat×Sh)=>fj (zm G) (nth eX l G.1).2.1
  let zay:=fun(G:Nat×Sh)=>(zaw G).1.2.2.2.2.1
  let zaz:=fun(G:Nat×Sh)=>bS (zaw G).1.2 c
  let zba:=fun(G:Nat×Sh)=>(zaz G).2.2.2.1=(zaz G).2.2.2.1
  let zbb:=fun(G:Nat×Sh)=>(aX (zaz G)).1.2
  let zbc:=fun(G:Nat×Sh)=>(↑(dd (df (zbb G))):Int)
  let zbd:=fun(G:Nat×Sh)=>(aX (zaz G)).1.1
  let zbe:=fun(G:Nat×Sh)=>zae/\dd (zbb G)<=99/\(0:Int)<=zbd G/\zbd G<=(1000000000:Int)/\bO (zaz G) 1000000
  let zbf:=fun(G:Nat×Sh)=>((zbd G,zbb G,()),zaz G)
  let zbg:=fun(G:Nat×Sh)=>bY (zbf G) ((nth aA (df (zbb G)) 0).1,zai)
  let zbh:=fun(G:Nat×Sh)=>(zbg G).1.2.2.2.2.1=(zbg G).1.2.2.2.2.1
  let zbi:=fun(G:Nat×Sh)=>(aX (zbg G).1.2).2
  let zbj:=fun(G:Nat×Sh)=>(aX (zbg G).1.2).1.2
  let zbk:=fun(G:Nat×Sh)=>(zbg G).1.1.2.1
  let zbl:=fun(G:Nat×Sh)=>(bY (zbf G) zao).1.2
  let zbm:=fun(G:Nat×Sh)=>(zbl G).2.2.2.1=(zbl G).2.2.2.1
  let zbn:=fun(G:Nat×Sh)=>(aX (zbl G)).1.2
  let zbo:=fun(G:Nat×Sh)=>(bY (zbf G) zao).1.1.2.1
  let zbp:=fun(G:Nat×Sh)=>dd (df (zbb G))<=aN->((zbc G == (3:Int))=true->(zab/\(0:Int)<zbc G)/\zba G/\zbe G/\(True->((!aQ.isNil (aJ (zbg G).2))=true->za)/\((!aQ.isNil (aJ (zbg G).2))=false->zbh G/\(bO (zbg G).1.2 1000000/\∀(i:Nat),i<dd (zbg G).1.2.2.2.1->dd (nth Ty.str (zbg G).1.2.2.2.1 i)=64)/\(zbi G≠(0:Int)->((aQ.isNil (aJ (zbi G)))=true->False)/\((aQ.isNil (aJ (zbi G)))=false->za))/\(zbi G=(0:Int)->(zx=true->zbh G/\(dd (zbj G)<=1000/\∀(i:Nat),i<dd (zbj G)->dd (nth aA (zbj G) i).2.1<=1000000/\dd (nth aA (zbj G) i).2.2.1<=1000000)/\(True->zbh G/\(dd (zbk G)<=1000/\∀(i:Nat),i<dd (zbk G)->dd (nth aA (zbk G) i).2.1<=1000000/\dd (nth aA (zbk G) i).2.2.1<=1000000)/\(True->True/\∀M:Bool,(df (zbj G)=df (zbk G)->zb M)->zb M)))/\(zx=false->za)))))/\((zbc G == (3:Int))=false->zba G/\zbe G/\(True->((!aQ.isNil (aJ (bY (zbf G) zao).2))=true->za)/\((!aQ.isNil (aJ (bY (zbf G) zao).2))=false->zbm G/\(bO (zbl G) 1000000/\∀(i:Nat),i<dd (zbl G).2.2.1->dd (nth Ty.str (zbl G).2.2.1 i)=64)/\((aX (zbl G)).2≠(0:Int)->((aQ.isNil (aJ (aX (zbl G)).2))=true->False)/\((aQ.isNil (aJ (aX (zbl G)).2))=false->za))/\((aX (zbl G)).2=(0:Int)->(zx=true->zbm G/\(dd (zbn G)<=1000/\∀(i:Nat),i<dd (zbn G)->dd (nth aA (zbn G) i).2.1<=1000000/\dd (nth aA (zbn G) i).2.2.1<=1000000)/\(True->zbm G/\(dd (zbo G)<=1000/\∀(i:Nat),i<dd (zbo G)->dd (nth aA (zbo G) i).2.1<=1000000/\dd (nth aA (zbo G) i).2.2.1<=1000000)/\(True->True/\∀M:Bool,(df (zbn G)=df (zbo G)->zb M)->zb M)))/\(zx=false->za)))))
  let zbq:=fun(G:Nat×Sh)=>True/\((mr (aJ (zaw G).2) != (zax G).2)=true->za)/\((mr (aJ (zaw G).2) != (zax G).2)=false->aR (↑G.1:Int)->aR (1:Int)->aR (zau G)/\zay G=zay G/\∃(x':ze),(ef x'<=zf/\dG (dT x') (dT x').1.2.1 (ef x'))/\zf-ef x'<zf-G.1/\(zau G=(↑(ef x'):Int)/\(zax G).1=(dT x').1.2.1/\True)/\zg/\zh/\((zaw G).1.1,(zaw G).1.2.1,(zaw G).1.2.2.1,(zaw G).1.2.2.2.1,zay G,((zax G).1,()),())=((dT x').1,(dT x').2.1,(dT x').2.2.1,(dT x').2.2.2.1,(dT x').2.2.2.2.1,(dT x').1.2,()))
  let zbr:=fun(G:Nat×Sh)=>bS G.2.2 c
  let zbs:=fun(G:Nat×Sh)=>(zbr G).2.2.2.1=(zbr G).2.2.2.1
  let zbt:=fun(G:Nat×Sh)=>(aX (zbr G)).1.2
  let zbu:=fun(G:Nat×Sh)=>(↑(dd (df (zbt G))):Int)
  let zbv:=fun(G:Nat×Sh)=>(aX (zbr G)).1.1
  let zbw:=fun(G:Nat×Sh)=>zae/\dd (zbt G)<=99/\(0:Int)<=zbv G/\zbv G<=(1000000000:Int)/\bO (zbr G) 1000000
  let zbx:=fun(G:Nat×Sh)=>((zbv G,zbt G,()),zbr G)
  let zby:=fun(G:Nat×Sh)=>bY (zbx G) ((nth aA (df (zbt G)) 0).1,zai)
  let zbz:=fun(G:Nat×Sh)=>(zby G).1.2.2.2.2.1=(zby G).1.2.2.2.2.1
  let zca:=fun(G:Nat×Sh)=>(aX (zby G).1.2).2
  let zcb:=fun(G:Nat×Sh)=>(aX (zby G).1.2).1.2
  let zcc:=fun(G:Nat×Sh)=>(zby G).1.1.2.1
  let zcd:=fun(G:Nat×Sh)=>(bY (zbx G) zao).1.2
  let zce:=fun(G:Nat×Sh)=>(zcd G).2.2.2.1=(zcd G).2.2.2.1
  let zcf:=fun(G:Nat×Sh)=>(aX (zcd G)).1.2
  let zcg:=fun(G:Nat×Sh)=>(bY (zbx G) zao).1.1.2.1
  let zch:=fun(G:Nat×Sh)=>dd (df (zbt G))<=aN->((zbu G == (3:Int))=true->(zab/\(0:Int)<zbu G)/\zbs G/\zbw G/\(True->((!aQ.isNil (aJ (zby G).2))=true->za)/\((!aQ.isNil (aJ (zby G).2))=false->zbz G/\(bO (zby G).1.2 1000000/\∀(i:Nat),i<dd (zby G).1.2.2.2.1->dd (nth Ty.str (zby G).1.2.2.2.1 i)=64)/\(zca G≠(0:Int)->((aQ.isNil (aJ (zca G)))=true->False)/\((aQ.isNil (aJ (zca G)))=false->za))/\(zca G=(0:Int)->(zx=true->zbz G/\(dd (zcb G)<=1000/\∀(i:Nat),i<dd (zcb G)->dd (nth aA (zcb G) i).2.1<=1000000/\dd (nth aA (zcb G) i).2.2.1<=1000000)/\(True->zbz G/\(dd (zcc G)<=1000/\∀(i:Nat),i<dd (zcc G)->dd (nth aA (zcc G) i).2.1<=1000000/\dd (nth aA (zcc G) i).2.2.1<=1000000)/\(True->True/\∀M:Bool,(df (zcb G)=df (zcc G)->zb M)->zb M)))/\(zx=false->za)))))/\((zbu G == (3:Int))=false->zbs G/\zbw G/\(True->((!aQ.isNil (aJ (bY (zbx G) zao).2))=true->za)/\((!aQ.isNil (aJ (bY (zbx G) zao).2))=false->zce G/\(bO (zcd G) 1000000/\∀(i:Nat),i<dd (zcd G).2.2.1->dd (nth Ty.str (zcd G).2.2.1 i)=64)/\((aX (zcd G)).2≠(0:Int)->((aQ.isNil (aJ (aX (zcd G)).2))=true->False)/\((aQ.isNil (aJ (aX (zcd G)).2))=false->za))/\((aX (zcd G)).2=(0:Int)->(zx=true->zce G/\(dd (zcf G)<=1000/\∀(i:Nat),i<dd (zcf G)->dd (nth aA (zcf G) i).2.1<=1000000/\dd (nth aA (zcf G) i).2.2.1<=1000000)/\(True->zce G/\(dd (zcg G)<=1000/\∀(i:Nat),i<dd (zcg G)->dd (nth aA (zcg G) i).2.1<=1000000/\dd (nth aA (zcg G) i).2.2.1<=1000000)/\(True->True/\∀M:Bool,(df (zcf G)=df (zcg G)->zb M)->zb M)))/\(zx=false->za)))))
  True/\((!true)=true->za)/\((!true)=false->True/\(True->((!true)=true->za)/\((!true)=false->True/\∀F:Bool,(zb F->nN l (30:Int))->((!F)=true->true=true)/\((!F)=false->zd=zd/\True/\(True->(zd=zd/\∃(x':ze),(ef x'<=zf/\dG (dT x') (dT x').1.2.1 (ef x'))/\True/\((0:Int)=(↑(ef x'):Int)/\@ed (List UInt8×List (List UInt8×Int×Int×Unit)×List (Int×Int×Int×Unit)×Unit)=(dT x').1.2.1/\True)/\zg/\zh/\(((2:Int),zi),(if zj > zl then zj else zl,zc.1.2),zc.2.1,zc.2.2.1,zd,zi,())=((dT x').1,(dT x').2.1,(dT x').2.2.1,(dT x').2.2.2.1,(dT x').2.2.2.2.1,(dT x').1.2,()))/\∀G:Nat×Sh,G.1<=zf/\dG G.2 (zm G) G.1->zf<=aN->((decide (zn G))=true->zo G/\(((nth eX l G.1).1 == [(112:UInt8),117,116])=true->zo G/\zp G=zp G/\((dd (zq G).2.1<=1000000/\dd (zq G).2.2.1<=1000000)/\dd (zm G)<=99/\zr G)/\(True->zo G/\dd (zm G)<=1000000/\(True->True/\((zs G == (9:Int))=true->(((eZ (zm G) (zq G)).2 != (9:Int))=true->zu G=zu G/\(dd (zt G).2.1=dd (zt G).2.2.1/\∀(i:Nat),i<dd (zu G)->(0:Int)<=(nth du (zu G) i).1/\(nth du (zu G) i).1<(↑(dd (zt G).2.2.1):Int))/\(True->zw G/\(bO (zv G) 1000000/\∀(i:Nat),i<dd (zv G).2.2.1->dd (nth Ty.str (zv G).2.2.1 i)=64)/\((aX (zv G)).2≠(0:Int)->((!aQ.isNil (aJ (aX (zv G)).2))=true->za)/\((!aQ.isNil (aJ (aX (zv G)).2))=false->za))/\((aX (zv G)).2=(0:Int)->((!zx)=true->za)/\((!zx)=false->zw G/\(dd (zy G)<=1000/\∀(i:Nat),i<dd (zy G)->dd (nth aA (zy G) i).2.1<=1000000/\dd (nth aA (zy G) i).2.2.1<=1000000)/\(True->True/\∀I:Bool,(df (zy G)=zm G->zb I)->((!I)=true->True/\∀K:Bool,(df (zy G)=zz G->zb K)->((!K)=true->za)/\((!K)=false->zat G))/\((!I)=false->zat G))))))/\(((eZ (zm G) (zq G)).2 != (9:Int))=false->zav G))/\((zs G == (9:Int))=false->zav G))))/\(((nth eX l G.1).1 == [(112:UInt8),117,116])=false->zo G/\zp G=zp G/\(dd (zm G)<=100/\zr G)/\(True->zo G/\dd (zm G)<=1000000/\(True->True/\((mr (aJ (zaw G).2) == (9:Int))=true->(((zax G).2 != (9:Int))=true->zay G=zay G/\(dd (zaw G).1.2.2.1=dd (zaw G).1.2.2.2.1/\∀(i:Nat),i<dd (zay G)->(0:Int)<=(nth du (zay G) i).1/\(nth du (zay G) i).1<(↑(dd (zaw G).1.2.2.2.1):Int))/\(True->zba G/\(bO (zaz G) 1000000/\∀(i:Nat),i<dd (zaz G).2.2.1->dd (nth Ty.str (zaz G).2.2.1 i)=64)/\((aX (zaz G)).2≠(0:Int)->((!aQ.isNil (aJ (aX (zaz G)).2))=true->za)/\((!aQ.isNil (aJ (aX (zaz G)).2))=false->za))/\((aX (zaz G)).2=(0:Int)->((!zx)=true->za)/\((!zx)=false->zba G/\(dd (zbb G)<=1000/\∀(i:Nat),i<dd (zbb G)->dd (nth aA (zbb G) i).2.1<=1000000/\dd (nth aA (zbb G) i).2.2.1<=1000000)/\(True->True/\∀I:Bool,(df (zbb G)=zm G->zb I)->((!I)=true->True/\∀K:Bool,(df (zbb G)=(zax G).1->zb K)->((!K)=true->za)/\((!K)=false->zbp G))/\((!I)=false->zbp G))))))/\(((zax G).2 != (9:Int))=false->zbq G))/\((mr (aJ (zaw G).2) == (9:Int))=false->zbq G)))))/\((decide (zn G))=false->zp G=zp G/\(dd G.2.2.2.1=dd G.2.2.2.2.1/\∀(i:Nat),i<dd (zp G)->(0:Int)<=(nth du (zp G) i).1/\(nth du (zp G) i).1<(↑(dd G.2.2.2.2.1):Int))/\(True->zbs G/\(bO (zbr G) 1000000/\∀(i:Nat),i<dd (zbr G).2.2.1->dd (nth Ty.str (zbr G).2.2.1 i)=64)/\((aX (zbr G)).2≠(0:Int)->((!aQ.isNil (aJ (aX (zbr G)).2))=true->za)/\((!aQ.isNil (aJ (aX (zbr G)).2))=false->za))/\((aX (zbr G)).2=(0:Int)->((!zx)=true->za)/\((!zx)=false->zbs G/\(dd (zbt G)<=1000/\∀(i:Nat),i<dd (zbt G)->dd (nth aA (zbt G) i).2.1<=1000000/\dd (nth aA (zbt G) i).2.2.1<=1000000)/\(True->True/\∀I:Bool,(df (zbt G)=zm G->zb I)->((!I)=true->True/\∀K:Bool,(df (zbt G)=zm G->zb K)->((!K)=true->za)/\((!K)=false->zch G))/\((!I)=false->zch G)))))))))))) (by kernel_rfl) ?_
 dsimp -iota -proj -eta only;refine⟨dc,⟨fun h0=>absurd (show false=true from h0) (by decide),fun h0=>⟨dc,fun h1=>⟨fun h2=>absurd (show false=true from h2) (by decide),fun h2=>⟨dc,fun F q_0=>iB (fun h3=>rfl) (fun h3=>⟨rfl,dc,fun h4=>⟨(⟨rfl,(0,fN.1,xU fN.2 (if(1000:Int)<(if(-1:Int) > f then(-1:Int)else f)then(1000:Int)else(if(-1:Int) > f then(-1:Int)else f))),⟨ez _,Iq _⟩,dc,⟨rfl,rfl,dc⟩,⟨rfl,dc⟩,rfl,rfl⟩),fun G q_1 h5=>iL (fun h6=>⟨?a,iQ (fun h7=>⟨?b,rfl,?c,fun h8=>⟨?d,?e,fun h9=>⟨dc,iQ (fun h10=>iN (fun h11=>⟨rfl,?f,fun h12=>⟨rfl,?g,⟨fun h13=>iB (fun h14 =>?h) (fun h14 =>?i),fun h13=>⟨fun h14=>absurd (show false=true from h14) (by decide),fun h14=>⟨rfl,?j,fun h15=>⟨dc,fun I q_2=>iB (fun h16=>⟨dc,fun K q_3=>iB (fun h17 =>?k) (fun h17 h18=>iQ (fun h19=>⟨?l,rfl,?m,fun h20=>iB (fun h21 =>?n) (fun h21=>⟨rfl,?o,⟨fun h22=>⟨fun h23 =>?p,fun h23 =>?q⟩,fun h22=>⟨fun h23=>⟨rfl,?r,fun h24=>⟨rfl,?s,fun h25=>⟨dc,fun M q_4 =>?t⟩⟩⟩,fun h23=>absurd (show true=false from h23) (by decide)⟩⟩⟩)⟩) (fun h19=>⟨rfl,?u,fun h20=>iB (fun h21 =>?v) (fun h21=>⟨rfl,?w,⟨fun h22=>⟨fun h23 =>?x,fun h23 =>?y⟩,fun h22=>⟨fun h23=>⟨rfl,?z,fun h24=>⟨rfl,?a0,fun h25=>⟨dc,fun M q_4 =>?a1⟩⟩⟩,fun h23=>absurd (show true=false from h23) (by decide)⟩⟩⟩)⟩))⟩) (fun h16 h17=>iQ (fun h18=>⟨?a2,rfl,?a3,fun h19=>iB (fun h20 =>?a4) (fun h20=>⟨rfl,?a5,⟨fun h21=>⟨fun h22 =>?a6,fun h22 =>?a7⟩,fun h21=>⟨fun h22=>⟨rfl,?a8,fun h23=>⟨rfl,?a9,fun h24=>⟨dc,fun K q_3 =>?aa⟩⟩⟩,fun h22=>absurd (show true=false from h22) (by decide)⟩⟩⟩)⟩) (fun h18=>⟨rfl,?ab,fun h19=>iB (fun h20 =>?ac) (fun h20=>⟨rfl,?ad,⟨fun h21=>⟨fun h22 =>?ae,fun h22 =>?af⟩,fun h21=>⟨fun h22=>⟨rfl,?ag,fun h23=>⟨rfl,?ah,fun h24=>⟨dc,fun K q_3 =>?ai⟩⟩⟩,fun h22=>absurd (show true=false from h22) (by decide)⟩⟩⟩)⟩))⟩⟩⟩⟩⟩⟩) (fun h11=>⟨dc,iN (fun h12 =>?aj) (fun h12 h13 h14=>⟨?ak,?al⟩)⟩)) (fun h10=>⟨dc,iN (fun h11 =>?am) (fun h11 h12 h13=>⟨?an,?ao⟩)⟩)⟩⟩⟩) (fun h7=>⟨?ap,rfl,?aq,fun h8=>⟨?ar,?au,fun h9=>⟨dc,iQ (fun h10=>iN (fun h11=>⟨rfl,?av,fun h12=>⟨rfl,?aw,⟨fun h13=>iB (fun h14 =>?ax) (fun h14 =>?ay),fun h13=>⟨fun h14=>absurd (show false=true from h14) (by decide),fun h14=>⟨rfl,?az,fun h15=>⟨dc,fun I q_2=>iB (fun h16=>⟨dc,fun K q_3=>iB (fun h17 =>?b0) (fun h17 h18=>iQ (fun h19=>⟨?b1,rfl,?b2,fun h20=>iB (fun h21 =>?b3) (fun h21=>⟨rfl,?b4,⟨fun h22=>⟨fun h23 =>?b5,fun h23 =>?b6⟩,fun h22=>⟨fun h23=>⟨rfl,?b7,fun h24=>⟨rfl,?b8,fun h25=>⟨dc,fun M q_4 =>?b9⟩⟩⟩,fun h23=>absurd (show true=false from h23) (by decide)⟩⟩⟩)⟩) (fun h19=>⟨rfl,?ba,fun h20=>iB (fun h21 =>?bb) (fun h21=>⟨rfl,?bc,⟨fun h22=>⟨fun h23 =>?bd,fun h23 =>?be⟩,fun h22=>⟨fun h23=>⟨rfl,?bf,fun h24=>⟨rfl,?bg,fun h25=>⟨dc,fun M q_4 =>?bh⟩⟩⟩,fun h23=>absurd (show true=false from h23) (by decide)⟩⟩⟩)⟩))⟩) (fun h16 h17=>iQ (fun h18=>⟨?bi,rfl,?bj,fun h19=>iB (fun h20 =>?bk) (fun h20=>⟨rfl,?bl,⟨fun h21=>⟨fun h22 =>?bm,fun h22 =>?bn⟩,fun h21=>⟨fun h22=>⟨rfl,?bo,fun h23=>⟨rfl,?bp,fun h24=>⟨dc,fun K q_3 =>?bq⟩⟩⟩,fun h22=>absurd (show true=false from h22) (by decide)⟩⟩⟩)⟩) (fun h18=>⟨rfl,?br,fun h19=>iB (fun h20 =>?bs) (fun h20=>⟨rfl,?bt,⟨fun h21=>⟨fun h22 =>?bu,fun h22 =>?bv⟩,fun h21=>⟨fun h22=>⟨rfl,?bw,fun h23=>⟨rfl,?bx,fun h24=>⟨dc,fun K q_3 =>?bz⟩⟩⟩,fun h22=>absurd (show true=false from h22) (by decide)⟩⟩⟩)⟩))⟩⟩⟩⟩⟩⟩) (fun h11=>⟨dc,iN (fun h12 =>?c0) (fun h12 h13 h14=>⟨?c1,?c2⟩)⟩)) (fun h10=>⟨dc,iN (fun h11 =>?c3) (fun h11 h12 h13=>⟨?c4,?c5⟩)⟩)⟩⟩⟩)⟩) (fun h6=>⟨rfl,q_1.2.M7,fun h7=>⟨rfl,?c6,⟨fun h8=>iB (fun h9 =>?c7) (fun h9 =>?c8),fun h8=>⟨fun h9=>absurd (show false=true from h9) (by decide),fun h9=>⟨rfl,?c9,fun h10=>⟨dc,fun I q_2=>iB (fun h11=>⟨dc,fun K q_3=>iB (fun h12 =>?ca) (fun h12 h13=>iQ (fun h14=>⟨?cb,rfl,?cc,fun h15=>iB (fun h16 =>?cd) (fun h16=>⟨rfl,?ce,⟨fun h17=>⟨fun h18 =>?cf,fun h18 =>?cg⟩,fun h17=>⟨fun h18=>⟨rfl,?ch,fun h19=>⟨rfl,?ci,fun h20=>⟨dc,fun M q_4 =>?cj⟩⟩⟩,fun h18=>absurd (show true=false from h18) (by decide)⟩⟩⟩)⟩) (fun h14=>⟨rfl,?ck,fun h15=>iB (fun h16 =>?cl) (fun h16=>⟨rfl,?cm,⟨fun h17=>⟨fun h18 =>?cn,fun h18 =>?co⟩,fun h17=>⟨fun h18=>⟨rfl,?cp,fun h19=>⟨rfl,?cq,fun h20=>⟨dc,fun M q_4 =>?cr⟩⟩⟩,fun h18=>absurd (show true=false from h18) (by decide)⟩⟩⟩)⟩))⟩) (fun h11 h12=>iQ (fun h13=>⟨?cs,rfl,?ct,fun h14=>iB (fun h15 =>?cu) (fun h15=>⟨rfl,?cv,⟨fun h16=>⟨fun h17 =>?cw,fun h17 =>?cx⟩,fun h16=>⟨fun h17=>⟨rfl,?cy,fun h18=>⟨rfl,?cz,fun h19=>⟨dc,fun K q_3 =>?d0⟩⟩⟩,fun h17=>absurd (show true=false from h17) (by decide)⟩⟩⟩)⟩) (fun h13=>⟨rfl,?d1,fun h14=>iB (fun h15 =>?d2) (fun h15=>⟨rfl,?d3,⟨fun h16=>⟨fun h17 =>?d4,fun h17 =>?d5⟩,fun h16=>⟨fun h17=>⟨rfl,?d6,fun h18=>⟨rfl,?d7,fun h19=>⟨dc,fun K q_3 =>?d8⟩⟩⟩,fun h17=>absurd (show true=false from h17) (by decide)⟩⟩⟩)⟩))⟩⟩⟩⟩⟩⟩)⟩⟩)⟩⟩⟩⟩⟩
 case a|b|d|l|a2|ap|ar|b1|bi|cb|cs=>omega
 case c=>
  have hk:G.1+1<=100:=(by have a:=(q_0 h3).1;have b:=q_1.1;omega);have hl:=((q_0 h3).2 G.1 (by omega)).2.2;exact⟨⟨by have:=hl.2.1;omega,by have:=hl.2.2.1;omega⟩,q_1.2.tI (dn (dp hk) (by decide))⟩
 case e|au=>exact dn q_1.2.gT (by decide)
 case f=>
  have hk:G.1+1<=100:=(by have a:=(q_0 h3).1;have b:=q_1.1;omega);exact(cC q_1.2 (dn (dp hk) (by decide)) ((aP _).symm.trans h10)).pre
 case g=>
  have hk:G.1+1<=100:=(by have a:=(q_0 h3).1;have b:=q_1.1;omega);have E:=(cC q_1.2 (dn (dp hk) (by decide)) ((aP _).symm.trans h10)).ends (by omega) c;exact E.iZ
 case h|i=>
  have hk:G.1+1<=100:=(by have a:=(q_0 h3).1;have b:=q_1.1;omega);have E:=(cC q_1.2 (dn (dp hk) (by decide)) ((aP _).symm.trans h10)).ends (by omega) c;exact absurd E.err h13
 case j=>
  have hk:G.1+1<=100:=(by have a:=(q_0 h3).1;have b:=q_1.1;omega);have E:=(cC q_1.2 (dn (dp hk) (by decide)) ((aP _).symm.trans h10)).ends (by omega) c;exact E.small
 case k=>
  have hk:G.1+1<=100:=(by have a:=(q_0 h3).1;have b:=q_1.1;omega);have E:=(cC q_1.2 (dn (dp hk) (by decide)) ((aP _).symm.trans h10)).ends (by omega) c;rcases E.two with e|e
  ·exact et ((q_2 e).symm.trans h16)
  ·exact et ((q_3 e).symm.trans h17)
 case m|u|a3|ab=>
  have hk:G.1+1<=100:=(by have a:=(q_0 h3).1;have b:=q_1.1;omega);have E:=(cC q_1.2 (dn (dp hk) (by decide)) ((aP _).symm.trans h10)).ends (by omega) c;exact⟨⟨by decide,by decide⟩,E.pre⟩
 case n=>
  have hk:G.1+1<=100:=(by have a:=(q_0 h3).1;have b:=q_1.1;omega);have E:=(cC q_1.2 (dn (dp hk) (by decide)) ((aP _).symm.trans h10)).ends (by omega) c;have Z:=E.ep h19;exact absurd Z.1 (cJ h21)
 case o=>
  have hk:G.1+1<=100:=(by have a:=(q_0 h3).1;have b:=q_1.1;omega);have E:=(cC q_1.2 (dn (dp hk) (by decide)) ((aP _).symm.trans h10)).ends (by omega) c;have Z:=E.ep h19;obtain⟨Z1,m,Z2⟩:=Z;exact⟨Z2.fJ,Z2.sec⟩
 case p|q=>
  have hk:G.1+1<=100:=(by have a:=(q_0 h3).1;have b:=q_1.1;omega);have E:=(cC q_1.2 (dn (dp hk) (by decide)) ((aP _).symm.trans h10)).ends (by omega) c;have Z:=E.ep h19;obtain⟨Z1,m,Z2⟩:=Z;exact absurd Z2.fA h22
 case r=>
  have hk:G.1+1<=100:=(by have a:=(q_0 h3).1;have b:=q_1.1;omega);have E:=(cC q_1.2 (dn (dp hk) (by decide)) ((aP _).symm.trans h10)).ends (by omega) c;have Z:=E.ep h19;obtain⟨Z1,m,Z2⟩:=Z;exact Z2.jj
 case s=>
  have hk:G.1+1<=100:=(by have a:=(q_0 h3).1;have b:=q_1.1;omega);have E:=(cC q_1.2 (dn (dp hk) (by decide)) ((aP _).symm.trans h10)).ends (by omega) c;have Z:=E.ep h19;obtain⟨Z1,m,Z2⟩:=Z;exact Z2.small
 case t=>
  have hk:G.1+1<=100:=(by have a:=(q_0 h3).1;have b:=q_1.1;omega);have E:=(cC q_1.2 (dn (dp hk) (by decide)) ((aP _).symm.trans h10)).ends (by omega) c;have Z:=E.ep h19;obtain⟨Z1,m,Z2⟩:=Z;exact q_4 (congrArg df Z2.ja)
 case v=>
  have hk:G.1+1<=100:=(by have a:=(q_0 h3).1;have b:=q_1.1;omega);have E:=(cC q_1.2 (dn (dp hk) (by decide)) ((aP _).symm.trans h10)).ends (by omega) c;have Z:=E.dU h19;exact absurd Z.1 (cJ h21)
 case w=>
  have hk:G.1+1<=100:=(by have a:=(q_0 h3).1;have b:=q_1.1;omega);have E:=(cC q_1.2 (dn (dp hk) (by decide)) ((aP _).symm.trans h10)).ends (by omega) c;have Z:=E.dU h19;obtain⟨Z1,m,Z2⟩:=Z;exact⟨Z2.fJ,Z2.sec⟩
 case x|y=>
  have hk:G.1+1<=100:=(by have a:=(q_0 h3).1;have b:=q_1.1;omega);have E:=(cC q_1.2 (dn (dp hk) (by decide)) ((aP _).symm.trans h10)).ends (by omega) c;have Z:=E.dU h19;obtain⟨Z1,m,Z2⟩:=Z;exact absurd Z2.fA h22
 case z=>
  have hk:G.1+1<=100:=(by have a:=(q_0 h3).1;have b:=q_1.1;omega);have E:=(cC q_1.2 (dn (dp hk) (by decide)) ((aP _).symm.trans h10)).ends (by omega) c;have Z:=E.dU h19;obtain⟨Z1,m,Z2⟩:=Z;exact Z2.jj
 case a0=>
  have hk:G.1+1<=100:=(by have a:=(q_0 h3).1;have b:=q_1.1;omega);have E:=(cC q_1.2 (dn (dp hk) (by decide)) ((aP _).symm.trans h10)).ends (by omega) c;have Z:=E.dU h19;obtain⟨Z1,m,Z2⟩:=Z;exact Z2.small
 case a1=>
  have hk:G.1+1<=100:=(by have a:=(q_0 h3).1;have b:=q_1.1;omega);have E:=(cC q_1.2 (dn (dp hk) (by decide)) ((aP _).symm.trans h10)).ends (by omega) c;have Z:=E.dU h19;obtain⟨Z1,m,Z2⟩:=Z;exact q_4 (congrArg df Z2.ja)
 case a4=>
  have hk:G.1+1<=100:=(by have a:=(q_0 h3).1;have b:=q_1.1;omega);have E:=(cC q_1.2 (dn (dp hk) (by decide)) ((aP _).symm.trans h10)).ends (by omega) c;have Z:=E.ep h18;exact absurd Z.1 (cJ h20)
 case a5=>
  have hk:G.1+1<=100:=(by have a:=(q_0 h3).1;have b:=q_1.1;omega);have E:=(cC q_1.2 (dn (dp hk) (by decide)) ((aP _).symm.trans h10)).ends (by omega) c;have Z:=E.ep h18;obtain⟨Z1,m,Z2⟩:=Z;exact⟨Z2.fJ,Z2.sec⟩
 case a6|a7=>
  have hk:G.1+1<=100:=(by have a:=(q_0 h3).1;have b:=q_1.1;omega);have E:=(cC q_1.2 (dn (dp hk) (by decide)) ((aP _).symm.trans h10)).ends (by omega) c;have Z:=E.ep h18;obtain⟨Z1,m,Z2⟩:=Z;exact absurd Z2.fA h21
 case a8=>
  have hk:G.1+1<=100:=(by have a:=(q_0 h3).1;have b:=q_1.1;omega);have E:=(cC q_1.2 (dn (dp hk) (by decide)) ((aP _).symm.trans h10)).ends (by omega) c;have Z:=E.ep h18;obtain⟨Z1,m,Z2⟩:=Z;exact Z2.jj
 case a9=>
  have hk:G.1+1<=100:=(by have a:=(q_0 h3).1;have b:=q_1.1;omega);have E:=(cC q_1.2 (dn (dp hk) (by decide)) ((aP _).symm.trans h10)).ends (by omega) c;have Z:=E.ep h18;obtain⟨Z1,m,Z2⟩:=Z;exact Z2.small
 case aa=>
  have hk:G.1+1<=100:=(by have a:=(q_0 h3).1;have b:=q_1.1;omega);have E:=(cC q_1.2 (dn (dp hk) (by decide)) ((aP _).symm.trans h10)).ends (by omega) c;have Z:=E.ep h18;obtain⟨Z1,m,Z2⟩:=Z;exact q_3 (congrArg df Z2.ja)
 case ac=>
  have hk:G.1+1<=100:=(by have a:=(q_0 h3).1;have b:=q_1.1;omega);have E:=(cC q_1.2 (dn (dp hk) (by decide)) ((aP _).symm.trans h10)).ends (by omega) c;have Z:=E.dU h18;exact absurd Z.1 (cJ h20)
 case ad=>
  have hk:G.1+1<=100:=(by have a:=(q_0 h3).1;have b:=q_1.1;omega);have E:=(cC q_1.2 (dn (dp hk) (by decide)) ((aP _).symm.trans h10)).ends (by omega) c;have Z:=E.dU h18;obtain⟨Z1,m,Z2⟩:=Z;exact⟨Z2.fJ,Z2.sec⟩
 case ae|af=>
  have hk:G.1+1<=100:=(by have a:=(q_0 h3).1;have b:=q_1.1;omega);have E:=(cC q_1.2 (dn (dp hk) (by decide)) ((aP _).symm.trans h10)).ends (by omega) c;have Z:=E.dU h18;obtain⟨Z1,m,Z2⟩:=Z;exact absurd Z2.fA h21
 case ag=>
  have hk:G.1+1<=100:=(by have a:=(q_0 h3).1;have b:=q_1.1;omega);have E:=(cC q_1.2 (dn (dp hk) (by decide)) ((aP _).symm.trans h10)).ends (by omega) c;have Z:=E.dU h18;obtain⟨Z1,m,Z2⟩:=Z;exact Z2.jj
 case ah=>
  have hk:G.1+1<=100:=(by have a:=(q_0 h3).1;have b:=q_1.1;omega);have E:=(cC q_1.2 (dn (dp hk) (by decide)) ((aP _).symm.trans h10)).ends (by omega) c;have Z:=E.dU h18;obtain⟨Z1,m,Z2⟩:=Z;exact Z2.small
 case ai=>
  have hk:G.1+1<=100:=(by have a:=(q_0 h3).1;have b:=q_1.1;omega);have E:=(cC q_1.2 (dn (dp hk) (by decide)) ((aP _).symm.trans h10)).ends (by omega) c;have Z:=E.dU h18;obtain⟨Z1,m,Z2⟩:=Z;exact q_3 (congrArg df Z2.ja)
 case aj=>
  have hk:G.1+1<=100:=(by have a:=(q_0 h3).1;have b:=q_1.1;omega);exact absurd ‹_› (zW _ _)
 case ak|an|c1|c4=>
  have hk:G.1+1<=100:=(by have a:=(q_0 h3).1;have b:=q_1.1;omega);simp only[aR];omega
 case al=>
  have hk:G.1+1<=100:=(by have a:=(q_0 h3).1;have b:=q_1.1;omega);have hn:=(aP _).symm.trans h12;have hb:=Ir q_1.2 (dn (dp hk) (by decide)) hn;exact⟨rfl,(G.1+1,(bY G.2 _).1),⟨by simp only;omega,hb.self⟩,by simp only;omega,⟨by simp only;omega,hb.list.symm,dc⟩,⟨rfl,dc⟩,rfl,congrArg (fun z=>(_,_,_,_,_,(z,()),())) hb.list.symm⟩
 case am=>
  have hk:G.1+1<=100:=(by have a:=(q_0 h3).1;have b:=q_1.1;omega);exact absurd ((aP _).trans (J6 q_1.2 (dn (dp hk) (by decide)) fun z=>h10 ((aP _).trans z))) h11
 case ao=>
  have hk:G.1+1<=100:=(by have a:=(q_0 h3).1;have b:=q_1.1;omega);have hn:=(aP _).symm.trans h11;have hb:=Ir q_1.2 (dn (dp hk) (by decide)) hn;exact⟨rfl,(G.1+1,(bY G.2 _).1),⟨by simp only;omega,hb.self⟩,by simp only;omega,⟨by simp only;omega,hb.list.symm,dc⟩,⟨rfl,dc⟩,rfl,congrArg (fun z=>(_,_,_,_,_,(z,()),())) hb.list.symm⟩
 case aq=>
  have hk:G.1+1<=100:=(by have a:=(q_0 h3).1;have b:=q_1.1;omega);have hp:=q_1.2.tI (dn (dp hk) (by decide));exact⟨dn hp.1 (by decide),hp.2⟩
 case av=>
  have hk:G.1+1<=100:=(by have a:=(q_0 h3).1;have b:=q_1.1;omega);exact(bP q_1.2 (dn (dp hk) (by decide)) ((aP _).symm.trans h10)).pre
 case aw=>
  have hk:G.1+1<=100:=(by have a:=(q_0 h3).1;have b:=q_1.1;omega);have E:=(bP q_1.2 (dn (dp hk) (by decide)) ((aP _).symm.trans h10)).ends (by omega) c;exact E.iZ
 case ax|ay=>
  have hk:G.1+1<=100:=(by have a:=(q_0 h3).1;have b:=q_1.1;omega);have E:=(bP q_1.2 (dn (dp hk) (by decide)) ((aP _).symm.trans h10)).ends (by omega) c;exact absurd E.err h13
 case az=>
  have hk:G.1+1<=100:=(by have a:=(q_0 h3).1;have b:=q_1.1;omega);have E:=(bP q_1.2 (dn (dp hk) (by decide)) ((aP _).symm.trans h10)).ends (by omega) c;exact E.small
 case b0=>
  have hk:G.1+1<=100:=(by have a:=(q_0 h3).1;have b:=q_1.1;omega);have E:=(bP q_1.2 (dn (dp hk) (by decide)) ((aP _).symm.trans h10)).ends (by omega) c;rcases E.two with e|e
  ·exact et ((q_2 e).symm.trans h16)
  ·exact et ((q_3 e).symm.trans h17)
 case b2|ba|bj|br=>
  have hk:G.1+1<=100:=(by have a:=(q_0 h3).1;have b:=q_1.1;omega);have E:=(bP q_1.2 (dn (dp hk) (by decide)) ((aP _).symm.trans h10)).ends (by omega) c;exact⟨⟨by decide,by decide⟩,E.pre⟩
 case b3=>
  have hk:G.1+1<=100:=(by have a:=(q_0 h3).1;have b:=q_1.1;omega);have E:=(bP q_1.2 (dn (dp hk) (by decide)) ((aP _).symm.trans h10)).ends (by omega) c;have Z:=E.ep h19;exact absurd Z.1 (cJ h21)
 case b4=>
  have hk:G.1+1<=100:=(by have a:=(q_0 h3).1;have b:=q_1.1;omega);have E:=(bP q_1.2 (dn (dp hk) (by decide)) ((aP _).symm.trans h10)).ends (by omega) c;have Z:=E.ep h19;obtain⟨Z1,m,Z2⟩:=Z;exact⟨Z2.fJ,Z2.sec⟩
 case b5|b6=>
  have hk:G.1+1<=100:=(by have a:=(q_0 h3).1;have b:=q_1.1;omega);have E:=(bP q_1.2 (dn (dp hk) (by decide)) ((aP _).symm.trans h10)).ends (by omega) c;have Z:=E.ep h19;obtain⟨Z1,m,Z2⟩:=Z;exact absurd Z2.fA h22
 case b7=>
  have hk:G.1+1<=100:=(by have a:=(q_0 h3).1;have b:=q_1.1;omega);have E:=(bP q_1.2 (dn (dp hk) (by decide)) ((aP _).symm.trans h10)).ends (by omega) c;have Z:=E.ep h19;obtain⟨Z1,m,Z2⟩:=Z;exact Z2.jj
 case b8=>
  have hk:G.1+1<=100:=(by have a:=(q_0 h3).1;have b:=q_1.1;omega);have E:=(bP q_1.2 (dn (dp hk) (by decide)) ((aP _).symm.trans h10)).ends (by omega) c;have Z:=E.ep h19;obtain⟨Z1,m,Z2⟩:=Z;exact Z2.small
 case b9=>
  have hk:G.1+1<=100:=(by have a:=(q_0 h3).1;have b:=q_1.1;omega);have E:=(bP q_1.2 (dn (dp hk) (by decide)) ((aP _).symm.trans h10)).ends (by omega) c;have Z:=E.ep h19;obtain⟨Z1,m,Z2⟩:=Z;exact q_4 (congrArg df Z2.ja)
 case bb=>
  have hk:G.1+1<=100:=(by have a:=(q_0 h3).1;have b:=q_1.1;omega);have E:=(bP q_1.2 (dn (dp hk) (by decide)) ((aP _).symm.trans h10)).ends (by omega) c;have Z:=E.dU h19;exact absurd Z.1 (cJ h21)
 case bc=>
  have hk:G.1+1<=100:=(by have a:=(q_0 h3).1;have b:=q_1.1;omega);have E:=(bP q_1.2 (dn (dp hk) (by decide)) ((aP _).symm.trans h10)).ends (by omega) c;have Z:=E.dU h19;obtain⟨Z1,m,Z2⟩:=Z;exact⟨Z2.fJ,Z2.sec⟩
 case bd|be=>
  have hk:G.1+1<=100:=(by have a:=(q_0 h3).1;have b:=q_1.1;omega);have E:=(bP q_1.2 (dn (dp hk) (by decide)) ((aP _).symm.trans h10)).ends (by omega) c;have Z:=E.dU h19;obtain⟨Z1,m,Z2⟩:=Z;exact absurd Z2.fA h22
 case bf=>
  have hk:G.1+1<=100:=(by have a:=(q_0 h3).1;have b:=q_1.1;omega);have E:=(bP q_1.2 (dn (dp hk) (by decide)) ((aP _).symm.trans h10)).ends (by omega) c;have Z:=E.dU h19;obtain⟨Z1,m,Z2⟩:=Z;exact Z2.jj
 case bg=>
  have hk:G.1+1<=100:=(by have a:=(q_0 h3).1;have b:=q_1.1;omega);have E:=(bP q_1.2 (dn (dp hk) (by decide)) ((aP _).symm.trans h10)).ends (by omega) c;have Z:=E.dU h19;obtain⟨Z1,m,Z2⟩:=Z;exact Z2.small
 case bh=>
  have hk:G.1+1<=100:=(by have a:=(q_0 h3).1;have b:=q_1.1;omega);have E:=(bP q_1.2 (dn (dp hk) (by decide)) ((aP _).symm.trans h10)).ends (by omega) c;have Z:=E.dU h19;obtain⟨Z1,m,Z2⟩:=Z;exact q_4 (congrArg df Z2.ja)
 case bk=>
  have hk:G.1+1<=100:=(by have a:=(q_0 h3).1;have b:=q_1.1;omega);have E:=(bP q_1.2 (dn (dp hk) (by decide)) ((aP _).symm.trans h10)).ends (by omega) c;have Z:=E.ep h18;exact absurd Z.1 (cJ h20)
 case bl=>
  have hk:G.1+1<=100:=(by have a:=(q_0 h3).1;have b:=q_1.1;omega);have E:=(bP q_1.2 (dn (dp hk) (by decide)) ((aP _).symm.trans h10)).ends (by omega) c;have Z:=E.ep h18;obtain⟨Z1,m,Z2⟩:=Z;exact⟨Z2.fJ,Z2.sec⟩
 case bm|bn=>
  have hk:G.1+1<=100:=(by have a:=(q_0 h3).1;have b:=q_1.1;omega);have E:=(bP q_1.2 (dn (dp hk) (by decide)) ((aP _).symm.trans h10)).ends (by omega) c;have Z:=E.ep h18;obtain⟨Z1,m,Z2⟩:=Z;exact absurd Z2.fA h21
 case bo=>
  have hk:G.1+1<=100:=(by have a:=(q_0 h3).1;have b:=q_1.1;omega);have E:=(bP q_1.2 (dn (dp hk) (by decide)) ((aP _).symm.trans h10)).ends (by omega) c;have Z:=E.ep h18;obtain⟨Z1,m,Z2⟩:=Z;exact Z2.jj
 case bp=>
  have hk:G.1+1<=100:=(by have a:=(q_0 h3).1;have b:=q_1.1;omega);have E:=(bP q_1.2 (dn (dp hk) (by decide)) ((aP _).symm.trans h10)).ends (by omega) c;have Z:=E.ep h18;obtain⟨Z1,m,Z2⟩:=Z;exact Z2.small
 case bq=>
  have hk:G.1+1<=100:=(by have a:=(q_0 h3).1;have b:=q_1.1;omega);have E:=(bP q_1.2 (dn (dp hk) (by decide)) ((aP _).symm.trans h10)).ends (by omega) c;have Z:=E.ep h18;obtain⟨Z1,m,Z2⟩:=Z;exact q_3 (congrArg df Z2.ja)
 case bs=>
  have hk:G.1+1<=100:=(by have a:=(q_0 h3).1;have b:=q_1.1;omega);have E:=(bP q_1.2 (dn (dp hk) (by decide)) ((aP _).symm.trans h10)).ends (by omega) c;have Z:=E.dU h18;exact absurd Z.1 (cJ h20)
 case bt=>
  have hk:G.1+1<=100:=(by have a:=(q_0 h3).1;have b:=q_1.1;omega);have E:=(bP q_1.2 (dn (dp hk) (by decide)) ((aP _).symm.trans h10)).ends (by omega) c;have Z:=E.dU h18;obtain⟨Z1,m,Z2⟩:=Z;exact⟨Z2.fJ,Z2.sec⟩
 case bu|bv=>
  have hk:G.1+1<=100:=(by have a:=(q_0 h3).1;have b:=q_1.1;omega);have E:=(bP q_1.2 (dn (dp hk) (by decide)) ((aP _).symm.trans h10)).ends (by omega) c;have Z:=E.dU h18;obtain⟨Z1,m,Z2⟩:=Z;exact absurd Z2.fA h21
 case bw=>
  have hk:G.1+1<=100:=(by have a:=(q_0 h3).1;have b:=q_1.1;omega);have E:=(bP q_1.2 (dn (dp hk) (by decide)) ((aP _).symm.trans h10)).ends (by omega) c;have Z:=E.dU h18;obtain⟨Z1,m,Z2⟩:=Z;exact Z2.jj
 case bx=>
  have hk:G.1+1<=100:=(by have a:=(q_0 h3).1;have b:=q_1.1;omega);have E:=(bP q_1.2 (dn (dp hk) (by decide)) ((aP _).symm.trans h10)).ends (by omega) c;have Z:=E.dU h18;obtain⟨Z1,m,Z2⟩:=Z;exact Z2.small
 case bz=>
  have hk:G.1+1<=100:=(by have a:=(q_0 h3).1;have b:=q_1.1;omega);have E:=(bP q_1.2 (dn (dp hk) (by decide)) ((aP _).symm.trans h10)).ends (by omega) c;have Z:=E.dU h18;obtain⟨Z1,m,Z2⟩:=Z;exact q_3 (congrArg df Z2.ja)
 case c0=>
  have hk:G.1+1<=100:=(by have a:=(q_0 h3).1;have b:=q_1.1;omega);exact absurd ‹_› (xk _ _)
 case c2=>
  have hk:G.1+1<=100:=(by have a:=(q_0 h3).1;have b:=q_1.1;omega);have hn:=(aP _).symm.trans h12;have hb:=EJ q_1.2 (dn (dp hk) (by decide)) hn;exact⟨rfl,(G.1+1,(dY G.2 _).1),⟨by simp only;omega,hb.self⟩,by simp only;omega,⟨by simp only;omega,hb.list.symm,dc⟩,⟨rfl,dc⟩,rfl,congrArg (fun z=>(_,_,_,_,_,(z,()),())) hb.list.symm⟩
 case c3=>
  have hk:G.1+1<=100:=(by have a:=(q_0 h3).1;have b:=q_1.1;omega);exact absurd ((aP _).trans (Is q_1.2 (dn (dp hk) (by decide)) fun z=>h10 ((aP _).trans z))) h11
 case c5=>
  have hk:G.1+1<=100:=(by have a:=(q_0 h3).1;have b:=q_1.1;omega);have hn:=(aP _).symm.trans h11;have hb:=EJ q_1.2 (dn (dp hk) (by decide)) hn;exact⟨rfl,(G.1+1,(dY G.2 _).1),⟨by simp only;omega,hb.self⟩,by simp only;omega,⟨by simp only;omega,hb.list.symm,dc⟩,⟨rfl,dc⟩,rfl,congrArg (fun z=>(_,_,_,_,_,(z,()),())) hb.list.symm⟩
 case c6=>
  have hk:G.1+1<=100:=(by have a:=(q_0 h3).1;have b:=q_1.1;omega);have E:=q_1.2.ends (by omega) c;exact E.iZ
 case c7|c8=>
  have hk:G.1+1<=100:=(by have a:=(q_0 h3).1;have b:=q_1.1;omega);have E:=q_1.2.ends (by omega) c;exact absurd E.err h8
 case c9=>
  have hk:G.1+1<=100:=(by have a:=(q_0 h3).1;have b:=q_1.1;omega);have E:=q_1.2.ends (by omega) c;exact E.small
 case ca=>
  have hk:G.1+1<=100:=(by have a:=(q_0 h3).1;have b:=q_1.1;omega);have E:=q_1.2.ends (by omega) c;rcases E.two with e|e
  ·exact et ((q_2 e).symm.trans h11)
  ·exact et ((q_3 e).symm.trans h12)
 case cc|ck|ct|d1=>
  have hk:G.1+1<=100:=(by have a:=(q_0 h3).1;have b:=q_1.1;omega);have E:=q_1.2.ends (by omega) c;exact⟨⟨by decide,by decide⟩,E.pre⟩
 case cd=>
  have hk:G.1+1<=100:=(by have a:=(q_0 h3).1;have b:=q_1.1;omega);have E:=q_1.2.ends (by omega) c;have Z:=E.ep h14;exact absurd Z.1 (cJ h16)
 case ce=>
  have hk:G.1+1<=100:=(by have a:=(q_0 h3).1;have b:=q_1.1;omega);have E:=q_1.2.ends (by omega) c;have Z:=E.ep h14;obtain⟨Z1,m,Z2⟩:=Z;exact⟨Z2.fJ,Z2.sec⟩
 case cf|cg=>
  have hk:G.1+1<=100:=(by have a:=(q_0 h3).1;have b:=q_1.1;omega);have E:=q_1.2.ends (by omega) c;have Z:=E.ep h14;obtain⟨Z1,m,Z2⟩:=Z;exact absurd Z2.fA h17
 case ch=>
  have hk:G.1+1<=100:=(by have a:=(q_0 h3).1;have b:=q_1.1;omega);have E:=q_1.2.ends (by omega) c;have Z:=E.ep h14;obtain⟨Z1,m,Z2⟩:=Z;exact Z2.jj
 case ci=>
  have hk:G.1+1<=100:=(by have a:=(q_0 h3).1;have b:=q_1.1;omega);have E:=q_1.2.ends (by omega) c;have Z:=E.ep h14;obtain⟨Z1,m,Z2⟩:=Z;exact Z2.small
 case cj=>
  have hk:G.1+1<=100:=(by have a:=(q_0 h3).1;have b:=q_1.1;omega);have E:=q_1.2.ends (by omega) c;have Z:=E.ep h14;obtain⟨Z1,m,Z2⟩:=Z;exact q_4 (congrArg df Z2.ja)
 case cl=>
  have hk:G.1+1<=100:=(by have a:=(q_0 h3).1;have b:=q_1.1;omega);have E:=q_1.2.ends (by omega) c;have Z:=E.dU h14;exact absurd Z.1 (cJ h16)
 case cm=>
  have hk:G.1+1<=100:=(by have a:=(q_0 h3).1;have b:=q_1.1;omega);have E:=q_1.2.ends (by omega) c;have Z:=E.dU h14;obtain⟨Z1,m,Z2⟩:=Z;exact⟨Z2.fJ,Z2.sec⟩
 case cn|co=>
  have hk:G.1+1<=100:=(by have a:=(q_0 h3).1;have b:=q_1.1;omega);have E:=q_1.2.ends (by omega) c;have Z:=E.dU h14;obtain⟨Z1,m,Z2⟩:=Z;exact absurd Z2.fA h17
 case cp=>
  have hk:G.1+1<=100:=(by have a:=(q_0 h3).1;have b:=q_1.1;omega);have E:=q_1.2.ends (by omega) c;have Z:=E.dU h14;obtain⟨Z1,m,Z2⟩:=Z;exact Z2.jj
 case cq=>
  have hk:G.1+1<=100:=(by have a:=(q_0 h3).1;have b:=q_1.1;omega);have E:=q_1.2.ends (by omega) c;have Z:=E.dU h14;obtain⟨Z1,m,Z2⟩:=Z;exact Z2.small
 case cr=>
  have hk:G.1+1<=100:=(by have a:=(q_0 h3).1;have b:=q_1.1;omega);have E:=q_1.2.ends (by omega) c;have Z:=E.dU h14;obtain⟨Z1,m,Z2⟩:=Z;exact q_4 (congrArg df Z2.ja)
 case cu=>
  have hk:G.1+1<=100:=(by have a:=(q_0 h3).1;have b:=q_1.1;omega);have E:=q_1.2.ends (by omega) c;have Z:=E.ep h13;exact absurd Z.1 (cJ h15)
 case cv=>
  have hk:G.1+1<=100:=(by have a:=(q_0 h3).1;have b:=q_1.1;omega);have E:=q_1.2.ends (by omega) c;have Z:=E.ep h13;obtain⟨Z1,m,Z2⟩:=Z;exact⟨Z2.fJ,Z2.sec⟩
 case cw|cx=>
  have hk:G.1+1<=100:=(by have a:=(q_0 h3).1;have b:=q_1.1;omega);have E:=q_1.2.ends (by omega) c;have Z:=E.ep h13;obtain⟨Z1,m,Z2⟩:=Z;exact absurd Z2.fA h16
 case cy=>
  have hk:G.1+1<=100:=(by have a:=(q_0 h3).1;have b:=q_1.1;omega);have E:=q_1.2.ends (by omega) c;have Z:=E.ep h13;obtain⟨Z1,m,Z2⟩:=Z;exact Z2.jj
 case cz=>
  have hk:G.1+1<=100:=(by have a:=(q_0 h3).1;have b:=q_1.1;omega);have E:=q_1.2.ends (by omega) c;have Z:=E.ep h13;obtain⟨Z1,m,Z2⟩:=Z;exact Z2.small
 case d0=>
  have hk:G.1+1<=100:=(by have a:=(q_0 h3).1;have b:=q_1.1;omega);have E:=q_1.2.ends (by omega) c;have Z:=E.ep h13;obtain⟨Z1,m,Z2⟩:=Z;exact q_3 (congrArg df Z2.ja)
 case d2=>
  have hk:G.1+1<=100:=(by have a:=(q_0 h3).1;have b:=q_1.1;omega);have E:=q_1.2.ends (by omega) c;have Z:=E.dU h13;exact absurd Z.1 (cJ h15)
 case d3=>
  have hk:G.1+1<=100:=(by have a:=(q_0 h3).1;have b:=q_1.1;omega);have E:=q_1.2.ends (by omega) c;have Z:=E.dU h13;obtain⟨Z1,m,Z2⟩:=Z;exact⟨Z2.fJ,Z2.sec⟩
 case d4|d5=>
  have hk:G.1+1<=100:=(by have a:=(q_0 h3).1;have b:=q_1.1;omega);have E:=q_1.2.ends (by omega) c;have Z:=E.dU h13;obtain⟨Z1,m,Z2⟩:=Z;exact absurd Z2.fA h16
 case d6=>
  have hk:G.1+1<=100:=(by have a:=(q_0 h3).1;have b:=q_1.1;omega);have E:=q_1.2.ends (by omega) c;have Z:=E.dU h13;obtain⟨Z1,m,Z2⟩:=Z;exact Z2.jj
 case d7=>
  have hk:G.1+1<=100:=(by have a:=(q_0 h3).1;have b:=q_1.1;omega);have E:=q_1.2.ends (by omega) c;have Z:=E.dU h13;obtain⟨Z1,m,Z2⟩:=Z;exact Z2.small
 case d8=>
  have hk:G.1+1<=100:=(by have a:=(q_0 h3).1;have b:=q_1.1;omega);have E:=q_1.2.ends (by omega) c;have Z:=E.dU h13;obtain⟨Z1,m,Z2⟩:=Z;exact q_3 (congrArg df Z2.ja)
theorem Tryz.D8:cG Tryz.prog Tryz.B.eT Tryz.X 3 [.slice eX,.int .i64,.int .u64] [.bool] (fun _=>True) (fun _ y=>y=true):=
 dk (B:=(iR Tryz.B [6000011])) (X:=Tryz.X) (bU.hint (l:=[6000011]) Tryz.GH) Tryz.func3 (by kernel_rfl) (fun x=>Tryz.Dh x.1 x.2.1 x.2.2) (fun x hw hp=>D7 x.1 x.2.1 x.2.2 hw)
open Go.ChangeShapes Go.WideShapes Go.ChangeAt Go.RowKit in
theorem Tryz.vQ{W:World}(hL:laidMetH Tryz.prog ew.laid W)(hsh:W.ShapedOpen Tryz.prog):Tryz.Mw W:=by
 rw[e2 _ _ _ (by kernel_rfl)]at hL;exact⟨CA (g:=1) (t:=242) (e:=23) (n:=20) (by kernel_rfl) (by kernel_rfl) (by kernel_rfl) (by kernel_rfl) (by kernel_rfl) (by kernel_rfl) ((show(Rows.laid_internal_strconv_uint64pow10:DataW Unit)=Lib.tabData .u64 Lib.pow10Tab from by kernel_rfl)▸e0 hL (.tail _ (.tail _ (.head _)))),
  Cz (g:=0) (t:=3) (zero:=#[.int .i64 0]) hsh (of_decide_eq_true (by kernel_rfl)) (by kernel_rfl) rfl (by kernel_rfl) (by kernel_rfl) (by kernel_rfl),
  pZ (g:=4) (t:=36) (by kernel_rfl) (by kernel_rfl) (by kernel_rfl) (e0 hL (.tail _ (.tail _ (.tail _ (.tail _ (.tail _ (.head _))))))),
  pZ (g:=5) (t:=36) (by kernel_rfl) (by kernel_rfl) (by kernel_rfl) (e0 hL (.tail _ (.tail _ (.tail _ (.tail _ (.head _))))))⟩
open Go.ChangeShapes Go.WideShapes Go.ChangeAt Go.RowKit in
set_option maxRecDepth 100000 in
theorem xA(os:Os)(started:os.Started)(H:Type)(enc:TypeId×Value->H) :
  ReturnsInHanded {} Tryz.checked os 3 .any (fun w args=>(e1.pre enc Tryz.prog Tryz.f3 [] false w args/\laidMetH Tryz.prog ew.laid w)/\sizedMet enc Tryz.prog Tryz.f3 (OpenSpec.ofChange e1) false w args) (e1.post enc Tryz.prog Tryz.f3 false true false false):=by
 refine DP (C:=Tryz.checked) (X:=fun w _=>laidMetH Tryz.prog ew.laid w) (fun _ _ _ hh h=>h.of_heap hh) (by kernel_rfl) started (by kernel_rfl) Tryz.func3
  (ChangeSpec.witness_shaped (enc:=enc) (C:=Tryz.checked) (os:=os) (X:=fun w _=>laidMetH Tryz.prog ew.laid w) false (World.laidAll Tryz.prog os ew.laid) #[.slice none 0 0,.int .i64 0,.int .u64 0] 8 (World.laidAll_os _ _ _) (World.shaped_of_ZipB (by kernel_rfl) (by kernel_rfl)) (by kernel_rfl) (by kernel_rfl) (by kernel_rfl)
   (by rw[e2 _ _ _ (by kernel_rfl)];exact laidMet_laidAll _ (by kernel_rfl) (by kernel_rfl))) ?_
 intro W base args ds gs before hval hW hL hsh;exact Hl (C:=Tryz.checked) (n:=16) rfl (by kernel_rfl) (fun ds h=>by match ds,h with|[_,_,_],_=>rfl) (by kernel_rfl) (by kernel_rfl) (by kernel_rfl) (tb:=4) (by kernel_rfl) Tryz.D8 hval hW (Tryz.vQ hL hsh) (fun _ _=>trivial)
open Go.ChangeShapes Go.WideShapes Go.ChangeAt Go.RowKit in
theorem Ay:Rows.TopCrashSaid:=
 OpenClaim.holds_of_wide 3 Tryz.f3 rfl rfl rfl rfl rfl rfl rfl ⟨rfl,rfl,rfl,rfl,rfl⟩ rfl rfl rfl rfl rfl (by kernel_rfl) Tryz.func3 (by kernel_rfl)
  (of_decide_eq_true (by kernel_rfl)) (by unfold Func.isWrapper;first|(rw[if_pos (by decide+kernel)];kernel_rfl)|(rw[if_neg (by decide+kernel)];exact⟨rfl,rfl⟩))
  (fun os started H enc _=>xA os started H enc)
theorem topCrash_holds:Rows.TopCrashCardSaid:=
 Claim7.holds_tied_plain_at .later [] [.data,.data,.data,.data,.sentinel,.sentinel,.pinned] true (true,"6a9693e68608825ffcfea3137400340b6490202206f494b6fbc4e452f2b457e4") true
  Ay (fun _ h=>by cases h) (by kernel_rfl) (fun _ h=>by cases h) topCrash_row_tie rfl ⟨rfl,rfl⟩ (by kernel_rfl) rfl
  (fun f fn hf hfn=>by
   obtain rfl:f=3:=e3 ((show Tryz.prog.funcNamed ew.func=some 3 by kernel_rfl).symm.trans hf) |>.symm
   obtain rfl:fn=Tryz.f3:=(e3 (Tryz.func3.symm.trans hfn)).symm;exact⟨by kernel_rfl,fun j t ht=>by
    have hall:(Tryz.f3.params.toList.all fun t =>!Tryz.prog.wantsStandIn t)=true:=by kernel_rfl
    have hm:t∈Tryz.f3.params.toList:=Array.mem_def.1 (Array.mem_of_getElem? ht);exact(by simpa using List.all_eq_true.1 hall t hm:Tryz.prog.wantsStandIn t=false)⟩)
  (by kernel_rfl)
#print axioms topCrash_holds
end Go.Proofs.YtgokjhhcfemnhacGreatDoor

