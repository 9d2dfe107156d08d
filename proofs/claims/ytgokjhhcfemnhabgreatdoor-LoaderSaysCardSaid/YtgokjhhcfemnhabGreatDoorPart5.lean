/- A part of the proof that the law LoaderSaysCard holds of the given program: facts that are used there. -/
import Derived.Test.YtgokjhhcfemnhabGreatDoorPart4
set_option linter.unusedSimpArgs false
set_option linter.unusedVariables false
set_option maxRecDepth 100000
set_option maxHeartbeats 4000000
set_option linter.defProp false
noncomputable section
open True renaming intro->dT
open List renaming length->gE,nil->hq,take->hx,length_singleton->hz,drop->hB,length_append->hE,length_take->hM,take_of_length_le->hN,any->hP,set->hR,length_cons->hS,length_nil->hT,length_map->hV,filter->hX
open Prod renaming snd->gN,fst->hg
open Int renaming toNat->hA,toNat_natCast->hC,le_antisymm->hJ,tmod->hY,tdiv_eq_ediv_of_nonneg->ih,tmod_eq_emod_of_nonneg->ix,zero_sub->j3
open Go.IntKind renaming i64->hD,wrap->hK,u8->hW
open Nat renaming zero_le->hF,not_lt_zero->hQ,le_trans->j2
open Go.Lib renaming itoa->hI
open UInt8 renaming toNat->hL
open Bool renaming eq_iff_iff->j1,noConfusion->j4
namespace Go.Proofs.YtgokjhhcfemnhabGreatDoor
open Go.Vg Go.Mrl
def Nj(a:List Int)(b:List Int):cU:=[(0,fun st=>{X:=Nat,inv:=fun i=>i<=a.length/\∀j,j<i->nth (.int .i64) a j=nth (.int .i64) b j,bF:=fun i=>a.length-i,aY:=fun i=>[(5,sI i)],keep:=[0,1]})]
def Hd(a:List Int)(b:List Int)(hw:eD [.slice (.int .i64),.slice (.int .i64)] (a,b)):(cL Tryz.B [] Tryz.f45 (Nj a b) [.slice (.int .i64),.slice (.int .i64)] [.bool] (fun x y=>y=(fun x=>mR x.1 x.2) x) (a,b)).holds:=by
 refine holds_of (p:=
  let za:=gE a
  let zb:=(↑(gE b):Int)
  let zc:=false=mR a b
  let zd:=Ty.int hD
  za<=aI->gE b<=aI->(((↑za:Int) != zb)=true->zc)/\(((↑za:Int) != zb)=false->(∃(x:Nat),(x<=za/\∀(j:Nat),j<x->nth zd a j=nth zd b j)/\(0=(↑x:Int)/\True)/\True)/\∀E:Nat,(E<=za/\∀(j:Nat),j<E->nth zd a j=nth zd b j)->za<=aI->((decide ((↑E:Int)<(↑za:Int)))=true->(0<=(↑E:Int)/\(↑E:Int)<(↑za:Int))/\(0<=(↑E:Int)/\(↑E:Int)<zb)/\((nth zd a E != nth zd b E)=true->zc)/\((nth zd a E != nth zd b E)=false->aF (↑E:Int)->aF 1->aF ((↑E:Int)+1)/\∃(x':Nat),(x'<=za/\∀(j:Nat),j<x'->nth zd a j=nth zd b j)/\za-x'<za-E/\((↑E:Int)+1=(↑x':Int)/\True)/\True))/\((decide ((↑E:Int)<(↑za:Int)))=false->true=mR a b))) (by kernel_rfl) ?_
 dsimp -iota -proj -eta only;refine fun h0 h1=>iN (fun h2=>(UJ ‹_›)) (fun h2=>⟨(⟨0,⟨by omega,fun j hj=>by omega⟩,⟨rfl,dT⟩,dT⟩),fun E q_0 h3=>iL (fun h4=>⟨?a,?b,iN (fun h5=>(YA (i:=E) ‹_›)) (fun h5 h6 h7=>⟨(by simp only[aF,aI]at*;omega),(⟨E+1,⟨by omega,Am q_0.2 ‹_›⟩,by omega,⟨by omega,dT⟩,(by trivial)⟩)⟩)⟩) (fun h4=>(RN ‹_› (fun i hi=>q_0.2 i (by omega))))⟩)
 case a|b=>omega
def Tryz.rY:bO Tryz.prog Tryz.B.eT Tryz.X 45 [.slice (.int .i64),.slice (.int .i64)] [.bool] (fun _=>True) (fun x y=>y=(fun x=>mR x.1 x.2) x):=
 bP (X:=Tryz.X) (bJ Tryz.bI) Tryz.func45 (by kernel_rfl) (fun x=>Nj x.1 x.2) (fun x hw hp=>Hd x.1 x.2 hw)
def Nk(a:List (List UInt8))(b:List (List UInt8)):cU:=[(0,fun st=>{X:=Nat,inv:=fun i=>i<=a.length/\∀j,j<i->nth .str a j=nth .str b j,bF:=fun i=>a.length-i,aY:=fun i=>[(5,sI i)],keep:=[0,1]})]
def Nl(a:List (List UInt8))(b:List (List UInt8))(hw:eD [.slice .str,.slice .str] (a,b)):(cL Tryz.B [] Tryz.f23 (Nk a b) [.slice .str,.slice .str] [.bool] (fun x y=>y=(fun x=>lC x.1 x.2) x) (a,b)).holds:=by
 refine holds_of (p:=
  let za:=gE a
  let zb:=(↑(gE b):Int)
  let zc:=false=lC a b
  za<=aI->gE b<=aI->(((↑za:Int) != zb)=true->zc)/\(((↑za:Int) != zb)=false->(∃(x:Nat),(x<=za/\∀(j:Nat),j<x->nth Ty.str a j=nth Ty.str b j)/\(0=(↑x:Int)/\True)/\True)/\∀E:Nat,(E<=za/\∀(j:Nat),j<E->nth Ty.str a j=nth Ty.str b j)->za<=aI->((decide ((↑E:Int)<(↑za:Int)))=true->(0<=(↑E:Int)/\(↑E:Int)<(↑za:Int))/\(0<=(↑E:Int)/\(↑E:Int)<zb)/\((!nth Ty.str a E == nth Ty.str b E)=true->zc)/\((!nth Ty.str a E == nth Ty.str b E)=false->aF (↑E:Int)->aF 1->aF ((↑E:Int)+1)/\∃(x':Nat),(x'<=za/\∀(j:Nat),j<x'->nth Ty.str a j=nth Ty.str b j)/\za-x'<za-E/\((↑E:Int)+1=(↑x':Int)/\True)/\True))/\((decide ((↑E:Int)<(↑za:Int)))=false->true=lC a b))) (by kernel_rfl) ?_
 dsimp -iota -proj -eta only;refine fun h0 h1=>iN (fun h2=>(UK ‹_›)) (fun h2=>⟨(⟨0,⟨by omega,fun j hj=>by omega⟩,⟨rfl,dT⟩,dT⟩),fun E q_0 h3=>iL (fun h4=>⟨?a,?b,⟨fun h5 =>?c,fun h5 h6 h7=>⟨?d,?e⟩⟩⟩) (fun h4=>(RO ‹_› (fun i hi=>q_0.2 i (by omega))))⟩)
 case a|b=>omega
 case c=>
  simp only[bl,reduceCtorEq]at h5;exact YB (i:=E) ‹_›
 case d=>
  simp only[bl,reduceCtorEq]at h5;simp only[aF,aI]at*;omega
 case e=>
  simp only[bl,reduceCtorEq]at h5;exact⟨E+1,⟨by omega,Am q_0.2 ‹_›⟩,by omega,⟨by omega,dT⟩,(by trivial)⟩
def Tryz.Bu:bO Tryz.prog Tryz.B.eT Tryz.X 23 [.slice .str,.slice .str] [.bool] (fun _=>True) (fun x y=>y=(fun x=>lC x.1 x.2) x):=
 bP (X:=Tryz.X) (bJ Tryz.bI) Tryz.func23 (by kernel_rfl) (fun x=>Nk x.1 x.2) (fun x hw hp=>Nl x.1 x.2 hw)
def Nn(l:List (D aA))(s:List UInt8):cU:=[
 (0,fun st=>{X:=Nat×Int×Int,inv:=fun x=>x.1<=l.length/\kj l s x.1 0 x.2.1 x.2.2,bF:=fun x=>l.length-x.1,aY:=fun x=>[(14,sI x.1),(6,sI x.2.1),(7,sI x.2.2)],keep:=[1,12,13]}),
 (2,fun st=>{X:=Nat×Int×Int,inv:=fun x=>x.1<=(nth aA l (bG (.int .i64) st 14).toNat).2.2.1.length/\kj l s (bG (.int .i64) st 14).toNat x.1 x.2.1 x.2.2,bF:=fun x=>(nth aA l (bG (.int .i64) st 14).toNat).2.2.1.length-x.1,aY:=fun x=>[(22,sI x.1),(6,sI x.2.1),(7,sI x.2.2)],keep:=[1,8,9,12,13,14,15,16,17,18,19,20,21]})]
def aan(l:List (D aA))(s:List UInt8)(hw:eD [.slice aA,.str] (l,s)):(cL Tryz.B [] Tryz.f218 (Nn l s) [.slice aA,.str] [.int .i64,.int .i64] (fun x y=>y=(fun x=>dR x) x) (l,s)).holds:=by
 refine holds_of (p:=
  let za:=gE l
  let zb:=Nat×Int×Int
  let zc:=fun(E:Nat×Int×Int)=>(↑E.1:Int)
  let zd:=fun(E:Nat×Int×Int)=>(nth aA l E.1).2.2.1
  let ze:=fun(E:Nat×Int×Int)=>gE (zd E)
  let zf:=aF 1
  let zg:=fun(F:Nat×Int×Int)=>zc F+1
  let zh:=fun(E:Nat×Int×Int)=>(nth aA l E.1).2.2.2.1
  let zi:=fun(E:Nat×Int×Int)=>((nth aA l E.1).1=(nth aA l E.1).1/\(nth aA l E.1).2.1=(nth aA l E.1).2.1/\zd E=zd E/\zh E=zh E/\True)/\@hq (Int×Int×Int×List UInt8×Bool×Unit)=@hq (Int×Int×Int×List UInt8×Bool×Unit)/\@hq (List UInt8×Int×Bool×Unit)=@hq (List UInt8×Int×Bool×Unit)/\@hq Int=@hq Int/\@hq (List UInt8)=@hq (List UInt8)/\True
  let zj:=fun(F:Nat×Int×Int) (E:Nat×Int×Int)=>aF (zc F)->zf->aF (zg F)/\∃(x':zb),(hg x'<=ze E/\kj l s E.1 (hg x') (gN x').1 (gN x').2)/\ze E-hg x'<ze E-F.1/\(zg F=(↑(hg x'):Int)/\F.2.1=(gN x').1/\F.2.2=(gN x').2/\True)/\zi E
  let zk:=dR (l,s)
  za<=aI->(∃(x:zb),(hg x<=za/\kj l s (hg x) 0 (gN x).1 (gN x).2)/\(0=(↑(hg x):Int)/\(-1:Int)=(gN x).1/\(-1:Int)=(gN x).2/\True)/\True)/\∀E:Nat×Int×Int,E.1<=za/\kj l s E.1 0 E.2.1 E.2.2->((decide (zc E<(↑za:Int)))=true->(0<=zc E/\zc E<(↑za:Int))/\(ze E<=aI->(∃(x:zb),(hg x<=ze E/\kj l s E.1 (hg x) (gN x).1 (gN x).2)/\(0=(↑(hg x):Int)/\E.2.1=(gN x).1/\E.2.2=(gN x).2/\True)/\True)/\∀F:Nat×Int×Int,F.1<=ze E/\kj l s E.1 F.1 F.2.1 F.2.2->((decide (zc F<(↑(ze E):Int)))=true->(0<=zc F/\zc F<(↑(ze E):Int))/\((!(nth aP (zd E) F.1).1 == s)=true->zj F E)/\((!(nth aP (zd E) F.1).1 == s)=false->((!(nth aP (zd E) F.1).2.2.1)=true->(zc E,zc F)=zk)/\((!(nth aP (zd E) F.1).2.2.1)=false->((decide (F.2.1<0))=true->aF (zc F)->zf->aF (zg F)/\∃(x':zb),(hg x'<=ze E/\kj l s E.1 (hg x') (gN x').1 (gN x').2)/\ze E-hg x'<ze E-F.1/\(zg F=(↑(hg x'):Int)/\zc E=(gN x').1/\zc F=(gN x').2/\True)/\zi E)/\((decide (F.2.1<0))=false->zj F E))))/\((decide (zc F<(↑(ze E):Int)))=false->aF (zc E)->zf->aF (zg E)/\∃(x':zb),(hg x'<=za/\kj l s (hg x') 0 (gN x').1 (gN x').2)/\za-hg x'<za-E.1/\(zg E=(↑(hg x'):Int)/\F.2.1=(gN x').1/\F.2.2=(gN x').2/\True)/\True)))/\((decide (zc E<(↑za:Int)))=false->E.2=zk)) (by kernel_rfl) ?_
 dsimp -iota -proj -eta only;refine fun h0=>⟨(⟨(0,-1,-1),⟨by omega,kj.start l s⟩,⟨rfl,rfl,rfl,dT⟩,dT⟩),fun E q_0=>iL (fun h1=>⟨?a,fun h2=>⟨(⟨(0,E.2),⟨by omega,q_0.2⟩,⟨rfl,rfl,rfl,dT⟩,dT⟩),fun F q_1=>iL (fun h3=>⟨?b,⟨fun h4 h5 h6=>⟨?c,?d⟩,fun h4=>iB (fun h5 =>?e) (fun h5=>iL (fun h6 h7 h8=>⟨?f,?g⟩) (fun h6 h7 h8=>⟨?h,?i⟩))⟩⟩) (fun h3 h4 h5=>⟨(by simp only[aF,aI]at*;omega),(by exact⟨(E.1+1,F.2),⟨by omega,q_1.2.row (by omega)⟩,by simp only;omega,⟨by simp only;omega,rfl,rfl,dT⟩,(by trivial)⟩)⟩)⟩⟩) (fun h1=>((q_0.2.done (by omega)).symm))⟩
 case a|b=>omega
 case c|f|h=>
  simp only[bl,reduceCtorEq]at h4;simp only[aF,aI]at*;omega
 case d=>
  simp only[bl,reduceCtorEq]at h4;exact⟨(F.1+1,F.2),⟨by omega,q_1.2.skip ‹_›⟩,by simp only;omega,⟨by simp only;omega,rfl,rfl,dT⟩,(by trivial)⟩
 case e=>
  simp only[bl,reduceCtorEq]at h4;exact(q_1.2.acS (by omega) (by omega) ‹_› ‹_›).symm
 case g=>
  simp only[bl,reduceCtorEq]at h4;exact⟨(F.1+1,_,_),⟨by omega,q_1.2.GG (by omega) (by omega) ‹_› (by simp_all) (by omega)⟩,by simp only;omega,⟨by simp only;omega,rfl,rfl,dT⟩,(by trivial)⟩
 case i=>
  simp only[bl,reduceCtorEq]at h4;exact⟨(F.1+1,F.2),⟨by omega,q_1.2.more (by simp_all) (by omega)⟩,by simp only;omega,⟨by simp only;omega,rfl,rfl,dT⟩,(by trivial)⟩
def Tryz.aao:bO Tryz.prog Tryz.B.eT Tryz.X 218 [.slice aA,.str] [.int .i64,.int .i64] (fun _=>True) (fun x y=>y=(fun x=>dR x) x):=
 bP (X:=Tryz.X) (bJ Tryz.bI) Tryz.func218 (by kernel_rfl) (fun x=>Nn x.1 x.2) (fun x hw hp=>aan x.1 x.2 hw)
def Tryz.spZ31:Bool×aX:=(true,bX [.slice aA,.str] [.int .i64,.int .i64] (fun _=>True) (fun x=>dR x))
def Tryz.No:List (FuncId×(Bool×aX)):=[(49,Tryz.spZ0),(50,Tryz.spZ1),(156,Tryz.spZ2),(83,Tryz.spZ3),(11,Tryz.spZ4),(218,Tryz.spZ31)]
def Tryz.TF:bL Tryz.prog Tryz.B Tryz.X Tryz.No:=
 aM (aE Tryz.js) (aM (aE Tryz.fI) (aM (aE Tryz.kE) (aM (aE Tryz.jt) (aM (aE Tryz.kG) (aM (aE Tryz.aao) (bJ Tryz.bI))))))
def Xc(l:List (D aA))(b:List Int)(t:D aQ)(hw:eD [.slice aA,.slice (.int .i64),aQ] (l,b,t))(hp:(fun x=>jw x.1/\x.2.1.length=x.1.length/\lq x.2.1) (l,b,t)):(cL Tryz.B Tryz.No Tryz.f189 [] [.slice aA,.slice (.int .i64),aQ] [.int .i64,.err] (fun x y=>y=(fun x=>gU x.1 x.2.1 x.2.2) x) (l,b,t)).holds:=by
 refine holds_of (p:=
  let za:=dR (l,t.2.2.2.1)
  let zb:=0<=za.1
  let zc:=(nth aA l (hA za.1)).2.2.1
  let zd:=nth (Ty.int hD) b (hA za.1)
  let ze:=(nth aP zc (hA za.2)).2.1
  let zf:=gU l b t
  True/\((decide (za.1>=0))=true->(zb/\za.1<(↑(gE b):Int))/\(zb/\za.1<(↑(gE l):Int))/\(0<=za.2/\za.2<(↑(gE zc):Int))/\(aF zd->aF ze->aF (zd+ze)/\(zd+ze,aS.nil)=zf))/\((decide (za.1>=0))=false->((t.2.2.2.2.1)=true->(0,aS.nil)=zf)/\((t.2.2.2.2.1)=false->(0,aS.no 6)=zf))) (by kernel_rfl) ?_
 dsimp -iota -proj -eta only;dsimp only at hp;refine⟨dT,iE (fun h0=>⟨?a,?b,?c,fun h1 h2=>⟨?d,((pz (by omega)).symm)⟩⟩) (fun h0=>⟨fun h1=>((om (by omega) h1).symm),fun h1=>((ua (by omega) h1).symm)⟩)⟩
 case a|b|c=>
  have hf:=tw (l:=l) (s:=t.2.2.2.1) (by omega);omega
 case d=>
  have hf:=tw (l:=l) (s:=t.2.2.2.1) (by omega);have hb:=nc (n:=l.length) (i:=(dR (l,t.2.2.2.1)).1) hp.2.2 hp.2.1 (by omega) hf.1;have hs:=Fa (s:=t.2.2.2.1) hp.1 (by omega);unfold Small at hs;dsimp only[D]at*;simp only[aF];omega
def Tryz.Xd:bO Tryz.prog Tryz.B.eT Tryz.X 189 [.slice aA,.slice (.int .i64),aQ] [.int .i64,.err] (fun x=>jw x.1/\x.2.1.length=x.1.length/\lq x.2.1) (fun x y=>y=(fun x=>gU x.1 x.2.1 x.2.2) x):=
 bP (X:=Tryz.X) Tryz.TF Tryz.func189 (by kernel_rfl) (fun _=>[]) (fun x hw hp=>Xc x.1 x.2.1 x.2.2 hw hp)
def Tryz.Jk:List (FuncId×(Bool×aX)):=[(189,(true,bX [.slice aA,.slice (.int .i64),aQ] [.int .i64,.err] (fun x=>jw x.1/\x.2.1.length=x.1.length/\lq x.2.1) (fun x=>gU x.1 x.2.1 x.2.2)))]
def Tryz.Pf:bL Tryz.prog Tryz.B Tryz.X Tryz.Jk:=
 aM (aE Tryz.Xd) (bJ Tryz.bI)
def adu(l:List (D aA))(b:List Int)(i:Int)(t:D aQ)(hw:eD [.slice aA,.slice (.int .i64),.int .i64,aQ] (l,b,i,t))(hp:(fun x=>jw x.1/\x.2.1.length=x.1.length/\lq x.2.1/\0<=x.2.2.1/\x.2.2.1<x.1.length/\Small x.2.2.2.1/\Word x.2.2.2.2.2.1) (l,b,i,t)):(cL Tryz.B Tryz.Jk Tryz.f144 [] [.slice aA,.slice (.int .i64),.int .i64,aQ] [.int .i64,.err] (fun x y=>y=(fun x=>fP x.1 x.2.1 x.2.2.1 x.2.2.2) x) (l,b,i,t)).holds:=by
 refine holds_of (p:=
  let za:=0<=i/\i<(↑(gE b):Int)
  let zb:=nth (Ty.int hD) b (hA i)
  let zc:=t.2.2.1
  let zd:=zb+zc
  let ze:=gU l b t
  let zf:=fP l b i t
  let zg:=ze.1+zc
  let zh:=t.2.1 == 3
  let zi:=zb+t.1
  let zj:=aF zi
  let zk:=zg-zi
  let zl:=(0,aS.no 7)=zf
  let zm:=(-2147483648:Int)
  let zn:=zd-zi
  za/\(aF zb->aF zc->aF zd/\((t.2.1 != 1)=true->(jw l/\gE b=gE l/\lq b)/\((!aS.isNil ze.2)=true->(0,ze.2)=zf)/\((!aS.isNil ze.2)=false->aF ze.1->aF zc->aF zg/\(zh=true->za/\(aF zb->aF t.1->zj/\(aF zg->zj->aF zk/\((decide (zk<(-500:Int)))=true->zl)/\((decide (zk<(-500:Int)))=false->((decide (zk > 500))=true->zl)/\((decide (zk > 500))=false->((decide (zk<zm))=true->zl)/\((decide (zk<zm))=false->((decide (zk > 2147483647))=true->zl)/\((decide (zk > 2147483647))=false->(zk,aS.nil)=zf)))))))/\(zh=false->((decide (zg<zm))=true->zl)/\((decide (zg<zm))=false->((decide (zg > 2147483647))=true->zl)/\((decide (zg > 2147483647))=false->(zg,aS.nil)=zf)))))/\((t.2.1 != 1)=false->(zh=true->za/\(aF zb->aF t.1->zj/\(aF zd->zj->aF zn/\((decide (zn<(-500:Int)))=true->zl)/\((decide (zn<(-500:Int)))=false->((decide (zn > 500))=true->zl)/\((decide (zn > 500))=false->((decide (zn<zm))=true->zl)/\((decide (zn<zm))=false->((decide (zn > 2147483647))=true->zl)/\((decide (zn > 2147483647))=false->(zn,aS.nil)=zf)))))))/\(zh=false->((decide (zd<zm))=true->zl)/\((decide (zd<zm))=false->((decide (zd > 2147483647))=true->zl)/\((decide (zd > 2147483647))=false->(zd,aS.nil)=zf)))))) (by kernel_rfl) ?_
 dsimp -iota -proj -eta only;dsimp only at hp;refine⟨?a,fun h0 h1=>⟨?b,iN (fun h2=>⟨(by simp_all),iB (fun h3=>((P4 ‹_› ‹_›).symm)) (fun h3 h4 h5=>⟨?c,iQ (fun h6=>⟨?d,fun h7 h8=>⟨?e,fun h9 h10=>⟨?f,iL (fun h11 =>?g) (fun h11=>iL (fun h12 =>?h) (fun h12=>iL (fun h13 =>?i) (fun h13=>iL (fun h14 =>?j) (fun h14=>(by rw[mi ‹_› ‹_›,GK ‹_› rfl (by dsimp only[D]at*;omega)])))))⟩⟩⟩) (fun h6=>iL (fun h7 =>?k) (fun h7=>iL (fun h8 =>?l) (fun h8=>(by rw[mi ‹_› ‹_›,tx ‹_› rfl (by dsimp only[D]at*;omega)]))))⟩)⟩) (fun h2=>iQ (fun h3=>⟨?m,fun h4 h5=>⟨?n,fun h6 h7=>⟨?o,iL (fun h8 =>?p) (fun h8=>iL (fun h9 =>?q) (fun h9=>iL (fun h10 =>?r) (fun h10=>iL (fun h11 =>?s) (fun h11 =>?t))))⟩⟩⟩) (fun h3=>iL (fun h4 =>?u) (fun h4=>iL (fun h5 =>?v) (fun h5=>(by rw[ub ‹_›,tx (by simp_all) rfl (by dsimp only[D]at*;omega)])))))⟩⟩
 case a|d|i|j|m|r|s=>omega
 case b|c|e|f|n|o=>
  have hb:=nc hp.2.2.1 hp.2.1 hp.2.2.2.1 hp.2.2.2.2.1;have ht:=Ap t hp.1 hp.2.1 hp.2.2.1;have hs:=hp.2.2.2.2.2;unfold Small Word at hs;dsimp only[D]at*;simp only[aF];omega
 case g|h=>rw[mi ‹_› ‹_›,DI ‹_› (by dsimp only[D]at*;omega)]
 case k|l=>
  have hb:=nc hp.2.2.1 hp.2.1 hp.2.2.2.1 hp.2.2.2.2.1;have ht:=Ap t hp.1 hp.2.1 hp.2.2.1;have hs:=hp.2.2.2.2.2;unfold Small Word at hs;dsimp only[D]at*
  first|omega|(rw[mi ‹_› ‹_›,uc ‹_› (by omega)])
 case p|q|t=>dsimp only[D]at*;omega
 case u|v=>
  have hb:=nc hp.2.2.1 hp.2.1 hp.2.2.2.1 hp.2.2.2.2.1;have ht:=Ap t hp.1 hp.2.1 hp.2.2.1;have hs:=hp.2.2.2.2.2;unfold Small Word at hs;dsimp only[D]at*
  first|omega|(rw[ub ‹_›,uc (by simp_all) (by omega)])
def Tryz.adv:bO Tryz.prog Tryz.B.eT Tryz.X 144 [.slice aA,.slice (.int .i64),.int .i64,aQ] [.int .i64,.err] (fun x=>jw x.1/\x.2.1.length=x.1.length/\lq x.2.1/\0<=x.2.2.1/\x.2.2.1<x.1.length/\Small x.2.2.2.1/\Word x.2.2.2.2.2.1) (fun x y=>y=(fun x=>fP x.1 x.2.1 x.2.2.1 x.2.2.2) x):=
 bP (X:=Tryz.X) Tryz.Pf Tryz.func144 (by kernel_rfl) (fun _=>[]) (fun x hw hp=>adu x.1 x.2.1 x.2.2.1 x.2.2.2 hw hp)
def Tryz.Jl:List (FuncId×(Bool×aX)):=[(144,(true,bX [.slice aA,.slice (.int .i64),.int .i64,aQ] [.int .i64,.err] (fun x=>jw x.1/\x.2.1.length=x.1.length/\lq x.2.1/\0<=x.2.2.1/\x.2.2.1<x.1.length/\Small x.2.2.2.1/\Word x.2.2.2.2.2.1) (fun x=>fP x.1 x.2.1 x.2.2.1 x.2.2.2)))]
def Tryz.Pg:bL Tryz.prog Tryz.B Tryz.X Tryz.Jl:=
 aM (aE Tryz.adv) (bJ Tryz.bI)
def Xe(l:List (D aA))(b:List Int):cU:=[
 (0,fun st=>{X:=Nat,inv:=fun i=>i<=b.length/\∀j,j<i->0<=(nth (.int .i64) b j:Int)/\(nth (.int .i64) b j:Int)<=256,bF:=fun i=>b.length-i,aY:=fun i=>[(23,sI i)],keep:=[0,1,21,22]}),
 (2,fun st=>{X:=Nat×List (D aN),inv:=fun x=>x.1<=l.length/\lX l b (l.drop x.1) x.1 x.2=lX l b l 0 []/\x.2.length<=10*x.1,bF:=fun x=>l.length-x.1,aY:=fun x=>[(37,sI x.1),(8,.s (.one (.app aN x.2 (aT st 8))))],aH:=fun x=>[(aT st 8,.tok aN x.2)],keep:=[0,1,35,36],eA:=[aT st 8]}),
 (4,fun st=>{X:=Nat×List (D aN),inv:=fun x=>x.1<=(nth aA l (bG (.int .i64) st 37).toNat).2.2.2.1.length/\kK (lX l b (l.drop ((bG (.int .i64) st 37).toNat+1)) ((bG (.int .i64) st 37).toNat+1)) (mc l b (bG (.int .i64) st 37).toNat ((nth aA l (bG (.int .i64) st 37).toNat).2.2.2.1.drop x.1) x.2)=lX l b l 0 []/\x.2.length<=10*(bG (.int .i64) st 37).toNat+x.1,bF:=fun x=>(nth aA l (bG (.int .i64) st 37).toNat).2.2.2.1.length-x.1,aY:=fun x=>[(45,sI x.1),(8,.s (.one (.app aN x.2 (aT st 8))))],aH:=fun x=>[(aT st 8,.tok aN x.2)],keep:=[0,1,9,10,35,36,37,38,39,40,41,42,43,44],eA:=[aT st 8]})]
def adw(l:List (D aA))(b:List Int)(hw:eD [.slice aA,.slice (.int .i64)] (l,b))(hp:(fun x=>jw x.1) (l,b)):(cL Tryz.B Tryz.Jl Tryz.f111 (Xe l b) [.slice aA,.slice (.int .i64)] [.slice aN,.err] (fun x y=>y=(fun x=>eM x) x) (l,b)).holds:=by
 refine holds_of (p:=
  let za:=gE b
  let zb:=gE l
  let zc:=eM (l,b)
  let zd:=Ty.int hD
  let ze:=([],aS.no 1)=zc
  let zf:=aF 1
  let zg:=@hq (Int×Int×Int×Unit)=@hq (Int×Int×Int×Unit)/\True
  let zh:=Nat×List (Int×Int×Int×Unit)
  let zi:=lX l b l 0 (@hq Pt)
  let zj:=fun(F:Nat×List (Int×Int×Int×Unit))=>10*F.1
  let zk:=fun(F:Nat×List (Int×Int×Int×Unit))=>(↑F.1:Int)
  let zl:=fun(F:Nat×List (Int×Int×Int×Unit))=>zk F<(↑zb:Int)
  let zm:=fun(F:Nat×List (Int×Int×Int×Unit))=>0<=zk F
  let zn:=fun(F:Nat×List (Int×Int×Int×Unit))=>(nth aA l F.1).2.2.2.1
  let zo:=fun(F:Nat×List (Int×Int×Int×Unit))=>gE (zn F)
  let zp:=fun(F:Nat×List (Int×Int×Int×Unit))=>lX l b (hB (F.1+1) l) (F.1+1)
  let zq:=fun(F G:Nat×List (Int×Int×Int×Unit))=>(fP l b (zk F) (nth aQ (zn F) G.1)).2
  let zr:=fun(F G:Nat×List (Int×Int×Int×Unit))=>[(zk F,(nth aQ (zn F) G.1).1,(fP l b (zk F) (nth aQ (zn F) G.1)).1,())]
  za<=aI->zb<=aI->(((↑za:Int) != (↑zb:Int))=true->([],aS.no 3)=zc)/\(((↑za:Int) != (↑zb:Int))=false->za<=aI->(∃(x:Nat),(x<=za/\∀(j:Nat),j<x->0<=nth zd b j/\nth zd b j<=256)/\(0=(↑x:Int)/\True)/\True)/\∀E:Nat,(E<=za/\∀(j:Nat),j<E->0<=nth zd b j/\nth zd b j<=256)->((decide ((↑E:Int)<(↑za:Int)))=true->(0<=(↑E:Int)/\(↑E:Int)<(↑za:Int))/\((decide (nth zd b E<0))=true->ze)/\((decide (nth zd b E<0))=false->((decide (nth zd b E > 256))=true->ze)/\((decide (nth zd b E > 256))=false->aF (↑E:Int)->zf->aF ((↑E:Int)+1)/\∃(x':Nat),(x'<=za/\∀(j:Nat),j<x'->0<=nth zd b j/\nth zd b j<=256)/\za-x'<za-E/\((↑E:Int)+1=(↑x':Int)/\True)/\zg)))/\((decide ((↑E:Int)<(↑za:Int)))=false->zb<=aI->(∃(x:zh),(hg x<=zb/\lX l b (hB (hg x) l) (hg x) (gN x)=zi/\gE (gN x)<=10*hg x)/\(0=(↑(hg x):Int)/\@hq (Int×Int×Int×Unit)=gN x/\True)/\@hq (Int×Int×Int×Unit)=gN x/\True)/\∀F:Nat×List (Int×Int×Int×Unit),F.1<=zb/\lX l b (hB F.1 l) F.1 F.2=zi/\gE F.2<=zj F->((decide (zl F))=true->(zm F/\zl F)/\(zo F<=aI->(∃(x:zh),(hg x<=zo F/\kK (zp F) (mc l b F.1 (hB (hg x) (zn F)) (gN x))=zi/\gE (gN x)<=zj F+hg x)/\(0=(↑(hg x):Int)/\F.2=gN x/\True)/\F.2=gN x/\True)/\∀G:Nat×List (Int×Int×Int×Unit),G.1<=zo F/\kK (zp F) (mc l b F.1 (hB G.1 (zn F)) G.2)=zi/\gE G.2<=zj F+G.1->((decide (zk G<(↑(zo F):Int)))=true->(zm G/\zk G<(↑(zo F):Int))/\(jw l/\za=zb/\lq b/\zm F/\zl F/\Small (nth aQ (zn F) G.1).1/\Word (nth aQ (zn F) G.1).2.2.1)/\((!aS.isNil (zq F G))=true->([],zq F G)=zc)/\((!aS.isNil (zq F G))=false->(G.2=G.2/\gE G.2+gE (zr F G)<=1000000000)/\(aF (zk G)->zf->aF (zk G+1)/\∃(x':zh),(hg x'<=zo F/\kK (zp F) (mc l b F.1 (hB (hg x') (zn F)) (gN x'))=zi/\gE (gN x')<=zj F+hg x')/\zo F-hg x'<zo F-G.1/\(zk G+1=(↑(hg x'):Int)/\G.2++zr F G=gN x'/\True)/\G.2++zr F G=gN x'/\((nth aA l F.1).1=(nth aA l F.1).1/\(nth aA l F.1).2.1=(nth aA l F.1).2.1/\(nth aA l F.1).2.2.1=(nth aA l F.1).2.2.1/\zn F=zn F/\True)/\@hq (Int×Int×Int×List UInt8×Bool×Unit)=@hq (Int×Int×Int×List UInt8×Bool×Unit)/\@hq (List UInt8×Int×Bool×Unit)=@hq (List UInt8×Int×Bool×Unit)/\@hq Int=@hq Int/\@hq (List UInt8)=@hq (List UInt8)/\zg)))/\((decide (zk G<(↑(zo F):Int)))=false->aF (zk F)->zf->aF (zk F+1)/\∃(x':zh),(hg x'<=zb/\lX l b (hB (hg x') l) (hg x') (gN x')=zi/\gE (gN x')<=10*hg x')/\zb-hg x'<zb-F.1/\(zk F+1=(↑(hg x'):Int)/\G.2=gN x'/\True)/\G.2=gN x'/\zg)))/\((decide (zl F))=false->(F.2,aS.nil)=zc)))) (by kernel_rfl) ?_
 dsimp -iota -proj -eta only;dsimp only at hp;refine fun h0 h1=>iN (fun h2=>((Lc (by omega)).symm)) (fun h2 h3=>⟨(⟨0,⟨by omega,fun j hj=>by omega⟩,⟨rfl,dT⟩,dT⟩),fun E q_0=>iL (fun h4=>⟨?a,iL (fun h5 =>?b) (fun h5=>iL (fun h6 =>?c) (fun h6 h7 h8=>⟨?d,(⟨E+1,⟨by omega,jD q_0.2 (by dsimp only[D]at*;omega)⟩,by omega,⟨by omega,dT⟩,(by trivial)⟩)⟩))⟩) (fun h4 h5=>⟨(⟨(0,[]),⟨by omega,rfl,by simp⟩,(by trivial),(by trivial)⟩),fun F q_1=>iL (fun h6=>⟨?e,fun h7=>⟨(by exact⟨(0,F.2),⟨by omega,by rw[<-HO (by omega)];exact q_1.2.1,by simp only;omega⟩,(by trivial),(by trivial)⟩),fun G q_2=>iL (fun h8=>⟨?f,?g,iB (fun h9 =>?h) (fun h9=>⟨?i,fun h10 h11=>⟨?j,?k⟩⟩)⟩) (fun h8 h9 h10=>⟨?l,?m⟩)⟩⟩) (fun h6 =>?n)⟩)⟩)
 case a|e|f=>omega
 case b|c=>exact(HP (i:=E) (by omega) (by omega) (by dsimp only[D]at*;omega)).symm
 case d|j|l=>simp only[aF,aI]at*;omega
 case g=>
  have hlen:b.length=l.length:=(by omega);have hib:lq b:=fun j hj=>q_0.2 j (by omega)
  have hm:=hp.2 F.1 (by omega);have htk:=hm.2.2 G.1 (by omega);have hb:=nc (i:=(F.1:Int)) hib hlen (by omega) (by omega);unfold Small Word at htk;rw[hC]at hb;exact⟨hp,hlen,hib,by omega,by omega,htk.1,htk.2⟩
 case h=>
  have hlen:b.length=l.length:=(by omega);have hib:lq b:=fun j hj=>q_0.2 j (by omega)
  rw[oh hlen hib,<-q_2.2.1,rN (by omega) ‹_›]
 case i=>
  have hlen:b.length=l.length:=(by omega);have hib:lq b:=fun j hj=>q_0.2 j (by omega)
  have hm:=hp.2 F.1 (by omega);have htk:=hm.2.2 G.1 (by omega);have hb:=nc (i:=(F.1:Int)) hib hlen (by omega) (by omega);unfold Small Word at htk;rw[hC]at hb;have:=hm.1;have:=hp.1;exact⟨rfl,by simp only[hz,aI];omega⟩
 case k=>
  have ho:(fP l b F.1 (nth aQ (nth aA l F.1).2.2.2.1 G.1)).2.isNil=true:=by assumption
  exact⟨(G.1+1,_),⟨by omega,by rw[<-q_2.2.1,wG (k:=G.1) (by omega) ho],by simp only[hE,hz];omega⟩,by simp only;omega,⟨by simp only;omega,rfl,dT⟩,(by trivial)⟩
 case m=>
  have hm:=hp.2 F.1 (by omega);exact⟨(F.1+1,G.2),⟨by omega,by rw[<-q_2.2.1,P3 (by omega)],by have:=hm.1;simp only;omega⟩,by simp only;omega,⟨by simp only;omega,rfl,dT⟩,(by trivial)⟩
 case n=>
  have hlen:b.length=l.length:=(by omega);have hib:lq b:=fun j hj=>q_0.2 j (by omega)
  rw[oh hlen hib,<-q_1.2.1,P2 (by omega)]
def Tryz.adx:bO Tryz.prog Tryz.B.eT Tryz.X 111 [.slice aA,.slice (.int .i64)] [.slice aN,.err] (fun x=>jw x.1) (fun x y=>y=(fun x=>eM x) x):=
 bP (X:=Tryz.X) Tryz.Pg Tryz.func111 (by kernel_rfl) (fun x=>Xe x.1 x.2) (fun x hw hp=>adw x.1 x.2 hw hp)
def Np(l:List (D aA))(s:List UInt8):cU:=[
 (0,fun st=>{X:=Nat,inv:=fun p=>p<=2/\km l s p 0 0,bF:=fun p=>2-p,aY:=fun p=>[(6,sI p)],keep:=[0,1]}),
 (2,fun st=>{X:=Nat,inv:=fun i=>i<=l.length/\km l s (bG (.int .i64) st 6).toNat i 0,bF:=fun i=>l.length-i,aY:=fun i=>[(7,sI i)],keep:=[0,1,6,10,11]}),
 (4,fun st=>{X:=Nat,inv:=fun k=>k<=(nth aA l (bG (.int .i64) st 7).toNat).2.2.1.length/\km l s (bG (.int .i64) st 6).toNat (bG (.int .i64) st 7).toNat k,bF:=fun k=>(nth aA l (bG (.int .i64) st 7).toNat).2.2.1.length-k,aY:=fun k=>[(8,sI k)],keep:=[0,1,6,7,10,11,14,15,16,17]})]
def aap(l:List (D aA))(s:List UInt8)(hw:eD [.slice aA,.str] (l,s)):(cL Tryz.B [] Tryz.f131 (Np l s) [.slice aA,.str] [.int .i64,.int .i64] (fun x y=>y=(fun x=>dR x) x) (l,s)).holds:=by
 refine holds_of (p:=
  let za:=fun(E:Nat)=>(↑E:Int)
  let zb:=gE l
  let zc:=fun(F:Nat)=>gE (nth aA l F).2.2.1
  let zd:=fun(F:Nat)=>0<=za F/\za F<(↑zb:Int)
  let ze:=dR (l,s)
  let zf:=aF 1
  let zg:=fun(G:Nat)=>za G+1
  let zh:=fun(G:Nat) (F:Nat) (E:Nat)=>aF (za G)->zf->aF (zg G)/\∃(x':Nat),(x'<=zc F/\km l s E F x')/\zc F-x'<zc F-G/\(zg G=(↑x':Int)/\True)/\True
  (∃(x:Nat),(x<=2/\km l s x 0 0)/\(0=(↑x:Int)/\True)/\True)/\∀E:Nat,E<=2/\km l s E 0 0->((decide (za E<2))=true->(∃(x:Nat),(x<=zb/\km l s E x 0)/\(0=(↑x:Int)/\True)/\True)/\∀F:Nat,F<=zb/\km l s E F 0->zb<=aI->((decide (za F<(↑zb:Int)))=true->(∃(x:Nat),(x<=zc F/\km l s E F x)/\(0=(↑x:Int)/\True)/\True)/\∀G:Nat,G<=zc F/\km l s E F G->zd F/\(zc F<=aI->((decide (za G<(↑(zc F):Int)))=true->zd F/\(0<=za G/\za G<(↑(zc F):Int))/\(((nth aP (nth aA l F).2.2.1 G).1 == s)=true->(((nth aP (nth aA l F).2.2.1 G).2.2.1 == (za E == 1))=true->(za F,za G)=ze)/\(((nth aP (nth aA l F).2.2.1 G).2.2.1 == (za E == 1))=false->zh G F E))/\(((nth aP (nth aA l F).2.2.1 G).1 == s)=false->zh G F E))/\((decide (za G<(↑(zc F):Int)))=false->aF (za F)->zf->aF (zg F)/\∃(x':Nat),(x'<=zb/\km l s E x' 0)/\zb-x'<zb-F/\(zg F=(↑x':Int)/\True)/\True)))/\((decide (za F<(↑zb:Int)))=false->aF (za E)->zf->aF (zg E)/\∃(x':Nat),(x'<=2/\km l s x' 0 0)/\2-x'<2-E/\(zg E=(↑x':Int)/\True)/\True))/\((decide (za E<2))=false->((-1:Int),(-1:Int))=ze)) (by kernel_rfl) ?_
 dsimp -iota -proj -eta only;refine⟨(⟨0,⟨by omega,km.start l s⟩,⟨rfl,dT⟩,dT⟩),fun E q_0=>iL (fun h0=>⟨(⟨0,⟨by omega,q_0.2⟩,⟨rfl,dT⟩,dT⟩),fun F q_1 h1=>iL (fun h2=>⟨(⟨0,⟨by omega,q_1.2⟩,⟨rfl,dT⟩,dT⟩),fun G q_2=>⟨?a,fun h3=>iL (fun h4=>⟨?b,?c,iQ (fun h5=>iQ (fun h6=>((q_2.2.found (by omega) (by omega) (by omega) ‹_› (by simp_all)).symm)) (fun h6 h7 h8=>⟨?d,(⟨G+1,⟨by omega,q_2.2.next (fun hh=>by have h2:=hh.2;cases hw:(nth aP (nth aA l F).2.2.1 G).2.2.1 <;> simp_all)⟩,by omega,⟨by omega,dT⟩,(by trivial)⟩)⟩)) (fun h5 h6 h7=>⟨?e,(⟨G+1,⟨by omega,q_2.2.next (by simp_all)⟩,by omega,⟨by omega,dT⟩,(by trivial)⟩)⟩)⟩) (fun h4 h5 h6=>⟨?f,(⟨F+1,⟨by omega,q_2.2.row (by omega)⟩,by omega,⟨by omega,dT⟩,(by trivial)⟩)⟩)⟩⟩) (fun h2 h3 h4=>⟨?g,(⟨E+1,⟨by omega,q_1.2.pass (by omega)⟩,by omega,⟨by omega,dT⟩,(by trivial)⟩)⟩)⟩) (fun h0=>((q_0.2.done (by omega)).symm))⟩
 case a|b|c=>omega
 case d|e|f|g=>simp only[aF,aI]at*;omega
def Tryz.aaq:bO Tryz.prog Tryz.B.eT Tryz.X 131 [.slice aA,.str] [.int .i64,.int .i64] (fun _=>True) (fun x y=>y=(fun x=>dR x) x):=
 bP (X:=Tryz.X) (bJ Tryz.bI) Tryz.func131 (by kernel_rfl) (fun x=>Np x.1 x.2) (fun x hw hp=>aap x.1 x.2 hw)
def TG(n:Int)(hw:eD [.int .i64] n):(cL Tryz.B [] Tryz.f60 [] [.int .i64] [.bool] (fun x y=>y=(fun n=>decide (-2147483648<=n)&&decide (n<=2147483647)) x) n).holds:=by
 refine holds_of (p:=
  let za:=decide (n<=2147483647)
  let zb:=decide ((-2147483648:Int)<=n)&&za
  ((decide (n>=(-2147483648:Int)))=true->za=zb)/\((decide (n>=(-2147483648:Int)))=false->false=zb)) (by kernel_rfl) ?_
 dsimp -iota -proj -eta only;refine iE (fun h0 =>?a) (fun h0 =>?b)
 case a|b=>rw[j1];simp;omega
def Tryz.TH:bO Tryz.prog Tryz.B.eT Tryz.X 60 [.int .i64] [.bool] (fun _=>True) (fun x y=>y=(fun n=>decide (-2147483648<=n)&&decide (n<=2147483647)) x):=
 bP (X:=Tryz.X) (bJ Tryz.bI) Tryz.func60 (by kernel_rfl) (fun _=>[]) (fun x hw hp=>TG x hw)
def Tryz.Jm:List (FuncId×(Bool×aX)):=[(131,Tryz.spZ31),(60,(true,bX [.int .i64] [.bool] (fun _=>True) (fun n=>decide (-2147483648<=n)&&decide (n<=2147483647))))]
def Tryz.Ph:bL Tryz.prog Tryz.B Tryz.X Tryz.Jm:=
 aM (aE Tryz.aaq) (aM (aE Tryz.TH) (bJ Tryz.bI))
def Jn(l:List (D aA))(b:List Int):cU:=[
 (0,fun st=>{X:=Nat,inv:=fun i=>i<=b.length/\∀j,j<i->0<=(nth (.int .i64) b j:Int)/\(nth (.int .i64) b j:Int)<=256,bF:=fun i=>b.length-i,aY:=fun i=>[(6,sI i)],keep:=[0,1]}),
 (2,fun st=>{X:=Nat×List (D aN),inv:=fun x=>x.1<=l.length/\lX l b (l.drop x.1) x.1 x.2=lX l b l 0 []/\x.2.length<=10*x.1,bF:=fun x=>l.length-x.1,aY:=fun x=>[(8,sI x.1),(7,.s (.one (.app aN x.2 (aT st 7))))],aH:=fun x=>[(aT st 7,.tok aN x.2)],keep:=[0,1],eA:=[aT st 7]}),
 (4,fun st=>{X:=Nat×List (D aN),inv:=fun x=>x.1<=(nth aA l (bG (.int .i64) st 8).toNat).2.2.2.1.length/\kK (lX l b (l.drop ((bG (.int .i64) st 8).toNat+1)) ((bG (.int .i64) st 8).toNat+1)) (mc l b (bG (.int .i64) st 8).toNat ((nth aA l (bG (.int .i64) st 8).toNat).2.2.2.1.drop x.1) x.2)=lX l b l 0 []/\x.2.length<=10*(bG (.int .i64) st 8).toNat+x.1,bF:=fun x=>(nth aA l (bG (.int .i64) st 8).toNat).2.2.2.1.length-x.1,aY:=fun x=>[(9,sI x.1),(7,.s (.one (.app aN x.2 (aT st 7))))],aH:=fun x=>[(aT st 7,.tok aN x.2)],keep:=[0,1,8,38,39,40,41],eA:=[aT st 7]})]
def Pj(l:List (D aA))(b:List Int)(hw:eD [.slice aA,.slice (.int .i64)] (l,b))(hp:(fun x=>jw x.1) (l,b)):(cL Tryz.B Tryz.Jm Tryz.f102 (Jn l b) [.slice aA,.slice (.int .i64)] [.slice aN,.int .i64] (fun x y=>y=(fun x=>((eM x).1,jj (eM x).2)) x) (l,b)).holds:=by
 refine holds_of (p:=
  let za:=gE b
  let zb:=gE l
  let zc:=(↑za:Int)
  let zd:=(↑zb:Int)
  let ze:=((eM (l,b)).1,jj (eM (l,b)).2)
  let zf:=Ty.int hD
  let zg:=fun(E:Nat)=>0<=(↑E:Int)/\(↑E:Int)<zc
  let zh:=([],1)=ze
  let zi:=aF 1
  let zj:=@hq (Int×Int×Int×Unit)=@hq (Int×Int×Int×Unit)/\True
  let zk:=Nat×List (Int×Int×Int×Unit)
  let zl:=lX l b l 0 (@hq Pt)
  let zm:=fun(F:Nat×List (Int×Int×Int×Unit))=>gE F.2
  let zn:=fun(F:Nat×List (Int×Int×Int×Unit))=>10*F.1
  let zo:=fun(F:Nat×List (Int×Int×Int×Unit))=>(↑F.1:Int)
  let zp:=fun(F:Nat×List (Int×Int×Int×Unit))=>(nth aA l F.1).2.2.2.1
  let zq:=fun(F:Nat×List (Int×Int×Int×Unit))=>gE (zp F)
  let zr:=fun(F:Nat×List (Int×Int×Int×Unit))=>lX l b (hB (F.1+1) l) (F.1+1)
  let zs:=fun(F:Nat×List (Int×Int×Int×Unit))=>0<=zo F
  let zt:=fun(F:Nat×List (Int×Int×Int×Unit))=>zs F/\zo F<zc
  let zu:=fun(F G:Nat×List (Int×Int×Int×Unit))=>(nth aQ (zp F) G.1).2.2.1
  let zv:=fun(F:Nat×List (Int×Int×Int×Unit))=>nth zf b F.1
  let zw:=fun(F G:Nat×List (Int×Int×Int×Unit))=>zu F G+zv F
  let zx:=fun(F G:Nat×List (Int×Int×Int×Unit))=>(nth aQ (zp F) G.1).2.1 == 3
  let zy:=fun(F G:Nat×List (Int×Int×Int×Unit))=>(nth aQ (zp F) G.1).1
  let zz:=fun(F G:Nat×List (Int×Int×Int×Unit))=>zw F G-zv F-zy F G
  let zaa:=(-500:Int)
  let zab:=([],7)=ze
  let zac:=(-2147483648:Int)
  let zad:=fun(G:Nat×List (Int×Int×Int×Unit))=>G.2=G.2
  let zae:=fun(G:Nat×List (Int×Int×Int×Unit))=>aF (zo G)
  let zaf:=fun(G:Nat×List (Int×Int×Int×Unit))=>zo G+1
  let zag:=fun(G:Nat×List (Int×Int×Int×Unit))=>aF (zaf G)
  let zah:=fun(G F:Nat×List (Int×Int×Int×Unit))=>G.2++[(zo F,zy F G,zz F G,())]
  let zai:=fun(G F:Nat×List (Int×Int×Int×Unit))=>G.2++[(zo F,zy F G,zw F G,())]
  let zaj:=fun(F G:Nat×List (Int×Int×Int×Unit))=>dR (l,(nth aQ (zp F) G.1).2.2.2.1)
  let zak:=fun(F G:Nat×List (Int×Int×Int×Unit))=>zu F G+nth zf b (hA (zaj F G).1)
  let zal:=fun(F G:Nat×List (Int×Int×Int×Unit))=>(nth aP (nth aA l (hA (zaj F G).1)).2.2.1 (hA (zaj F G).2)).2.1
  let zam:=fun(F G:Nat×List (Int×Int×Int×Unit))=>zak F G+zal F G
  let zan:=fun(F G:Nat×List (Int×Int×Int×Unit))=>zam F G-zv F-zy F G
  let zao:=fun(G F:Nat×List (Int×Int×Int×Unit))=>G.2++[(zo F,zy F G,zan F G,())]
  let zap:=fun(G F:Nat×List (Int×Int×Int×Unit))=>G.2++[(zo F,zy F G,zam F G,())]
  let zaq:=fun(F G:Nat×List (Int×Int×Int×Unit))=>zu F G-zv F-zy F G
  let zar:=fun(G F:Nat×List (Int×Int×Int×Unit))=>G.2++[(zo F,zy F G,zaq F G,())]
  let zas:=fun(G F:Nat×List (Int×Int×Int×Unit))=>G.2++[(zo F,zy F G,zu F G,())]
  let zat:=fun(F:Nat×List (Int×Int×Int×Unit)) (G:Nat×List (Int×Int×Int×Unit))=>((decide ((zaj F G).1>=0))=true->(0<=(zaj F G).1/\(zaj F G).1<zc)/\(aF (zu F G)->aF (nth zf b (hA (zaj F G).1))->aF (zak F G)/\(0<=(zaj F G).1/\(zaj F G).1<zd)/\(0<=(zaj F G).2/\(zaj F G).2<(↑(gE (nth aA l (hA (zaj F G).1)).2.2.1):Int))/\(aF (zak F G)->aF (zal F G)->aF (zam F G)/\((zx F G)=true->zt F/\(aF (zam F G)->aF (zv F)->aF (zam F G-zv F)/\(aF (zam F G-zv F)->aF (zy F G)->aF (zan F G)/\((decide (zan F G<zaa))=true->zab)/\((decide (zan F G<zaa))=false->((decide (zan F G > 500))=true->zab)/\((decide (zan F G > 500))=false->True/\((!(decide (zac<=zan F G)&&decide (zan F G<=2147483647)))=true->zab)/\((!(decide (zac<=zan F G)&&decide (zan F G<=2147483647)))=false->(zad G/\zm G+gE [(zo F,zy F G,zan F G,())]<=1000000000)/\(zae G->zi->zag G/\∃(x':zk),(hg x'<=zq F/\kK (zr F) (mc l b F.1 (hB (hg x') (zp F)) (gN x'))=zl/\gE (gN x')<=zn F+hg x')/\zq F-hg x'<zq F-G.1/\(zaf G=(↑(hg x'):Int)/\zao G F=gN x'/\True)/\zao G F=gN x'/\zj)))))))/\((zx F G)=false->True/\((!(decide (zac<=zam F G)&&decide (zam F G<=2147483647)))=true->zab)/\((!(decide (zac<=zam F G)&&decide (zam F G<=2147483647)))=false->(zad G/\zm G+gE [(zo F,zy F G,zam F G,())]<=1000000000)/\(zae G->zi->zag G/\∃(x':zk),(hg x'<=zq F/\kK (zr F) (mc l b F.1 (hB (hg x') (zp F)) (gN x'))=zl/\gE (gN x')<=zn F+hg x')/\zq F-hg x'<zq F-G.1/\(zaf G=(↑(hg x'):Int)/\zap G F=gN x'/\True)/\zap G F=gN x'/\zj))))))/\((decide ((zaj F G).1>=0))=false->((zx F G)=true->zt F/\(aF (zu F G)->aF (zv F)->aF (zu F G-zv F)/\(aF (zu F G-zv F)->aF (zy F G)->aF (zaq F G)/\((decide (zaq F G<zaa))=true->zab)/\((decide (zaq F G<zaa))=false->((decide (zaq F G > 500))=true->zab)/\((decide (zaq F G > 500))=false->True/\((!(decide (zac<=zaq F G)&&decide (zaq F G<=2147483647)))=true->zab)/\((!(decide (zac<=zaq F G)&&decide (zaq F G<=2147483647)))=false->(zad G/\zm G+gE [(zo F,zy F G,zaq F G,())]<=1000000000)/\(zae G->zi->zag G/\∃(x':zk),(hg x'<=zq F/\kK (zr F) (mc l b F.1 (hB (hg x') (zp F)) (gN x'))=zl/\gE (gN x')<=zn F+hg x')/\zq F-hg x'<zq F-G.1/\(zaf G=(↑(hg x'):Int)/\zar G F=gN x'/\True)/\zar G F=gN x'/\zj)))))))/\((zx F G)=false->True/\((!(decide (zac<=zu F G)&&decide (zu F G<=2147483647)))=true->zab)/\((!(decide (zac<=zu F G)&&decide (zu F G<=2147483647)))=false->(zad G/\zm G+gE [(zo F,zy F G,zu F G,())]<=1000000000)/\(zae G->zi->zag G/\∃(x':zk),(hg x'<=zq F/\kK (zr F) (mc l b F.1 (hB (hg x') (zp F)) (gN x'))=zl/\gE (gN x')<=zn F+hg x')/\zq F-hg x'<zq F-G.1/\(zaf G=(↑(hg x'):Int)/\zas G F=gN x'/\True)/\zas G F=gN x'/\zj))))
  za<=aI->zb<=aI->((zc != zd)=true->([],3)=ze)/\((zc != zd)=false->(∃(x:Nat),(x<=za/\∀(j:Nat),j<x->0<=nth zf b j/\nth zf b j<=256)/\(0=(↑x:Int)/\True)/\True)/\∀E:Nat,(E<=za/\∀(j:Nat),j<E->0<=nth zf b j/\nth zf b j<=256)->za<=aI->((decide ((↑E:Int)<zc))=true->zg E/\((decide (nth zf b E<0))=true->zh)/\((decide (nth zf b E<0))=false->zg E/\((decide (nth zf b E > 256))=true->zh)/\((decide (nth zf b E > 256))=false->aF (↑E:Int)->zi->aF ((↑E:Int)+1)/\∃(x':Nat),(x'<=za/\∀(j:Nat),j<x'->0<=nth zf b j/\nth zf b j<=256)/\za-x'<za-E/\((↑E:Int)+1=(↑x':Int)/\True)/\zj)))/\((decide ((↑E:Int)<zc))=false->(∃(x:zk),(hg x<=zb/\lX l b (hB (hg x) l) (hg x) (gN x)=zl/\gE (gN x)<=10*hg x)/\(0=(↑(hg x):Int)/\@hq (Int×Int×Int×Unit)=gN x/\True)/\@hq (Int×Int×Int×Unit)=gN x/\True)/\∀F:Nat×List (Int×Int×Int×Unit),F.1<=zb/\lX l b (hB F.1 l) F.1 F.2=zl/\zm F<=zn F->zb<=aI->((decide (zo F<zd))=true->(∃(x:zk),(hg x<=zq F/\kK (zr F) (mc l b F.1 (hB (hg x) (zp F)) (gN x))=zl/\gE (gN x)<=zn F+hg x)/\(0=(↑(hg x):Int)/\F.2=gN x/\True)/\F.2=gN x/\True)/\∀G:Nat×List (Int×Int×Int×Unit),G.1<=zq F/\kK (zr F) (mc l b F.1 (hB G.1 (zp F)) G.2)=zl/\zm G<=zn F+G.1->(zs F/\zo F<zd)/\(zq F<=aI->((decide (zo G<(↑(zq F):Int)))=true->(zs F/\zo F<zd)/\(zs G/\zo G<(↑(zq F):Int))/\(((nth aQ (zp F) G.1).2.1 == 1)=true->zt F/\(aF (zu F G)->aF (zv F)->aF (zw F G)/\((zx F G)=true->zt F/\(aF (zw F G)->aF (zv F)->aF (zw F G-zv F)/\(aF (zw F G-zv F)->aF (zy F G)->aF (zz F G)/\((decide (zz F G<zaa))=true->zab)/\((decide (zz F G<zaa))=false->((decide (zz F G > 500))=true->zab)/\((decide (zz F G > 500))=false->True/\((!(decide (zac<=zz F G)&&decide (zz F G<=2147483647)))=true->zab)/\((!(decide (zac<=zz F G)&&decide (zz F G<=2147483647)))=false->(zad G/\zm G+gE [(zo F,zy F G,zz F G,())]<=1000000000)/\(zae G->zi->zag G/\∃(x':zk),(hg x'<=zq F/\kK (zr F) (mc l b F.1 (hB (hg x') (zp F)) (gN x'))=zl/\gE (gN x')<=zn F+hg x')/\zq F-hg x'<zq F-G.1/\(zaf G=(↑(hg x'):Int)/\zah G F=gN x'/\True)/\zah G F=gN x'/\zj)))))))/\((zx F G)=false->True/\((!(decide (zac<=zw F G)&&decide (zw F G<=2147483647)))=true->zab)/\((!(decide (zac<=zw F G)&&decide (zw F G<=2147483647)))=false->(zad G/\zm G+gE [(zo F,zy F G,zw F G,())]<=1000000000)/\(zae G->zi->zag G/\∃(x':zk),(hg x'<=zq F/\kK (zr F) (mc l b F.1 (hB (hg x') (zp F)) (gN x'))=zl/\gE (gN x')<=zn F+hg x')/\zq F-hg x'<zq F-G.1/\(zaf G=(↑(hg x'):Int)/\zai G F=gN x'/\True)/\zai G F=gN x'/\zj)))))/\(((nth aQ (zp F) G.1).2.1 == 1)=false->True/\((decide ((zaj F G).1<0))=true->((!(nth aQ (zp F) G.1).2.2.2.2.1)=true->([],6)=ze)/\((!(nth aQ (zp F) G.1).2.2.2.2.1)=false->zat F G))/\((decide ((zaj F G).1<0))=false->zat F G)))/\((decide (zo G<(↑(zq F):Int)))=false->zae F->zi->zag F/\∃(x':zk),(hg x'<=zb/\lX l b (hB (hg x') l) (hg x') (gN x')=zl/\gE (gN x')<=10*hg x')/\zb-hg x'<zb-F.1/\(zaf F=(↑(hg x'):Int)/\G.2=gN x'/\True)/\G.2=gN x'/\zj)))/\((decide (zo F<zd))=false->(F.2,0)=ze)))) (by kernel_rfl) ?_
 dsimp -iota -proj -eta only;dsimp only at hp;refine fun h0 h1=>iN (fun h2=>(by rw[Lc (by omega)];rfl)) (fun h2=>⟨(⟨0,⟨by omega,fun j hj=>by omega⟩,⟨rfl,dT⟩,dT⟩),fun E q_0 h3=>iL (fun h4=>⟨?a,iL (fun h5 =>?b) (fun h5=>⟨?c,iL (fun h6 =>?d) (fun h6 h7 h8=>⟨?e,(⟨E+1,⟨by omega,jD q_0.2 (by dsimp only[D]at*;omega)⟩,by omega,⟨by omega,dT⟩,(by trivial)⟩)⟩)⟩)⟩) (fun h4=>⟨(⟨(0,[]),⟨by omega,rfl,by simp⟩,(by trivial),(by trivial)⟩),fun F q_1 h5=>iL (fun h6=>⟨(by exact⟨(0,F.2),⟨by omega,by rw[<-HO (by omega)];exact q_1.2.1,by simp only;omega⟩,(by trivial),(by trivial)⟩),fun G q_2=>⟨?f,fun h7=>iL (fun h8=>⟨?g,?h,iQ (fun h9=>⟨?i,fun h10 h11=>⟨?j,iQ (fun h12=>⟨?k,fun h13 h14=>⟨?l,fun h15 h16=>⟨?m,iL (fun h17 =>?n) (fun h17=>iL (fun h18 =>?o) (fun h18=>⟨dT,⟨fun h19 =>?p,fun h19=>⟨?q,fun h20 h21=>⟨?r,?s⟩⟩⟩⟩))⟩⟩⟩) (fun h12=>⟨dT,⟨fun h13 =>?t,fun h13=>⟨?u,fun h14 h15=>⟨?v,?w⟩⟩⟩⟩)⟩⟩) (fun h9=>⟨dT,iL (fun h10=>iB (fun h11 =>?x) (fun h11=>iE (fun h12=>⟨?y,fun h13 h14=>⟨?z,?a0,?a1,fun h15 h16=>⟨?a2,iQ (fun h17=>⟨?a3,fun h18 h19=>⟨?a4,fun h20 h21=>⟨?a5,iL (fun h22 =>?a6) (fun h22=>iL (fun h23 =>?a7) (fun h23=>⟨dT,⟨fun h24 =>?a8,fun h24=>⟨?a9,fun h25 h26=>⟨?aa,?ab⟩⟩⟩⟩))⟩⟩⟩) (fun h17=>⟨dT,⟨fun h18 =>?ac,fun h18=>⟨?ad,fun h19 h20=>⟨?ae,?af⟩⟩⟩⟩)⟩⟩⟩) (fun h12=>iQ (fun h13=>⟨?ag,fun h14 h15=>⟨?ah,fun h16 h17=>⟨?ai,iL (fun h18 =>?aj) (fun h18=>iL (fun h19 =>?ak) (fun h19=>⟨dT,⟨fun h20 =>?al,fun h20=>⟨?am,fun h21 h22=>⟨?an,?ao⟩⟩⟩⟩))⟩⟩⟩) (fun h13=>⟨dT,⟨fun h14 =>?ap,fun h14=>⟨?aq,fun h15 h16=>⟨?ar,?au⟩⟩⟩⟩)))) (fun h10=>iE (fun h11=>⟨?av,fun h12 h13=>⟨?aw,?ax,?ay,fun h14 h15=>⟨?az,iQ (fun h16=>⟨?b0,fun h17 h18=>⟨?b1,fun h19 h20=>⟨?b2,iL (fun h21 =>?b3) (fun h21=>iL (fun h22 =>?b4) (fun h22=>⟨dT,⟨fun h23 =>?b5,fun h23=>⟨?b6,fun h24 h25=>⟨?b7,?b8⟩⟩⟩⟩))⟩⟩⟩) (fun h16=>⟨dT,⟨fun h17 =>?b9,fun h17=>⟨?ba,fun h18 h19=>⟨?bb,?bc⟩⟩⟩⟩)⟩⟩⟩) (fun h11=>iQ (fun h12=>⟨?bd,fun h13 h14=>⟨?be,fun h15 h16=>⟨?bf,iL (fun h17 =>?bg) (fun h17=>iL (fun h18 =>?bh) (fun h18=>⟨dT,⟨fun h19 =>?bi,fun h19=>⟨?bj,fun h20 h21=>⟨?bk,?bl⟩⟩⟩⟩))⟩⟩⟩) (fun h12=>⟨dT,⟨fun h13 =>?bm,fun h13=>⟨?bn,fun h14 h15=>⟨?bo,?bp⟩⟩⟩⟩)))⟩)⟩) (fun h8 h9 h10=>⟨?bq,?br⟩)⟩⟩) (fun h6 =>?bs)⟩)⟩)
 case a|c|f|g|h|i|k|y|z|a0|a1|a2|a3|a4|a5|a6|a7|ag|b0|bd|be|bf|bg|bh=>omega
 case b|d=>rw[HP (i:=E) (by omega) (by omega) (by dsimp only[D]at*;omega)];rfl
 case e|bq=>simp only[aF,aI]at*;omega
 case j|l|m|ah|ai=>
  have hlen:b.length=l.length:=(by omega);have hib:lq b:=fun j hj=>q_0.2 j (by omega)
  have hm:=hp.2 F.1 (by omega);have htk:=hm.2.2 G.1 (by omega);have hb:=nc (i:=(F.1:Int)) hib hlen (by omega) (by omega);unfold Small Word at htk;rw[hC]at hb;dsimp only[D]at*;simp only[aF];omega
 case n|o=>dsimp only[D]at*;omega
 case p|bi|bj|bk|bl=>
  simp only[bl,reduceCtorEq]at h19;omega
 case q|r|s=>
  simp only[bl,reduceCtorEq]at h19;dsimp only[D]at*;omega
 case t=>
  simp only[bl,reduceCtorEq]at h13;have hlen:b.length=l.length:=(by omega);have hib:lq b:=fun j hj=>q_0.2 j (by omega)
  have ho:=ub (l:=l) (b:=b) (i:=(F.1:Int)) (t:=(nth aQ (nth aA l F.1).2.2.2.1 G.1)) ‹_›;rw[uc (by first|assumption|(simp_all;done)) (by simp only[hC];dsimp only[D]at*;omega)]at ho;have e:eM (l,b)=([],(fP l b F.1 (nth aQ (nth aA l F.1).2.2.2.1 G.1)).2):=(by rw[oh hlen hib,<-q_2.2.1,rN (by omega) (by rw[ho];rfl)]);rw[e,ho];rfl
 case u=>
  simp only[bl,reduceCtorEq]at h13;have hm:=hp.2 F.1 (by omega);have:=hm.1;have:=hp.1;exact⟨rfl,by simp only[hz,aI];omega⟩
 case v=>
  simp only[bl,reduceCtorEq]at h13;simp only[aF,aI]at*;omega
 case w=>
  simp only[bl,reduceCtorEq]at h13;have hlen:b.length=l.length:=(by omega);have hib:lq b:=fun j hj=>q_0.2 j (by omega)
  have ho:=ub (l:=l) (b:=b) (i:=(F.1:Int)) (t:=(nth aQ (nth aA l F.1).2.2.2.1 G.1)) ‹_›;rw[tx (by first|assumption|(simp_all;done)) rfl (by simp only[hC];dsimp only[D]at*;omega)]at ho;exact⟨(G.1+1,G.2++[((F.1:Int),(nth aQ (nth aA l F.1).2.2.2.1 G.1).1,(fP l b F.1 (nth aQ (nth aA l F.1).2.2.2.1 G.1)).1,())]),⟨by omega,by rw[<-q_2.2.1,wG (k:=G.1) (by omega) (by rw[ho];rfl)],by simp only[hE,hz];omega⟩,by simp only;omega,⟨by simp only;omega,oq (by rw[ho];simp only[hC];dsimp only[D]at*;omega),dT⟩,oq (by rw[ho];simp only[hC];dsimp only[D]at*;omega),(by trivial)⟩
 case x=>
  have hlen:b.length=l.length:=(by omega);have hib:lq b:=fun j hj=>q_0.2 j (by omega)
  have ht:=ua (l:=l) (b:=b) (t:=(nth aQ (nth aA l F.1).2.2.2.1 G.1)) ‹_› ‹_›;have ho:=P4 (l:=l) (b:=b) (i:=(F.1:Int)) (t:=(nth aQ (nth aA l F.1).2.2.2.1 G.1)) ‹_› (by rw[ht];rfl);rw[ht]at ho;have e:eM (l,b)=([],(fP l b F.1 (nth aQ (nth aA l F.1).2.2.2.1 G.1)).2):=(by rw[oh hlen hib,<-q_2.2.1,rN (by omega) (by rw[ho];rfl)]);rw[e,ho];rfl
 case a8|a9|aa|ab=>
  simp only[bl,reduceCtorEq]at h24;omega
 case ac|ad|ae|af=>
  simp only[bl,reduceCtorEq]at h18;omega
 case aj|ak=>
  have hlen:b.length=l.length:=(by omega);have hib:lq b:=fun j hj=>q_0.2 j (by omega)
  have ht:=om (l:=l) (b:=b) (t:=(nth aQ (nth aA l F.1).2.2.2.1 G.1)) ‹_› ‹_›;have ho:=mi (l:=l) (b:=b) (i:=(F.1:Int)) (t:=(nth aQ (nth aA l F.1).2.2.2.1 G.1)) ‹_› (by rw[ht];rfl);rw[ht]at ho;rw[DI ‹_› (by simp only[hC];dsimp only[D]at*;omega)]at ho;have e:eM (l,b)=([],(fP l b F.1 (nth aQ (nth aA l F.1).2.2.2.1 G.1)).2):=(by rw[oh hlen hib,<-q_2.2.1,rN (by omega) (by rw[ho];rfl)]);rw[e,ho];rfl
 case al=>
  simp only[bl,reduceCtorEq]at h20;omega
 case am=>
  simp only[bl,reduceCtorEq]at h20;have hm:=hp.2 F.1 (by omega);have:=hm.1;have:=hp.1;exact⟨rfl,by simp only[hz,aI];omega⟩
 case an=>
  simp only[bl,reduceCtorEq]at h20;simp only[aF,aI]at*;omega
 case ao=>
  simp only[bl,reduceCtorEq]at h20;have hlen:b.length=l.length:=(by omega);have hib:lq b:=fun j hj=>q_0.2 j (by omega)
  have ht:=om (l:=l) (b:=b) (t:=(nth aQ (nth aA l F.1).2.2.2.1 G.1)) ‹_› ‹_›;have ho:=mi (l:=l) (b:=b) (i:=(F.1:Int)) (t:=(nth aQ (nth aA l F.1).2.2.2.1 G.1)) ‹_› (by rw[ht];rfl);rw[ht]at ho;rw[GK ‹_› rfl (by simp only[hC];dsimp only[D]at*;omega)]at ho;exact⟨(G.1+1,G.2++[((F.1:Int),(nth aQ (nth aA l F.1).2.2.2.1 G.1).1,(fP l b F.1 (nth aQ (nth aA l F.1).2.2.2.1 G.1)).1,())]),⟨by omega,by rw[<-q_2.2.1,wG (k:=G.1) (by omega) (by rw[ho];rfl)],by simp only[hE,hz];omega⟩,by simp only;omega,⟨by simp only;omega,oq (by rw[ho];simp only[hC];dsimp only[D]at*;omega),dT⟩,oq (by rw[ho];simp only[hC];dsimp only[D]at*;omega),(by trivial)⟩
 case ap=>
  simp only[bl,reduceCtorEq]at h14;have hlen:b.length=l.length:=(by omega);have hib:lq b:=fun j hj=>q_0.2 j (by omega)
  have ht:=om (l:=l) (b:=b) (t:=(nth aQ (nth aA l F.1).2.2.2.1 G.1)) ‹_› ‹_›;have ho:=mi (l:=l) (b:=b) (i:=(F.1:Int)) (t:=(nth aQ (nth aA l F.1).2.2.2.1 G.1)) ‹_› (by rw[ht];rfl);rw[ht]at ho;rw[uc (by first|assumption|(simp_all;done)) (by simp only[hC];dsimp only[D]at*;omega)]at ho;have e:eM (l,b)=([],(fP l b F.1 (nth aQ (nth aA l F.1).2.2.2.1 G.1)).2):=(by rw[oh hlen hib,<-q_2.2.1,rN (by omega) (by rw[ho];rfl)]);rw[e,ho];rfl
 case aq=>
  simp only[bl,reduceCtorEq]at h14;have hm:=hp.2 F.1 (by omega);have:=hm.1;have:=hp.1;exact⟨rfl,by simp only[hz,aI];omega⟩
 case ar=>
  simp only[bl,reduceCtorEq]at h14;simp only[aF,aI]at*;omega
 case au=>
  simp only[bl,reduceCtorEq]at h14;have hlen:b.length=l.length:=(by omega);have hib:lq b:=fun j hj=>q_0.2 j (by omega)
  have ht:=om (l:=l) (b:=b) (t:=(nth aQ (nth aA l F.1).2.2.2.1 G.1)) ‹_› ‹_›;have ho:=mi (l:=l) (b:=b) (i:=(F.1:Int)) (t:=(nth aQ (nth aA l F.1).2.2.2.1 G.1)) ‹_› (by rw[ht];rfl);rw[ht]at ho;rw[tx (by first|assumption|(simp_all;done)) rfl (by simp only[hC];dsimp only[D]at*;omega)]at ho;exact⟨(G.1+1,G.2++[((F.1:Int),(nth aQ (nth aA l F.1).2.2.2.1 G.1).1,(fP l b F.1 (nth aQ (nth aA l F.1).2.2.2.1 G.1)).1,())]),⟨by omega,by rw[<-q_2.2.1,wG (k:=G.1) (by omega) (by rw[ho];rfl)],by simp only[hE,hz];omega⟩,by simp only;omega,⟨by simp only;omega,oq (by rw[ho];simp only[hC];dsimp only[D]at*;omega),dT⟩,oq (by rw[ho];simp only[hC];dsimp only[D]at*;omega),(by trivial)⟩
 case av|ax|ay=>
  have hlen:b.length=l.length:=(by omega);have hib:lq b:=fun j hj=>q_0.2 j (by omega)
  have hf:=tw (l:=l) (s:=(nth aQ (nth aA l F.1).2.2.2.1 G.1).2.2.2.1) (by omega);have hbf:=nc (i:=(dR (l,(nth aQ (nth aA l F.1).2.2.2.1 G.1).2.2.2.1)).1) hib hlen (by omega) (by omega);have hsf:=Fa (l:=l) (s:=(nth aQ (nth aA l F.1).2.2.2.1 G.1).2.2.2.1) hp (by omega);unfold Small at hsf;dsimp only[D]at*;omega
 case aw|az|b1|b2=>
  have hlen:b.length=l.length:=(by omega);have hib:lq b:=fun j hj=>q_0.2 j (by omega)
  have hm:=hp.2 F.1 (by omega);have htk:=hm.2.2 G.1 (by omega);have hb:=nc (i:=(F.1:Int)) hib hlen (by omega) (by omega);unfold Small Word at htk;rw[hC]at hb;have hf:=tw (l:=l) (s:=(nth aQ (nth aA l F.1).2.2.2.1 G.1).2.2.2.1) (by omega);have hbf:=nc (i:=(dR (l,(nth aQ (nth aA l F.1).2.2.2.1 G.1).2.2.2.1)).1) hib hlen (by omega) (by omega);have hsf:=Fa (l:=l) (s:=(nth aQ (nth aA l F.1).2.2.2.1 G.1).2.2.2.1) hp (by omega);unfold Small at hsf;dsimp only[D]at*;simp only[aF];omega
 case b3|b4=>
  have hlen:b.length=l.length:=(by omega);have hib:lq b:=fun j hj=>q_0.2 j (by omega)
  have ht:=pz (l:=l) (b:=b) (t:=(nth aQ (nth aA l F.1).2.2.2.1 G.1)) ‹_›;have ho:=mi (l:=l) (b:=b) (i:=(F.1:Int)) (t:=(nth aQ (nth aA l F.1).2.2.2.1 G.1)) ‹_› (by rw[ht];rfl);rw[ht]at ho;rw[DI ‹_› (by simp only[hC];dsimp only[D]at*;omega)]at ho;have e:eM (l,b)=([],(fP l b F.1 (nth aQ (nth aA l F.1).2.2.2.1 G.1)).2):=(by rw[oh hlen hib,<-q_2.2.1,rN (by omega) (by rw[ho];rfl)]);rw[e,ho];rfl
 case b5=>
  simp only[bl,reduceCtorEq]at h23;omega
 case b6=>
  simp only[bl,reduceCtorEq]at h23;have hm:=hp.2 F.1 (by omega);have:=hm.1;have:=hp.1;exact⟨rfl,by simp only[hz,aI];omega⟩
 case b7=>
  simp only[bl,reduceCtorEq]at h23;simp only[aF,aI]at*;omega
 case b8=>
  simp only[bl,reduceCtorEq]at h23;have hlen:b.length=l.length:=(by omega);have hib:lq b:=fun j hj=>q_0.2 j (by omega)
  have ht:=pz (l:=l) (b:=b) (t:=(nth aQ (nth aA l F.1).2.2.2.1 G.1)) ‹_›;have ho:=mi (l:=l) (b:=b) (i:=(F.1:Int)) (t:=(nth aQ (nth aA l F.1).2.2.2.1 G.1)) ‹_› (by rw[ht];rfl);rw[ht]at ho;rw[GK ‹_› rfl (by simp only[hC];dsimp only[D]at*;omega)]at ho;exact⟨(G.1+1,G.2++[((F.1:Int),(nth aQ (nth aA l F.1).2.2.2.1 G.1).1,(fP l b F.1 (nth aQ (nth aA l F.1).2.2.2.1 G.1)).1,())]),⟨by omega,by rw[<-q_2.2.1,wG (k:=G.1) (by omega) (by rw[ho];rfl)],by simp only[hE,hz];omega⟩,by simp only;omega,⟨by simp only;omega,oq (by rw[ho];simp only[hC];dsimp only[D]at*;omega),dT⟩,oq (by rw[ho];simp only[hC];dsimp only[D]at*;omega),(by trivial)⟩
 case b9=>
  simp only[bl,reduceCtorEq]at h17;have hlen:b.length=l.length:=(by omega);have hib:lq b:=fun j hj=>q_0.2 j (by omega)
  have ht:=pz (l:=l) (b:=b) (t:=(nth aQ (nth aA l F.1).2.2.2.1 G.1)) ‹_›;have ho:=mi (l:=l) (b:=b) (i:=(F.1:Int)) (t:=(nth aQ (nth aA l F.1).2.2.2.1 G.1)) ‹_› (by rw[ht];rfl);rw[ht]at ho;rw[uc (by first|assumption|(simp_all;done)) (by simp only[hC];dsimp only[D]at*;omega)]at ho;have e:eM (l,b)=([],(fP l b F.1 (nth aQ (nth aA l F.1).2.2.2.1 G.1)).2):=(by rw[oh hlen hib,<-q_2.2.1,rN (by omega) (by rw[ho];rfl)]);rw[e,ho];rfl
 case ba=>
  simp only[bl,reduceCtorEq]at h17;have hm:=hp.2 F.1 (by omega);have:=hm.1;have:=hp.1;exact⟨rfl,by simp only[hz,aI];omega⟩
 case bb=>
  simp only[bl,reduceCtorEq]at h17;simp only[aF,aI]at*;omega
 case bc=>
  simp only[bl,reduceCtorEq]at h17;have hlen:b.length=l.length:=(by omega);have hib:lq b:=fun j hj=>q_0.2 j (by omega)
  have ht:=pz (l:=l) (b:=b) (t:=(nth aQ (nth aA l F.1).2.2.2.1 G.1)) ‹_›;have ho:=mi (l:=l) (b:=b) (i:=(F.1:Int)) (t:=(nth aQ (nth aA l F.1).2.2.2.1 G.1)) ‹_› (by rw[ht];rfl);rw[ht]at ho;rw[tx (by first|assumption|(simp_all;done)) rfl (by simp only[hC];dsimp only[D]at*;omega)]at ho;exact⟨(G.1+1,G.2++[((F.1:Int),(nth aQ (nth aA l F.1).2.2.2.1 G.1).1,(fP l b F.1 (nth aQ (nth aA l F.1).2.2.2.1 G.1)).1,())]),⟨by omega,by rw[<-q_2.2.1,wG (k:=G.1) (by omega) (by rw[ho];rfl)],by simp only[hE,hz];omega⟩,by simp only;omega,⟨by simp only;omega,oq (by rw[ho];simp only[hC];dsimp only[D]at*;omega),dT⟩,oq (by rw[ho];simp only[hC];dsimp only[D]at*;omega),(by trivial)⟩
 case bm|bn|bo|bp=>
  simp only[bl,reduceCtorEq]at h13;omega
 case br=>
  have hm:=hp.2 F.1 (by omega);exact⟨(F.1+1,G.2),⟨by omega,by rw[<-q_2.2.1,P3 (by omega)],by have:=hm.1;simp only;omega⟩,by simp only;omega,⟨by simp only;omega,rfl,dT⟩,(by trivial)⟩
 case bs=>
  have hlen:b.length=l.length:=(by omega);have hib:lq b:=fun j hj=>q_0.2 j (by omega)
  rw[oh hlen hib,<-q_1.2.1,P2 (by omega)];rfl
def Tryz.Pk:bO Tryz.prog Tryz.B.eT Tryz.X 102 [.slice aA,.slice (.int .i64)] [.slice aN,.int .i64] (fun x=>jw x.1) (fun x y=>y=(fun x=>((eM x).1,jj (eM x).2)) x):=
 bP (X:=Tryz.X) Tryz.Ph Tryz.func102 (by kernel_rfl) (fun x=>Jn x.1 x.2) (fun x hw hp=>Pj x.1 x.2 hw hp)
def Xf(w:List (List Int))(l:List (D aN)):cU:=[
 (200000,fun st=>{X:=Nat,inv:=fun i=>i<=w.length,bF:=fun i=>w.length-i,aY:=fun i=>[(13,sI i)],aU:=[.ext 0 nW],refs:=[(6,0)],pd:=fun i=>(w.take i,()),keep:=[1,4,5,11,12]}),
 (2,fun st=>{X:=Nat,inv:=fun k=>k<=l.length/\∀j,j<k->uP w (nth aN l j),bF:=fun k=>l.length-k,aY:=fun k=>[(25,sI k)],aH:=fun k=>[(aT st 6,.ext 0 nW (iU w (l.take k)))],keep:=[6,23,24],eA:=[aT st 6]})]
def ady(w:List (List Int))(l:List (D aN))(hw:eD [nW,.slice aN] (w,l))(hp:(fun x=>x.1.length<=100000/\∀i,i<x.1.length->(nth iT x.1 i).length<=100000000) (w,l)):(cL (jl Tryz.B [6]) [] Tryz.f114 (Xf w l) [nW,.slice aN] [nW,.err] (fun x y=>y=(fun x=>jQ x) x) (w,l)).holds:=by
 refine holds_of (p:=
  let za:=gE w
  let zb:=@hq (List Int)=@hq (List Int)/\True
  let zc:=(!false&&true)=true
  let zd:=fun(E:Nat)=>[nth (Ty.slice (Ty.int hD)) w E]
  let ze:=fun(E:Nat)=>(↑E:Int)+1
  let zf:=gE l
  let zg:=fun(F:Nat)=>(nth aN l F).1
  let zh:=([],aS.no 1)=jQ (w,l)
  let zi:=fun(F:Nat)=>iU w (hx F l)
  let zj:=fun(F:Nat)=>(nth aN l F).2.1
  let zk:=fun(F:Nat)=>0<=zg F/\zg F<(↑(gE (zi F)):Int)
  let zl:=fun(F:Nat)=>hA (zg F)<gE (zi F)
  let zm:=fun(F:Nat)=>nth iT (zi F) (hA (zg F))
  za<=aI->(∃(x':Nat),x'<=za/\True/\(0=(↑x':Int)/\True)/\zb/\zc/\([],())=(hx x' w,()))/\∀E:Nat,E<=za->((decide ((↑E:Int)<(↑za:Int)))=true->(0<=(↑E:Int)/\(↑E:Int)<(↑za:Int))/\gE (nth (Ty.slice (Ty.int hD)) w E)<=1000000000/\(0<gE (zd E)/\gE (hx E w)+gE (zd E)<=1000000000)/\(aF (↑E:Int)->aF 1->aF (ze E)/\∃(x':Nat),x'<=za/\za-x'<za-E/\(ze E=(↑x':Int)/\True)/\zb/\zc/\(hx E w++zd E,())=(hx x' w,())))/\((decide ((↑E:Int)<(↑za:Int)))=false->zf<=aI->(∃(x:Nat),(x<=zf/\∀(j:Nat),j<x->uP w (nth aN l j))/\(0=(↑x:Int)/\True)/\hx E w=iU w (hx x l)/\True)/\∀F:Nat,(F<=zf/\∀(j:Nat),j<F->uP w (nth aN l j))->((decide ((↑F:Int)<(↑zf:Int)))=true->(0<=(↑F:Int)/\(↑F:Int)<(↑zf:Int))/\((decide (zg F<0))=true->zh)/\((decide (zg F<0))=false->gE (zi F)<=aI->((decide (zg F>=(↑(gE (zi F)):Int)))=true->zh)/\((decide (zg F>=(↑(gE (zi F)):Int)))=false->((decide (zj F<0))=true->zh)/\((decide (zj F<0))=false->zk F/\zl F/\zl F/\(gE (zm F)<=aI->((decide (zj F>=(↑(gE (zm F)):Int)))=true->zh)/\((decide (zj F>=(↑(gE (zm F)):Int)))=false->zk F/\zl F/\(zl F/\0<=zj F/\zj F<(↑(gE (zm F)):Int))/\(zl F/\hA (zj F)<gE (zm F))/\(aF (↑F:Int)->aF 1->aF (ze F)/\∃(x':Nat),(x'<=zf/\∀(j:Nat),j<x'->uP w (nth aN l j))/\zf-x'<zf-F/\(ze F=(↑x':Int)/\True)/\hR (zi F) (hA (zg F)) (hR (zm F) (hA (zj F)) (nth aN l F).2.2.1)=iU w (hx x' l)/\zb)))))))/\((decide ((↑F:Int)<(↑zf:Int)))=false->(zi F,aS.nil)=jQ (w,l)))) (by kernel_rfl) ?_
 dsimp -iota -proj -eta only;dsimp only at hp;refine fun h0=>⟨(⟨0,by omega,dT,⟨rfl,dT⟩,⟨rfl,dT⟩,rfl,rfl⟩),fun E q_0=>iL (fun h1=>⟨?a,(by have:=hp.2 E (by omega);show gE (nth iT w E)<=1000000000;omega),(by have:=hp.1;simp only[hz,hM,aI];omega),fun h2 h3=>⟨?b,(⟨E+1,by omega,by omega,⟨by omega,dT⟩,⟨rfl,dT⟩,rfl,by rw[my (t:=iT) (by omega)]⟩)⟩⟩) (fun h1 h2=>⟨(by exact⟨0,⟨by omega,fun j hj=>by omega⟩,⟨rfl,dT⟩,by rw[hN (by omega)];rfl,dT⟩),fun F q_1=>iL (fun h3=>⟨?c,iL (fun h4 =>?d) (fun h4 h5=>iE (fun h6 =>?e) (fun h6=>iL (fun h7 =>?f) (fun h7=>⟨?g,?h,?i,fun h8=>iE (fun h9 =>?j) (fun h9=>⟨?k,?l,?m,?n,fun h10 h11=>⟨?o,?p⟩⟩)⟩)))⟩) (fun h3=>(by rw[wF fun i hi=>q_1.2 i (by omega),hN (by omega)]))⟩)⟩
 case a|c=>omega
 case b|o=>simp only[aF,aI]at*;omega
 case d|e|f|j=>
  have hr:=An (l.take F) w (nth aN l F).1.toNat;have hll:=sf (l.take F) w;exact(YC (i:=F) (by omega) (by unfold uP;dsimp only[D]at*;omega)).symm
 case g|h|i|k|l|m|n=>
  have hr:=An (l.take F) w (nth aN l F).1.toNat;have hll:=sf (l.take F) w
  first|omega|(dsimp only[D]at*;omega)
 case p=>
  have hr:=An (l.take F) w (nth aN l F).1.toNat;have hll:=sf (l.take F) w;exact⟨F+1,⟨by omega,jD q_1.2 (by unfold uP;dsimp only[D]at*;omega)⟩,by omega,⟨by omega,dT⟩,UN (by omega),(by trivial)⟩
def Tryz.adz:bO Tryz.prog Tryz.B.eT Tryz.X 114 [nW,.slice aN] [nW,.err] (fun x=>x.1.length<=100000/\∀i,i<x.1.length->(nth iT x.1 i).length<=100000000) (fun x y=>y=(fun x=>jQ x) x):=
 bP (B:=(jl Tryz.B [6])) (X:=Tryz.X) (bL.hint (l:=[6]) (bJ Tryz.bI)) Tryz.func114 (by kernel_rfl) (fun x=>Xf x.1 x.2) (fun x hw hp=>ady x.1 x.2 hw hp)
def Nq(l:List (D aA)):cU:=[
 (0,fun st=>{X:=Nat,inv:=fun i=>i<=l.length,bF:=fun i=>l.length-i,aY:=fun i=>[(8,sI i),(3,.s (.one (.app (.int .i64) (bV (l.take i)) (aT st 3))))],aH:=fun i=>[(aT st 3,.tok (.int .i64) (bV (l.take i)))],keep:=[2,6,7],eA:=[aT st 3]})]
def Xg(l:List (D aA))(hw:eD [.slice aA] l)(hp:(fun l=>l.length<=1000) l):(cL Tryz.B [] Tryz.f110 (Nq l) [.slice aA] [.slice (.int .i64)] (fun x y=>y=(fun l=>bV l) x) l).holds:=by
 refine holds_of (p:=
  let za:=gE l
  let zb:=fun(E:Nat)=>gE (nth aA l E).2.1
  let zc:=fun(E:Nat)=>bV (hx E l)
  let zd:=fun(E:Nat)=>zc E++[(↑(zb E):Int)]
  za<=aI->(∃(x:Nat),x<=za/\(0=(↑x:Int)/\@hq Int=bV (hx x l)/\True)/\@hq Int=bV (hx x l)/\True)/\∀E:Nat,E<=za->((decide ((↑E:Int)<(↑za:Int)))=true->(0<=(↑E:Int)/\(↑E:Int)<(↑za:Int))/\(zb E<=aI->(zc E=zc E/\gE (zc E)+gE [(↑(zb E):Int)]<=1000000000)/\(aF (↑E:Int)->aF 1->aF ((↑E:Int)+1)/\∃(x':Nat),x'<=za/\za-x'<za-E/\((↑E:Int)+1=(↑x':Int)/\zd E=bV (hx x' l)/\True)/\zd E=bV (hx x' l)/\@hq Int=@hq Int/\True)))/\((decide ((↑E:Int)<(↑za:Int)))=false->zc E=bV l)) (by kernel_rfl) ?_
 dsimp -iota -proj -eta only;exact fun h0=>⟨(⟨0,by omega,⟨rfl,rfl,dT⟩,rfl,dT⟩),fun E q_0=>iL (fun h1=>⟨(by omega),fun h2=>⟨(by exact⟨rfl,by rw[pF,hM];simp only[hz];omega⟩),fun h3 h4=>⟨(by simp only[aF,aI]at*;omega),(⟨E+1,by omega,by omega,⟨by omega,(sj (by omega)).symm,dT⟩,(sj (by omega)).symm,(by trivial)⟩)⟩⟩⟩) (fun h1=>(by rw[hN (by omega)]))⟩
def Tryz.Xh:bO Tryz.prog Tryz.B.eT Tryz.X 110 [.slice aA] [.slice (.int .i64)] (fun l=>l.length<=1000) (fun x y=>y=(fun l=>bV l) x):=
 bP (X:=Tryz.X) (bJ Tryz.bI) Tryz.func110 (by kernel_rfl) (fun x=>Nq x) (fun x hw hp=>Xg x hw hp)
def Nr(l:List (D aA)):cU:=[
 (0,fun st=>{X:=Nat,inv:=fun i=>i<=l.length,bF:=fun i=>l.length-i,aY:=fun i=>[(8,sI i),(3,.s (.one (.app iT (cR (l.take i)) (aT st 3))))],aH:=fun i=>[(aT st 3,.tok iT (cR (l.take i)))],keep:=[2,6,7],eA:=[aT st 3]})]
def Xi(l:List (D aA))(hw:eD [.slice aA] l)(hp:(fun l=>l.length<=1000) l):(cL Tryz.B [] Tryz.f115 (Nr l) [.slice aA] [nW] (fun x y=>y=(fun l=>cR l) x) l).holds:=by
 refine holds_of (p:=
  let za:=gE l
  let zb:=fun(E:Nat)=>cR (hx E l)
  let zc:=fun(E:Nat)=>zb E++[(nth aA l E).2.1]
  za<=aI->(∃(x:Nat),x<=za/\(0=(↑x:Int)/\@hq (List Int)=cR (hx x l)/\True)/\@hq (List Int)=cR (hx x l)/\True)/\∀E:Nat,E<=za->((decide ((↑E:Int)<(↑za:Int)))=true->(0<=(↑E:Int)/\(↑E:Int)<(↑za:Int))/\(zb E=zb E/\gE (zb E)+gE [(nth aA l E).2.1]<=1000000000)/\(aF (↑E:Int)->aF 1->aF ((↑E:Int)+1)/\∃(x':Nat),x'<=za/\za-x'<za-E/\((↑E:Int)+1=(↑x':Int)/\zc E=cR (hx x' l)/\True)/\zc E=cR (hx x' l)/\@hq (List Int)=@hq (List Int)/\True))/\((decide ((↑E:Int)<(↑za:Int)))=false->zb E=cR l)) (by kernel_rfl) ?_
 dsimp -iota -proj -eta only;exact fun h0=>⟨(⟨0,by omega,⟨rfl,rfl,dT⟩,rfl,dT⟩),fun E q_0=>iL (fun h1=>⟨(by omega),(by exact⟨rfl,by rw[nJ,hM];simp only[hz];omega⟩),fun h2 h3=>⟨(by simp only[aF,aI]at*;omega),(⟨E+1,by omega,by omega,⟨by omega,(CM (by omega)).symm,dT⟩,(CM (by omega)).symm,(by trivial)⟩)⟩⟩) (fun h1=>(by rw[hN (by omega)]))⟩
def Tryz.Xj:bO Tryz.prog Tryz.B.eT Tryz.X 115 [.slice aA] [nW] (fun l=>l.length<=1000) (fun x y=>y=(fun l=>cR l) x):=
 bP (X:=Tryz.X) (bJ Tryz.bI) Tryz.func115 (by kernel_rfl) (fun x=>Nr x) (fun x hw hp=>Xi x hw hp)
def Tryz.Xk:List (FuncId×(Bool×aX)):=[(115,(true,bX [.slice aA] [nW] (fun l=>l.length<=1000) (fun l=>cR l))),(114,(true,bX [nW,.slice aN] [nW,.err] (fun x=>x.1.length<=100000/\∀i,i<x.1.length->(nth iT x.1 i).length<=100000000) (fun x=>jQ x)))]
def Tryz.aar:bL Tryz.prog Tryz.B Tryz.X Tryz.Xk:=
 aM (aE Tryz.Xj) (aM (aE Tryz.adz) (bJ Tryz.bI))
def Xl(ns:List (List UInt8))(bs:List Int)(os:List (D aA))(ps:List (D aN)):cU:=[
 (0,fun st=>{X:=Nat,inv:=fun i=>i<=os.length,bF:=fun i=>os.length-i,aY:=fun i=>[(39,sI i),(12,.s (.one (.app cE (eV ns bs (jQ (cR os,ps)).1 i) (aT st 12))))],aH:=fun i=>[(aT st 12,.tok cE (eV ns bs (jQ (cR os,ps)).1 i))],keep:=[0,1,8,9,10,38],eA:=[aT st 12]})]
def adA(ns:List (List UInt8))(bs:List Int)(os:List (D aA))(ps:List (D aN))(hw:eD [.slice .str,.slice (.int .i64),.slice aA,.slice aN] (ns,bs,os,ps))(hp:(fun x=>x.2.2.1.length<=1000/\∀i,i<x.2.2.1.length->(nth aA x.2.2.1 i).2.1.length<=1000) (ns,bs,os,ps)):(cL Tryz.B Tryz.Xk Tryz.f75 (Xl ns bs os ps) [.slice .str,.slice (.int .i64),.slice aA,.slice aN] [.slice cE,.err] (fun x y=>y=(fun x=>lk x.1 x.2.1 x.2.2.1 x.2.2.2) x) (ns,bs,os,ps)).holds:=by
 refine holds_of (p:=
  let za:=gE os
  let zb:=za<=aI
  let zc:=(↑(gE ns):Int)
  let zd:=(↑za:Int)
  let ze:=lk ns bs os ps
  let zf:=([],aS.no 3)=ze
  let zg:=(↑(gE bs):Int)
  let zh:=cR os
  let zi:=jQ (zh,ps)
  let zj:=(jQ (zh,ps)).1
  let zk:=fun(E:Nat)=>(↑E:Int)
  let zl:=fun(E:Nat)=>0<=zk E
  let zm:=fun(E:Nat)=>eV ns bs zj E
  let zn:=fun(E:Nat)=>[(nth Ty.str ns E,nth (Ty.int hD) bs E,nth (Ty.slice (Ty.int hD)) zi.1 E,())]
  gE ns<=aI->zb->((zc != zd)=true->zf)/\((zc != zd)=false->gE bs<=aI->zb->((zg != zd)=true->zf)/\((zg != zd)=false->za<=1000/\(gE zh<=100000/\∀(i:Nat),i<gE zh->gE (nth iT zh i)<=100000000)/\((!aS.isNil zi.2)=true->([],zi.2)=ze)/\((!aS.isNil zi.2)=false->zb->(∃(x:Nat),x<=za/\(0=(↑x:Int)/\@hq (List UInt8×Int×List Int×Unit)=eV ns bs zj x/\True)/\@hq (List UInt8×Int×List Int×Unit)=eV ns bs zj x/\True)/\∀E:Nat,E<=za->((decide (zk E<zd))=true->(zl E/\zk E<zc)/\(zl E/\zk E<zg)/\(zl E/\zk E<(↑(gE zi.1):Int))/\(zm E=zm E/\gE (zm E)+gE (zn E)<=1000000000)/\(aF (zk E)->aF 1->aF (zk E+1)/\∃(x':Nat),x'<=za/\za-x'<za-E/\(zk E+1=(↑x':Int)/\zm E++zn E=eV ns bs zj x'/\True)/\zm E++zn E=eV ns bs zj x'/\@hq (List UInt8×Int×List Int×Unit)=@hq (List UInt8×Int×List Int×Unit)/\True))/\((decide (zk E<zd))=false->(zm E,aS.nil)=ze))))) (by kernel_rfl) ?_
 dsimp -iota -proj -eta only;dsimp only at hp;refine fun h0 h1=>iN (fun h2=>((Fv (.inl (by omega))).symm)) (fun h2 h3 h4=>iN (fun h5=>((Fv (.inr (by omega))).symm)) (fun h5=>⟨?a,(abt hp),iB (fun h6=>((YZ (by omega) (by omega) h6).symm)) (fun h6 h7=>⟨(⟨0,by omega,⟨rfl,rfl,dT⟩,rfl,dT⟩),fun E q_0=>iL (fun h8=>⟨?b,?c,(by rw[YG ‹_›,nJ];omega),(by exact⟨rfl,by rw[rm];simp only[hz];omega⟩),fun h9 h10=>⟨(by simp only[aF,aI]at*;omega),(⟨E+1,by omega,by omega,⟨by omega,(vO _ _ _ _).symm,dT⟩,(vO _ _ _ _).symm,(by trivial)⟩)⟩⟩) (fun h8=>(by rw[GN (by omega) (by omega) ‹_›,show E=os.length by omega]))⟩)⟩))
 case a|b|c=>omega
def Tryz.Xm:bO Tryz.prog Tryz.B.eT Tryz.X 75 [.slice .str,.slice (.int .i64),.slice aA,.slice aN] [.slice cE,.err] (fun x=>x.2.2.1.length<=1000/\∀i,i<x.2.2.1.length->(nth aA x.2.2.1 i).2.1.length<=1000) (fun x y=>y=(fun x=>lk x.1 x.2.1 x.2.2.1 x.2.2.2) x):=
 bP (X:=Tryz.X) Tryz.aar Tryz.func75 (by kernel_rfl) (fun x=>Xl x.1 x.2.1 x.2.2.1 x.2.2.2) (fun x hw hp=>adA x.1 x.2.1 x.2.2.1 x.2.2.2 hw hp)
def Tryz.Jo:List (FuncId×(Bool×aX)):=[(108,(false,aW Tryz.bK [.obj 0,.d .str] (fun _ x=>x.2.1.1.length<=6) Tryz.Hc)),(110,(true,bX [.slice aA] [.slice (.int .i64)] (fun l=>l.length<=1000) (fun l=>bV l))),(109,(true,bX [.slice (.int .i64),.slice bA] [.slice (.int .i64),.err] (fun _=>True) (fun x=>cC x))),(111,(true,bX [.slice aA,.slice (.int .i64)] [.slice aN,.err] (fun x=>jw x.1) (fun x=>eM x)))]
def Tryz.Pl:bL Tryz.prog Tryz.B Tryz.X Tryz.Jo:=
 aM (Tryz.Pd) (aM (aE Tryz.Xh) (aM (aE Tryz.aam) (aM (aE Tryz.adx) (bJ Tryz.bI))))
def Tryz.yD:List (Alt Tryz.bK [.obj 0,.d .str]):=[{bS:=Tryz.bK,res:=[.d (.slice .str),.d (.slice aA),.d (.slice (.int .i64)),.d (.slice aN),.d .err],out:=fun _ x=>x,ret:=fun a x=>((bB (aO x) a.1).1,(bB (aO x) a.1).2.1,(bB (aO x) a.1).2.2.1,(bB (aO x) a.1).2.2.2.1,aL (bB (aO x) a.1).2.2.2.2,())}]
def Xn(s:List UInt8)(f:cY)(hw:fM [.obj 0,.d .str] (s,()))(hp:(fun _ x=>x.2.1.1.length<=6) (s,()) f):(cO Tryz.B Tryz.Jo Tryz.f73 [] Tryz.bK [.obj 0,.d .str] Tryz.yD (s,()) f).holds:=by
 refine holds_of (p:=
  let za:=aR (aO f) s
  let zb:=aL za.2.2
  let zc:=f=f
  let zd:=bB (aO f) s
  let ze:=(zd.1,zd.2.1,zd.2.2.1,zd.2.2.2.1,aL zd.2.2.2.2,())
  let zf:=za.2.1
  let zg:=cC (bV zf,[])
  let zh:=eM (zf,zg.1)
  gE f.2.1.1<=6/\(True->((!aS.isNil zb)=true->True/\zc/\([],[],[],[],zb,())=ze)/\((!aS.isNil zb)=false->gE zf<=1000/\True/\((!aS.isNil zg.2)=true->True/\zc/\([],[],[],[],zg.2,())=ze)/\((!aS.isNil zg.2)=false->jw zf/\((!aS.isNil zh.2)=true->True/\zc/\([],[],[],[],zh.2,())=ze)/\((!aS.isNil zh.2)=false->True/\zc/\(za.1,zf,zg.1,zh.1,aS.nil,())=ze))))) (by kernel_rfl) ?_
 dsimp -iota -proj -eta only;exact⟨(by trivial),fun h0=>iB (fun h1=>⟨dT,rfl,by rw[um (fA h1)]⟩) (fun h1=>⟨(j2 (AX (kW hp) (aV.1 ‹_›)) (by decide)),dT,iB (fun h2=>⟨dT,rfl,by rw[uo (aV.1 ‹_›) h2,tf (tc _)]⟩) (fun h2=>⟨(Fw (kW hp) (aV.1 ‹_›)),iB (fun h3=>⟨dT,rfl,by rw[yc (aV.1 ‹_›) ‹_› h3,Y1]⟩) (fun h3=>(by exact⟨dT,rfl,by rw[vN (aV.1 ‹_›) ‹_› ‹_›];rfl⟩))⟩)⟩)⟩
def Tryz.Jp:bY Tryz.prog Tryz.B.eT Tryz.X 73 false (aW Tryz.bK [.obj 0,.d .str] (fun _ x=>x.2.1.1.length<=6) Tryz.yD):=
 aZ (X:=Tryz.X) Tryz.Pl Tryz.func73 (by kernel_rfl) (fun(a:CD [.obj 0,.d .str]) (x:PD Tryz.bK)=>[]) (fun(a:CD [.obj 0,.d .str]) (x:PD Tryz.bK) hw hp=>Xn a.1 x hw hp)
def Tryz.spZ32:Bool×aX:=(false,aW Tryz.bK [.obj 0,.d .str] (fun _ x=>x.2.1.1.length<=6) Tryz.yD)
def Tryz.spZ33:Bool×aX:=(true,bX [.slice .str,.slice (.int .i64),.slice aA,.slice aN] [.slice cE,.err] (fun x=>x.2.2.1.length<=1000/\∀i,i<x.2.2.1.length->(nth aA x.2.2.1 i).2.1.length<=1000) (fun x=>lk x.1 x.2.1 x.2.2.1 x.2.2.2))
def Tryz.QS:List (FuncId×(Bool×aX)):=[(73,Tryz.spZ32),(75,Tryz.spZ33)]
def Tryz.Xo:bL Tryz.prog Tryz.B Tryz.X Tryz.QS:=
 aM (Tryz.Jp) (aM (aE Tryz.Xm) (bJ Tryz.bI))
def Tryz.Ej:List (Alt Tryz.bK [.obj 0,.d .str]):=[{bS:=Tryz.bK,res:=[.d (.slice cE),.d .err],out:=fun _ x=>x,ret:=fun a x=>((cI (aO x) a.1).1,aL (cI (aO x) a.1).2,())}]
def acg(s:List UInt8)(f:cY)(hw:fM [.obj 0,.d .str] (s,()))(hp:(fun _ x=>x.2.1.1.length<=6) (s,()) f):(cO Tryz.B Tryz.QS Tryz.f56 [] Tryz.bK [.obj 0,.d .str] Tryz.Ej (s,()) f).holds:=by
 refine holds_of (p:=
  let za:=bB (aO f) s
  let zb:=aL za.2.2.2.2
  let zc:=cI (aO f) s
  let zd:=(zc.1,aL zc.2,())
  let ze:=gE za.2.1
  let zf:=lk za.1 za.2.2.1 za.2.1 za.2.2.2.1
  gE f.2.1.1<=6/\(True->((!aS.isNil zb)=true->True/\f=f/\([],zb,())=zd)/\((!aS.isNil zb)=false->(ze<=1000/\∀(i:Nat),i<ze->gE (nth aA za.2.1 i).2.1<=1000)/\True/\f=f/\(zf.1,zf.2,())=zd))) (by kernel_rfl) ?_
 dsimp -iota -proj -eta only;exact⟨(by trivial),fun h0=>iB (fun h1=>⟨dT,rfl,by rw[rR (fA h1)]⟩) (fun h1=>⟨(LI (kW hp) (aV.1 ‹_›)),⟨dT,rfl,Y0 (aV.1 ‹_›)⟩⟩)⟩
def Tryz.ach:bY Tryz.prog Tryz.B.eT Tryz.X 56 false (aW Tryz.bK [.obj 0,.d .str] (fun _ x=>x.2.1.1.length<=6) Tryz.Ej):=
 aZ (X:=Tryz.X) Tryz.Xo Tryz.func56 (by kernel_rfl) (fun(a:CD [.obj 0,.d .str]) (x:PD Tryz.bK)=>[]) (fun(a:CD [.obj 0,.d .str]) (x:PD Tryz.bK) hw hp=>acg a.1 x hw hp)
def Tryz.QT:List (FuncId×(Bool×aX)):=[(73,Tryz.spZ32),(70,Tryz.spZ27)]
def Tryz.Xp:bL Tryz.prog Tryz.B Tryz.X Tryz.QT:=
 aM (Tryz.Jp) (aM (Tryz.yA) (bJ Tryz.bI))
def Tryz.QU(s:List UInt8)(f:cY):cU:=[
 (0,fun st=>{X:=Nat,inv:=fun i=>i<=gE (bG (.slice .str) st 6),bF:=fun i=>gE (bG (.slice .str) st 6)-i,aY:=fun i=>[(35,sI i)],keep:=[0,4,8,11,33,34],aH:=fun i=>[(aT st 11,.cells 48 [.d .str s,.app aG (cS (aO f) (bG (.slice .str) st 6) (bG (.slice (.int .i64)) st 8) i) (iy st (aT st 11) 1),.d (.slice aN) (bG (.slice aN) st 9)]),(iy st (aT st 11) 1,.tok aG (cS (aO f) (bG (.slice .str) st 6) (bG (.slice (.int .i64)) st 8) i))],eA:=[aT st 11,iy st (aT st 11) 1]})]
def Tryz.Ek:List (Alt Tryz.bK [.obj 0,.d .str]):=[{bS:=Tryz.bK,res:=[.d aB,.d .err],out:=fun _ x=>x,ret:=fun a x=>((cJ (aO x) a.1).1,aL (cJ (aO x) a.1).2,())}]
def aci(s:List UInt8)(f:cY)(hw:fM [.obj 0,.d .str] (s,()))(hp:(fun _ x=>x.2.1.1.length<=6) (s,()) f):(cO Tryz.B Tryz.QT Tryz.f36 (Tryz.QU s f) Tryz.bK [.obj 0,.d .str] Tryz.Ek (s,()) f).holds:=by
 refine holds_of (p:=
  let za:=aO f
  let zb:=bB za s
  let zc:=aL zb.2.2.2.2
  let zd:=([],[],[],())
  let ze:=((cJ za s).1,aL (cJ za s).2,())
  let zf:=zb.1
  let zg:=gE zf
  let zh:=zb.2.2.1
  let zi:=zb.2.2.2.1
  let zj:=zi=zi/\True
  let zk:=fun(E:Nat)=>aL (aO f (nth Ty.str zf E)).2.2
  let zl:=fun(E:Nat)=>cS za zf zh E
  let zm:=fun(E:Nat)=>[(nth Ty.str zf E,(aO f (nth Ty.str zf E)).2.1,nth (Ty.int hD) zh E,())]
  let zn:=@hq (Int×Int×Int×Unit)=@hq (Int×Int×Int×Unit)
  let zo:=@hq (List UInt8×Int×Int×Unit)=@hq (List UInt8×Int×Int×Unit)
  gE f.2.1.1<=6/\(True->((!aS.isNil zc)=true->True/\f=f/\(zd,zc,())=ze)/\((!aS.isNil zc)=false->zg<=aI->(∃(x:Nat),x<=zg/\(0=(↑x:Int)/\True)/\(s=s/\@hq (List UInt8×Int×Int×Unit)=cS za zf zh x/\zj)/\@hq (List UInt8×Int×Int×Unit)=cS za zf zh x/\True)/\∀E:Nat,E<=zg->((decide ((↑E:Int)<(↑zg:Int)))=true->(0<=(↑E:Int)/\(↑E:Int)<(↑zg:Int))/\True/\(True->((!aS.isNil (zk E))=true->True/\f=f/\(zd,zk E,())=ze)/\((!aS.isNil (zk E))=false->(0<=(↑E:Int)/\(↑E:Int)<(↑(gE zh):Int))/\(zl E=zl E/\gE (zl E)+gE (zm E)<=1000000000)/\(aF (↑E:Int)->aF 1->aF ((↑E:Int)+1)/\∃(x':Nat),x'<=zg/\zg-x'<zg-E/\((↑E:Int)+1=(↑x':Int)/\True)/\(s=s/\zl E++zm E=cS za zf zh x'/\zj)/\zl E++zm E=cS za zf zh x'/\zn/\zo/\(C.gA 1=C.gA 1/\f.1.1=f.1.1/\True)/\f.2.1=f.2.1/\(@hq UInt8=@hq UInt8/\zo/\zn/\True)/\zn/\zo/\True))))/\((decide ((↑E:Int)<(↑zg:Int)))=false->True/\f=f/\((s,zl E,zi,()),aS.nil,())=ze)))) (by kernel_rfl) ?_
 dsimp -iota -proj -eta only;exact⟨(by trivial),fun h0=>iB (fun h1=>(by exact⟨dT,rfl,by rw[DY (fA h1)];rfl⟩)) (fun h1 h2=>⟨(⟨0,hF _,⟨rfl,dT⟩,⟨rfl,rfl,rfl,dT⟩,rfl,(by trivial)⟩),fun E q_0=>iL (fun h3=>⟨(by omega),dT,fun h4=>iB (fun h5=>(absurd (Iu (kW hp) (aV.1 h1) (by omega)) (fA h5))) (fun h5=>⟨(by have:=(Iv (kW hp) (aV.1 h1)).1;omega),(by exact⟨rfl,by rw[fB];have:=(Iv (kW hp) (aV.1 h1)).2;simp only[hz];omega⟩),fun h6 h7=>⟨(by simp only[aF,aI]at*;omega),(⟨E+1,by omega,by omega,⟨by omega,dT⟩,⟨rfl,(A5 _ _ _ _).symm,rfl,dT⟩,(A5 _ _ _ _).symm,(by trivial)⟩)⟩⟩)⟩) (fun h3=>(by exact⟨dT,rfl,by rw[wM (aV.1 h1),show E=gE (bB (aO f) s).1 by omega];rfl⟩))⟩)⟩
def Tryz.acj:bY Tryz.prog Tryz.B.eT Tryz.X 36 false (aW Tryz.bK [.obj 0,.d .str] (fun _ x=>x.2.1.1.length<=6) Tryz.Ek):=
 aZ (X:=Tryz.X) Tryz.Xp Tryz.func36 (by kernel_rfl) (fun(a:CD [.obj 0,.d .str]) (x:PD Tryz.bK)=>Tryz.QU a.1 x) (fun(a:CD [.obj 0,.d .str]) (x:PD Tryz.bK) hw hp=>aci a.1 x hw hp)
def Tryz.Ns:List (FuncId×(Bool×aX)):=[(70,Tryz.spZ27)]
def Tryz.TI:bL Tryz.prog Tryz.B Tryz.X Tryz.Ns:=
 aM (Tryz.yA) (bJ Tryz.bI)
def Tryz.Nt(e:D aB)(f:cY):cU:=[
 (0,fun st=>{X:=Nat,inv:=fun i=>i<=gE e.2.1/\∀j,j<i->gQ (aO f) (nth aG e.2.1 j)=true,bF:=fun i=>gE e.2.1-i,aY:=fun i=>[(13,sI i)],keep:=[1,2,11,12]})]
def Tryz.Bv:List (Alt Tryz.bK [.d aB,.obj 0]):=[{bS:=Tryz.bK,res:=[.d .bool],out:=fun _ x=>x,ret:=fun a x=>(eG (aO x) a.1,())}]
def aas(e:D aB)(f:cY)(hw:fM [.d aB,.obj 0] (e,())):(cO Tryz.B Tryz.Ns Tryz.f40 (Tryz.Nt e f) Tryz.bK [.d aB,.obj 0] Tryz.Bv (e,()) f).holds:=by
 refine holds_of (p:=
  let za:=e.2.1
  let zb:=gE za
  let zc:=aO f
  let zd:=fun(E:Nat)=>(aO f (nth aG za E).1).2
  let ze:=(eG zc e,())
  let zf:=True/\f=f/\(false,())=ze
  zb<=aI->(∃(x:Nat),(x<=zb/\∀(j:Nat),j<x->gQ zc (nth aG za j)=true)/\(0=(↑x:Int)/\True)/\True)/\∀E:Nat,(E<=zb/\∀(j:Nat),j<E->gQ zc (nth aG za j)=true)->((decide ((↑E:Int)<(↑zb:Int)))=true->(0<=(↑E:Int)/\(↑E:Int)<(↑zb:Int))/\True/\(True->((!aS.isNil (aL (zd E).2))=true->zf)/\((!aS.isNil (aL (zd E).2))=false->(((zd E).1 != (nth aG za E).2.1)=true->zf)/\(((zd E).1 != (nth aG za E).2.1)=false->aF (↑E:Int)->aF 1->aF ((↑E:Int)+1)/\∃(x':Nat),(x'<=zb/\∀(j:Nat),j<x'->gQ zc (nth aG za j)=true)/\zb-x'<zb-E/\((↑E:Int)+1=(↑x':Int)/\True)/\(e.1=e.1/\za=za/\e.2.2.1=e.2.2.1/\True)/\(C.gA 1=C.gA 1/\f.1.1=f.1.1/\True)/\f.2.1=f.2.1/\True))))/\((decide ((↑E:Int)<(↑zb:Int)))=false->zb<=aI->True/\f=f/\(decide ((↑zb:Int) > 0),())=ze)) (by kernel_rfl) ?_
 dsimp -iota -proj -eta only;exact fun h0=>⟨(⟨0,⟨hF _,fun j hj=>absurd hj (hQ _)⟩,⟨rfl,dT⟩,dT⟩),fun E q_0=>iL (fun h1=>⟨(by omega),dT,fun h2=>iB (fun h3=>⟨dT,rfl,by rw[yf (i:=E) (by omega) (Vy h3)]⟩) (fun h3=>iN (fun h4=>⟨dT,rfl,by rw[yf (i:=E) (by omega) (FI h4)]⟩) (fun h4 h5 h6=>⟨(by simp only[aF,aI]at*;omega),(⟨E+1,⟨by omega,jD q_0.2 (Sv ‹_› ‹_›)⟩,by omega,⟨by omega,dT⟩,(by trivial)⟩)⟩))⟩) (fun h1 h2=>(by exact⟨dT,rfl,by rw[A6 fun i hi=>q_0.2 i (by omega)];simp⟩))⟩
def Tryz.Nu:bY Tryz.prog Tryz.B.eT Tryz.X 40 false (aW Tryz.bK [.d aB,.obj 0] (fun _ _=>True) Tryz.Bv):=
 aZ (X:=Tryz.X) Tryz.TI Tryz.func40 (by kernel_rfl) (fun(a:CD [.d aB,.obj 0]) (x:PD Tryz.bK)=>Tryz.Nt a.1 x) (fun(a:CD [.d aB,.obj 0]) (x:PD Tryz.bK) hw hp=>aas a.1 x hw)
def Tryz.spZ34:Bool×aX:=(false,aW Tryz.bK [.d aB,.obj 0] (fun _ _=>True) Tryz.Bv)
def Tryz.Xq:List (FuncId×(Bool×aX)):=[(40,Tryz.spZ34),(70,Tryz.spZ27),(74,Tryz.spZ28),(75,Tryz.spZ33)]
def Tryz.aat:bL Tryz.prog Tryz.B Tryz.X Tryz.Xq:=
 aM (Tryz.Nu) (aM (Tryz.yA) (aM (aE Tryz.Jh) (aM (aE Tryz.Xm) (bJ Tryz.bI))))
def Tryz.Xr(e:D aB)(f:cY):cU:=[
 (0,fun st=>{X:=Nat,inv:=fun i=>i<=gE e.2.1/\∀j,j<i->(cF (aO f (nth aG e.2.1 j).1).1).2=0,bF:=fun i=>gE e.2.1-i,aY:=fun i=>[(23,sI i),(6,.s (.one (.app .str (hZ (hx i e.2.1)) (aT st 6)))),(7,.s (.one (.app (.int .i64) (ia (hx i e.2.1)) (aT st 7)))),(8,.s (.one (.app aA (gZ (aO f) (hx i e.2.1)) (aT st 8))))],aH:=fun i=>[(aT st 6,.tok .str (hZ (hx i e.2.1))),(aT st 7,.tok (.int .i64) (ia (hx i e.2.1))),(aT st 8,.tok aA (gZ (aO f) (hx i e.2.1)))],keep:=[1,2,21,22],eA:=[aT st 6,aT st 7,aT st 8]}),
 (300015,fun st=>{X:=Nat,inv:=fun i=>i=(bG (.int .i64) st 23).toNat+1,bF:=fun _=>0,aY:=fun i=>[(6,.s (.one (.app .str (hZ (hx i e.2.1)) (aT st 6)))),(7,.s (.one (.app (.int .i64) (ia (hx i e.2.1)) (aT st 7)))),(8,.s (.one (.app aA (gZ (aO f) (hx i e.2.1)) (aT st 8))))],aH:=fun i=>[(aT st 6,.tok .str (hZ (hx i e.2.1))),(aT st 7,.tok (.int .i64) (ia (hx i e.2.1))),(aT st 8,.tok aA (gZ (aO f) (hx i e.2.1)))],keep:=[1,2,4,5,10,11,13,14,21,22,23,24,25,26,27,28,29,30,31,32,33,34,35,36,37,38,39,40,41,42,43,44,45],eA:=[aT st 6,aT st 7,aT st 8]})]
def Tryz.He:List (Alt Tryz.bK [.d aB,.obj 0]):=[{bS:=Tryz.bK,res:=[.d (.slice cE),.d .err],out:=fun _ x=>x,ret:=fun a x=>((ll (aO x) a.1).1,aL (ll (aO x) a.1).2,())}]
def adB(e:D aB)(f:cY)(hw:fM [.d aB,.obj 0] (e,()))(hp:(fun a x=>a.1.2.1.length<=1000/\x.2.1.1.length<=6) (e,()) f):(cO Tryz.B Tryz.Xq Tryz.f38 (Tryz.Xr e f) Tryz.bK [.d aB,.obj 0] Tryz.He (e,()) f).holds:=by
 refine holds_of (p:=
  let za:=aO f
  let zb:=f=f
  let zc:=((ll za e).1,aL (ll za e).2,())
  let zd:=e.2.1
  let ze:=gE zd
  let zf:=fun(E:Nat)=>(nth aG zd E).1
  let zg:=fun(E:Nat)=>aL (aO f (zf E)).2.2
  let zh:=fun(E:Nat)=>aL (cF (aO f (zf E)).1).2
  let zi:=fun(E:Nat)=>hZ (hx E zd)
  let zj:=fun(E:Nat)=>zi E=zi E/\gE (zi E)+gE [zf E]<=1000000000
  let zk:=fun(E:Nat)=>ia (hx E zd)
  let zl:=fun(E:Nat)=>(nth aG zd E).2.2.1
  let zm:=fun(E:Nat)=>gZ za (hx E zd)
  let zn:=fun(E:Nat)=>(cF (aO f (zf E)).1).1
  let zo:=C.gA 1=C.gA 1/\f.1.1=f.1.1/\True
  let zp:=f.2.1=f.2.1
  let zq:=e.2.2.1
  let zr:=@hq (List UInt8×Int×List Int×Unit)=@hq (List UInt8×Int×List Int×Unit)/\(e.1=e.1/\zd=zd/\zq=zq/\True)/\True
  let zs:=fun(E:Nat)=>(zk E=zk E/\gE (zk E)+gE [zl E]<=1000000000)/\(zm E=zm E/\gE (zm E)+gE [zn E]<=1000000000)/\∃(x':Nat),x'=E+1/\(zi E++[zf E]=hZ (hx x' zd)/\zk E++[zl E]=ia (hx x' zd)/\zm E++[zn E]=gZ za (hx x' zd)/\True)/\zi E++[zf E]=hZ (hx x' zd)/\zk E++[zl E]=ia (hx x' zd)/\zm E++[zn E]=gZ za (hx x' zd)/\((zn E).1=(zn E).1/\(zn E).2.1=(zn E).2.1/\(zn E).2.2.1=(zn E).2.2.1/\(zn E).2.2.2.1=(zn E).2.2.2.1/\True)/\@hq (Int×Int×Int×List UInt8×Bool×Unit)=@hq (Int×Int×Int×List UInt8×Bool×Unit)/\@hq (List UInt8×Int×Bool×Unit)=@hq (List UInt8×Int×Bool×Unit)/\@hq Int=@hq Int/\@hq (List UInt8)=@hq (List UInt8)/\zo/\zp/\(zf E=zf E/\(nth aG zd E).2.1=(nth aG zd E).2.1/\zl E=zl E/\True)/\zr
  let zt:=fun(E:Nat)=>zj E/\(fun a0:Prop=>a0/\a0/\a0) (zs E)/\(fun a0:Prop=>a0/\a0) (zs E)/\zs E
  let zu:=fun(E:Nat)=>zj E/\zs E
  let zv:=fun(E:Nat)=>(zj E/\(fun a0:Prop=>a0/\a0/\a0) (zs E))/\(zj E/\(fun a0:Prop=>a0/\a0) (zs E))/\zu E
  let zw:=fun(E:Nat)=>zj E/\(fun a0:Prop=>a0/\a0) (zs E)/\zs E
  let zx:=fun(E:Nat)=>(zj E/\(fun a0:Prop=>a0/\a0) (zs E))/\zu E
  let zy:=fun(E:Nat)=>(fun a0 a1 a2 a3 a4:Prop=>a0/\a1/\a2/\a3/\a4/\a4) (zt E) (zv E) (zw E) (zx E) (zu E)
  let zz:=fun(E:Nat)=>(fun a0 a1 a2:Prop=>a0/\a1/\a2/\a2) (zw E) (zx E) (zu E)
  let zaa:=fun(E:Nat)=>lk (zi E) (zk E) (zm E) zq
  True/\(True->((!eG za e)=true->True/\zb/\([],aS.no 10,())=zc)/\((!eG za e)=false->ze<=aI->(∃(x:Nat),(x<=ze/\∀(j:Nat),j<x->(cF (aO f (nth aG zd j).1).1).2=0)/\(0=(↑x:Int)/\@hq (List UInt8)=hZ (hx x zd)/\@hq Int=ia (hx x zd)/\@hq (List (List UInt8)×List Int×List (List UInt8×Int×Bool×Unit)×List (Int×Int×Int×List UInt8×Bool×Unit)×Unit)=gZ za (hx x zd)/\True)/\@hq (List UInt8)=hZ (hx x zd)/\@hq Int=ia (hx x zd)/\@hq (List (List UInt8)×List Int×List (List UInt8×Int×Bool×Unit)×List (Int×Int×Int×List UInt8×Bool×Unit)×Unit)=gZ za (hx x zd)/\True)/\∀E:Nat,(E<=ze/\∀(j:Nat),j<E->(cF (aO f (nth aG zd j).1).1).2=0)->((decide ((↑E:Int)<(↑ze:Int)))=true->(0<=(↑E:Int)/\(↑E:Int)<(↑ze:Int))/\True/\(True->((!aS.isNil (zg E))=true->True/\zb/\([],zg E,())=zc)/\((!aS.isNil (zg E))=false->True/\((!aS.isNil (zh E))=true->True/\zb/\([],zh E,())=zc)/\((!aS.isNil (zh E))=false->((fun a0 a1 a2 a3 a4:Prop=>a0/\a1/\a2/\a3/\a4/\a4/\a4) (zt E) (zy E) (zw E) (zz E) (zu E)/\(zy E/\(zv E/\zx E/\zu E)/\zz E/\(zx E/\zu E)/\(fun a0:Prop=>a0/\a0) (zu E)/\zu E)/\(fun a0 a1 a2:Prop=>a0/\a1/\a2/\a2/\a2) (zw E) (zz E) (zu E)/\(zz E/\(zx E/\zu E)/\(fun a0:Prop=>a0/\a0) (zu E)/\zu E)/\(fun a0:Prop=>a0/\a0/\a0) (zu E)/\(fun a0:Prop=>a0/\a0) (zu E)/\zu E)/\∀F:Nat,F=E+1->aF (↑E:Int)->aF 1->aF ((↑E:Int)+1)/\∃(x':Nat),(x'<=ze/\∀(j:Nat),j<x'->(cF (aO f (nth aG zd j).1).1).2=0)/\ze-x'<ze-E/\((↑E:Int)+1=(↑x':Int)/\zi F=hZ (hx x' zd)/\zk F=ia (hx x' zd)/\zm F=gZ za (hx x' zd)/\True)/\zi F=hZ (hx x' zd)/\zk F=ia (hx x' zd)/\zm F=gZ za (hx x' zd)/\zo/\zp/\zr))))/\((decide ((↑E:Int)<(↑ze:Int)))=false->(gE (zm E)<=1000/\∀(i:Nat),i<gE (zm E)->gE (nth aA (zm E) i).2.1<=1000)/\True/\zb/\((zaa E).1,(zaa E).2,())=zc)))) (by kernel_rfl) ?_
 dsimp -iota -proj -eta only;dsimp only at hp;refine⟨dT,fun h0=>iB (fun h1=>(by exact⟨dT,rfl,by rw[Vr h1];rfl⟩)) (fun h1 h2=>⟨(⟨0,⟨hF _,fun j hj=>absurd hj (hQ _)⟩,⟨rfl,rfl,rfl,rfl,dT⟩,(by trivial)⟩),fun E q_0=>iL (fun h3=>⟨(by omega),dT,fun h4=>iB (fun h5=>(absurd ((Ir h1).2 E (by omega)).1 (fA h5))) (fun h5=>⟨dT,iB (fun h6=>⟨dT,rfl,by rw[abw h1 (LS q_0.2 (by omega) (fA h6)) (fA h6)]⟩) (fun h6=>⟨⟨(show ∀{a0 a1 a2 a3 a4:Prop},a0->a1->a2->a3->a4->a0/\a1/\a2/\a3/\a4/\a4/\a4 from fun g0 g1 g2 g3 g4=>⟨g0,g1,g2,g3,g4,g4,g4⟩) (⟨?a,⟨(show ∀{a0:Prop},a0->a0/\a0/\a0 from fun g0=>⟨g0,g0,g0⟩) (⟨?b,?c,?d⟩),(show ∀{a0:Prop},a0->a0/\a0 from fun g0=>⟨g0,g0⟩) (⟨?e,?f,?g⟩),⟨?h,?i,?j⟩⟩⟩) ((show ∀{a0 a1 a2 a3 a4:Prop},a0->a1->a2->a3->a4->a0/\a1/\a2/\a3/\a4/\a4 from fun g0 g1 g2 g3 g4=>⟨g0,g1,g2,g3,g4,g4⟩) (⟨?k,⟨(show ∀{a0:Prop},a0->a0/\a0/\a0 from fun g0=>⟨g0,g0,g0⟩) (⟨?l,?m,?n⟩),(show ∀{a0:Prop},a0->a0/\a0 from fun g0=>⟨g0,g0⟩) (⟨?o,?p,?q⟩),⟨?r,?s,?t⟩⟩⟩) (⟨⟨?u,(show ∀{a0:Prop},a0->a0/\a0/\a0 from fun g0=>⟨g0,g0,g0⟩) (⟨?v,?w,?x⟩)⟩,⟨?y,(show ∀{a0:Prop},a0->a0/\a0 from fun g0=>⟨g0,g0⟩) (⟨?z,?a0,?a1⟩)⟩,⟨?a2,?a3,?a4,?a5⟩⟩) (⟨?a6,⟨(show ∀{a0:Prop},a0->a0/\a0 from fun g0=>⟨g0,g0⟩) (⟨?a7,?a8,?a9⟩),⟨?aa,?ab,?ac⟩⟩⟩) (⟨⟨?ad,(show ∀{a0:Prop},a0->a0/\a0 from fun g0=>⟨g0,g0⟩) (⟨?ae,?af,?ag⟩)⟩,⟨?ah,?ai,?aj,?ak⟩⟩) (⟨?al,?am,?an,?ao⟩)) (⟨?ap,⟨(show ∀{a0:Prop},a0->a0/\a0 from fun g0=>⟨g0,g0⟩) (⟨?aq,?ar,?au⟩),⟨?av,?aw,?ax⟩⟩⟩) ((show ∀{a0 a1 a2:Prop},a0->a1->a2->a0/\a1/\a2/\a2 from fun g0 g1 g2=>⟨g0,g1,g2,g2⟩) (⟨?ay,⟨(show ∀{a0:Prop},a0->a0/\a0 from fun g0=>⟨g0,g0⟩) (⟨?az,?b0,?b1⟩),⟨?b2,?b3,?b4⟩⟩⟩) (⟨⟨?b5,(show ∀{a0:Prop},a0->a0/\a0 from fun g0=>⟨g0,g0⟩) (⟨?b6,?b7,?b8⟩)⟩,⟨?b9,?ba,?bb,?bc⟩⟩) (⟨?bd,?be,?bf,?bg⟩)) (⟨?bh,?bi,?bj,?bk⟩),⟨(show ∀{a0 a1 a2 a3 a4:Prop},a0->a1->a2->a3->a4->a0/\a1/\a2/\a3/\a4/\a4 from fun g0 g1 g2 g3 g4=>⟨g0,g1,g2,g3,g4,g4⟩) (⟨?bl,⟨(show ∀{a0:Prop},a0->a0/\a0/\a0 from fun g0=>⟨g0,g0,g0⟩) (⟨?bm,?bn,?bo⟩),(show ∀{a0:Prop},a0->a0/\a0 from fun g0=>⟨g0,g0⟩) (⟨?bp,?bq,?br⟩),⟨?bs,?bt,?bu⟩⟩⟩) (⟨⟨?bv,(show ∀{a0:Prop},a0->a0/\a0/\a0 from fun g0=>⟨g0,g0,g0⟩) (⟨?bw,?bx,?bz⟩)⟩,⟨?c0,(show ∀{a0:Prop},a0->a0/\a0 from fun g0=>⟨g0,g0⟩) (⟨?c1,?c2,?c3⟩)⟩,⟨?c4,?c5,?c6,?c7⟩⟩) (⟨?c8,⟨(show ∀{a0:Prop},a0->a0/\a0 from fun g0=>⟨g0,g0⟩) (⟨?c9,?ca,?cb⟩),⟨?cc,?cd,?ce⟩⟩⟩) (⟨⟨?cf,(show ∀{a0:Prop},a0->a0/\a0 from fun g0=>⟨g0,g0⟩) (⟨?cg,?ch,?ci⟩)⟩,⟨?cj,?ck,?cl,?cm⟩⟩) (⟨?cn,?co,?cp,?cq⟩),⟨⟨⟨?cr,(show ∀{a0:Prop},a0->a0/\a0/\a0 from fun g0=>⟨g0,g0,g0⟩) (⟨?cs,?ct,?cu⟩)⟩,⟨?cv,(show ∀{a0:Prop},a0->a0/\a0 from fun g0=>⟨g0,g0⟩) (⟨?cw,?cx,?cy⟩)⟩,⟨?cz,?d0,?d1,?d2⟩⟩,⟨⟨?d3,(show ∀{a0:Prop},a0->a0/\a0 from fun g0=>⟨g0,g0⟩) (⟨?d4,?d5,?d6⟩)⟩,⟨?d7,?d8,?d9,?da⟩⟩,⟨?db,?dc,?dd,?de⟩⟩,(show ∀{a0 a1 a2:Prop},a0->a1->a2->a0/\a1/\a2/\a2 from fun g0 g1 g2=>⟨g0,g1,g2,g2⟩) (⟨?df,⟨(show ∀{a0:Prop},a0->a0/\a0 from fun g0=>⟨g0,g0⟩) (⟨?dg,?dh,?di⟩),⟨?dj,?dk,?dl⟩⟩⟩) (⟨⟨?dm,(show ∀{a0:Prop},a0->a0/\a0 from fun g0=>⟨g0,g0⟩) (⟨?dn,?dp,?dq⟩)⟩,⟨?dr,?ds,?dt,?du⟩⟩) (⟨?dv,?dw,?dx,?dy⟩),⟨⟨⟨?dz,(show ∀{a0:Prop},a0->a0/\a0 from fun g0=>⟨g0,g0⟩) (⟨?e0,?e1,?e2⟩)⟩,⟨?e3,?e4,?e5,?e6⟩⟩,⟨?e7,?e8,?e9,?ea⟩⟩,(show ∀{a0:Prop},a0->a0/\a0 from fun g0=>⟨g0,g0⟩) (⟨?eb,?ec,?ed,?ee⟩),⟨?ef,?eg,?eh,?ei⟩⟩,(show ∀{a0 a1 a2:Prop},a0->a1->a2->a0/\a1/\a2/\a2/\a2 from fun g0 g1 g2=>⟨g0,g1,g2,g2,g2⟩) (⟨?ej,⟨(show ∀{a0:Prop},a0->a0/\a0 from fun g0=>⟨g0,g0⟩) (⟨?ek,?el,?em⟩),⟨?en,?eo,?ep⟩⟩⟩) ((show ∀{a0 a1 a2:Prop},a0->a1->a2->a0/\a1/\a2/\a2 from fun g0 g1 g2=>⟨g0,g1,g2,g2⟩) (⟨?eq,⟨(show ∀{a0:Prop},a0->a0/\a0 from fun g0=>⟨g0,g0⟩) (⟨?er,?es,?et⟩),⟨?eu,?ev,?ew⟩⟩⟩) (⟨⟨?ex,(show ∀{a0:Prop},a0->a0/\a0 from fun g0=>⟨g0,g0⟩) (⟨?ey,?ez,?f0⟩)⟩,⟨?f1,?f2,?f3,?f4⟩⟩) (⟨?f5,?f6,?f7,?f8⟩)) (⟨?f9,?fa,?fb,?fc⟩),⟨(show ∀{a0 a1 a2:Prop},a0->a1->a2->a0/\a1/\a2/\a2 from fun g0 g1 g2=>⟨g0,g1,g2,g2⟩) (⟨?fd,⟨(show ∀{a0:Prop},a0->a0/\a0 from fun g0=>⟨g0,g0⟩) (⟨?fe,?ff,?fg⟩),⟨?fh,?fi,?fj⟩⟩⟩) (⟨⟨?fk,(show ∀{a0:Prop},a0->a0/\a0 from fun g0=>⟨g0,g0⟩) (⟨?fl,?fm,?fn⟩)⟩,⟨?fo,?fp,?fq,?fr⟩⟩) (⟨?fs,?ft,?fu,?fv⟩),⟨⟨⟨?fw,(show ∀{a0:Prop},a0->a0/\a0 from fun g0=>⟨g0,g0⟩) (⟨?fx,?fy,?fz⟩)⟩,⟨?g0,?g1,?g2,?g3⟩⟩,⟨?g4,?g5,?g6,?g7⟩⟩,(show ∀{a0:Prop},a0->a0/\a0 from fun g0=>⟨g0,g0⟩) (⟨?g8,?g9,?ga,?gb⟩),⟨?gc,?gd,?ge,?gf⟩⟩,(show ∀{a0:Prop},a0->a0/\a0/\a0 from fun g0=>⟨g0,g0,g0⟩) (⟨?gg,?gh,?gi,?gj⟩),(show ∀{a0:Prop},a0->a0/\a0 from fun g0=>⟨g0,g0⟩) (⟨?gk,?gl,?gm,?gn⟩),⟨?go,?gp,?gq,?gr⟩⟩,fun F q_1 h7 h8=>⟨(by simp only[aF,aI]at*;omega),?gs⟩⟩)⟩)⟩) (fun h3=>⟨(by rw[mL (by omega)];exact Vx hp.1 fun j hj=>q_0.2 j (by omega)),(by rw[mL (by omega)];exact⟨dT,rfl,Zg h1 (yg fun j hj=>q_0.2 j (by omega))⟩)⟩)⟩)⟩
 case a|b|c|e|f|h|i|k|l|m|o|p|r|s|u|v|w|y|z|a0|a2|a3|a4|a6|a7|a8|aa|ab|ad|ae|af|ah|ai|aj|al|am|an|ap|aq|ar|av|aw|ay|az|b0|b2|b3|b5|b6|b7|b9|ba|bb|bd|be|bf|bh|bi|bj|bl|bm|bn|bp|bq|bs|bt|bv|bw|bx|c0|c1|c2|c4|c5|c6|c8|c9|ca|cc|cd|cf|cg|ch|cj|ck|cl|cn|co|cp|cr|cs|ct|cv|cw|cx|cz|d0|d1|d3|d4|d5|d7|d8|d9|db|dc|dd|df|dg|dh|dj|dk|dm|dn|dp|dr|ds|dt|dv|dw|dx|dz|e0|e1|e3|e4|e5|e7|e8|e9|eb|ec|ed|ef|eg|eh|ej|ek|el|en|eo|eq|er|es|eu|ev|ex|ey|ez|f1|f2|f3|f5|f6|f7|f9|fa|fb|fd|fe|ff|fh|fi|fk|fl|fm|fo|fp|fq|fs|ft|fu|fw|fx|fy|g0|g1|g2|g4|g5|g6|g8|g9|ga|gc|gd|ge|gg|gh|gi|gk|gl|gm|go|gp|gq=>exact⟨rfl,by simp only[hZ,ia,gZ,hV,hM,hz];have:=hp.1;omega⟩
 case d|g|j|n|q|t|x|a1|a5|a9|ac|ag|ak|ao|au|ax|b1|b4|b8|bc|bg|bk|bo|br|bu|bz|c3|c7|cb|ce|ci|cm|cq|cu|cy|d2|d6|da|de|di|dl|dq|du|dy|e2|e6|ea|ee|ei|em|ep|et|ew|f0|f4|f8|fc|fg|fj|fn|fr|fv|fz|g3|g7|gb|gf|gj|gn|gr=>exact⟨E+1,rfl,⟨CQ (by omega),CS (by omega),FH (by omega),dT⟩,CQ (by omega),CS (by omega),FH (by omega),(by trivial)⟩
 case gs=>
  subst q_1;exact⟨E+1,⟨by omega,jD q_0.2 (aV.1 ‹_›)⟩,by omega,⟨by omega,rfl,rfl,rfl,dT⟩,rfl,rfl,rfl,(by trivial)⟩
def Tryz.adC:bY Tryz.prog Tryz.B.eT Tryz.X 38 false (aW Tryz.bK [.d aB,.obj 0] (fun a x=>a.1.2.1.length<=1000/\x.2.1.1.length<=6) Tryz.He):=
 aZ (X:=Tryz.X) Tryz.aat Tryz.func38 (by kernel_rfl) (fun(a:CD [.d aB,.obj 0]) (x:PD Tryz.bK)=>Tryz.Xr a.1 x) (fun(a:CD [.d aB,.obj 0]) (x:PD Tryz.bK) hw hp=>adB a.1 x hw hp)
@[reducible] def Tryz.dB:List Ob:=[.box 109 [.obj 1,.obj 3],.box 107 [.obj 2,.d (.int .i64)],.ext 1 (kz dI),.box 169 [.obj 4,.d (.int .i64),.d (.slice aB)],.box 164 [.obj 5,.obj 6,.obj 7,.d (.int .i64),.d .bool],.row true .str,.row true .str,.tok kJ]
@[reducible] def Tryz.vk:List Ob:=[.box 107 [.obj 1,.d (.int .i64)],.ext 1 (kz dI),.box 164 [.obj 3,.obj 4,.obj 5,.d (.int .i64),.d .bool],.row true .str,.row true .str,.tok kJ]
def Tryz.QV:List (FuncId×(Bool×aX)):=[(48,Tryz.spZ23)]
def Tryz.Xs:bL Tryz.prog Tryz.B Tryz.X Tryz.QV:=
 aM (Tryz.QH) (bJ Tryz.bI)
def Tryz.El:List (Alt Tryz.vk [.obj 0,.obj 2]):=[
 {bS:=Tryz.vk,res:=[.iX,.d .err],ok:=fun _ x=>(dP x.2.2).2≠0,out:=fun _ x=>x,ret:=fun _ x=>(aL (dP x.2.2).2,())},
 {bS:=Tryz.vk++[.box 109 [.obj 0,.obj 7],.box 169 [.obj 2,.d (.int .i64),.d (.slice aB)]],res:=[.obj 6,.d .err],ok:=fun _ x=>(dP x.2.2).2=0,out:=fun _ x=>(x.1,x.2.1,x.2.2.1,x.2.2.2.1,x.2.2.2.2.1,x.2.2.2.2.2.1,(),((dP x.2.2).1.1,(dP x.2.2).1.2,()),()),ret:=fun _ _=>(aS.nil,())}]
def ack(n:Int×Unit)(m:List FE×Int×Unit)(d:Dk)(hw:fM [.obj 0,.obj 2] ())(hp:(fun _ x=>dN x.2.2 1000000/\∀i,i<x.2.2.2.2.1.length->(nth .str x.2.2.2.2.1 i).length=64) () (n,m,d)):(cO Tryz.B Tryz.QV Tryz.f10 [] Tryz.vk [.obj 0,.obj 2] Tryz.El () (n,m,d)).holds:=by
 refine holds_of (p:=
  let za:=d.2.2.2.1
  let zb:=za=za
  let zc:=d.2.2.1
  let zd:=(dP d).2
  let ze:=zd≠0
  let zf:=(n,m,d)=(n,m,d)
  let zg:=(aL zd,())
  let zh:=(n,m,d.1,d.2.1,zc,za,(),((dP d).1.1,(dP d).1.2,()),())
  zb/\(dN d 1000000/\∀(i:Nat),i<gE zc->gE (nth Ty.str zc i)=64)/\(ze->((!aS.isNil (aL zd))=true->zb/\ze/\zf/\zg=zg)/\((!aS.isNil (aL zd))=false->False))/\(zd=0->((!aS.isNil aS.nil)=true->zb/\ze/\zf/\(aS.nil,())=zg)/\((!aS.isNil aS.nil)=false->zb/\zd=0/\zh=zh/\(aS.nil,())=(aS.nil,())))) (by kernel_rfl) ?_
 dsimp -iota -proj -eta only;dsimp only at hp;refine⟨rfl,?a,⟨fun h0=>iB (fun h1 =>?b) (fun h1=>(absurd (aV.1 h1) h0)),fun h0=>⟨fun h1=>absurd (show false=true from h1) (by decide),fun h1 =>?c⟩⟩⟩
 case a|b|c=>trivial
def Tryz.QW:bY Tryz.prog Tryz.B.eT Tryz.X 10 false (aW Tryz.vk [.obj 0,.obj 2] (fun _ x=>dN x.2.2 1000000/\∀i,i<x.2.2.2.2.1.length->(nth .str x.2.2.2.2.1 i).length=64) Tryz.El):=
 aZ (X:=Tryz.X) Tryz.Xs Tryz.func10 (by kernel_rfl) (fun(a:CD [.obj 0,.obj 2]) (x:PD Tryz.vk)=>[]) (fun(a:CD [.obj 0,.obj 2]) (x:PD Tryz.vk) hw hp=>ack x.1 x.2.1 x.2.2 hw hp)
def Tryz.Jq:List (FuncId×(Bool×aX)):=[(36,(false,aW Tryz.bK [.obj 0,.d .str] (fun _ x=>x.2.1.1.length<=6) Tryz.Ek)),(52,(false,aW Tryz.cH [.obj 0,.d aB] (fun a x=>(a.1.2.1.length<=1000000/\a.1.2.2.1.length<=1000000)/\x.1.2.1.length<=99/\0<=(x.1.1:Int)/\(x.1.1:Int)<=1000000000/\dN x.2 1000000) Tryz.G5))]
def Tryz.Pm:bL Tryz.prog Tryz.B Tryz.X Tryz.Jq:=
 aM (Tryz.acj) (aM (Tryz.ZX) (bJ Tryz.bI))
def Tryz.yE:List (Alt Tryz.dB [.obj 0,.d .str]):=[{bS:=Tryz.dB,res:=[.d .err],out:=fun a x=>((),x.2.1,x.2.2.1,(jC (x.2.1,x.2.2.1,()) x.2.2.2 a.1).1),ret:=fun a x=>(aL (jC (x.2.1,x.2.2.1,()) x.2.2.2 a.1).2,())}]
def Xt(s:List UInt8)(n:Int×Unit)(m:List FE×Int×Unit)(r:Int)(o:List (D aB))(d:Dk)(hw:fM [.obj 0,.d .str] (s,()))(hp:(fun _ x=>ig (x.2.1,x.2.2.1,())/\vU x.2.2.2) (s,()) ((),n,m,(r,o,()),d)):(cO Tryz.B Tryz.Jq Tryz.f16 [] Tryz.dB [.obj 0,.d .str] Tryz.yE (s,()) ((),n,m,(r,o,()),d)).holds:=by
 refine holds_of (p:=
  let za:=cJ (aO (n,m,())) s
  let zb:=d.2.2.2.1=d.2.2.2.1
  let zc:=((r,o,()),d)
  let zd:=jC (n,m,()) zc s
  let ze:=((),n,m,zd.1)
  let zf:=(aL zd.2,())
  let zg:=mT zc za.1
  let zh:=zg.1.2.2.2.2.1
  gE m.1<=6/\(True->((!aS.isNil (aL za.2))=true->zb/\True/\((),n,m,zc)=ze/\(aL za.2,())=zf)/\((!aS.isNil (aL za.2))=false->zb/\((gE za.1.2.1<=1000000/\gE za.1.2.2.1<=1000000)/\gE o<=99/\0<=r/\r<=1000000000/\dN d 1000000)/\(True->zh=zh/\True/\((),n,m,zg.1)=ze/\(aL zg.2,())=zf)))) (by kernel_rfl) ?_
 dsimp -iota -proj -eta only;dsimp only at hp;exact⟨hp.1.st.pre.1,fun h0=>iB (fun h1=>(by rw[Wk (fA h1)];exact⟨rfl,dT,rfl,rfl⟩)) (fun h1=>⟨rfl,⟨S7 hp.1 (aV.1 h1),hp.2⟩,fun h2=>(by rw[S6 (aV.1 h1)];exact⟨rfl,dT,rfl,rfl⟩)⟩)⟩
def Tryz.Jr:bY Tryz.prog Tryz.B.eT Tryz.X 16 false (aW Tryz.dB [.obj 0,.d .str] (fun _ x=>ig (x.2.1,x.2.2.1,())/\vU x.2.2.2) Tryz.yE):=
 aZ (X:=Tryz.X) Tryz.Pm Tryz.func16 (by kernel_rfl) (fun(a:CD [.obj 0,.d .str]) (x:PD Tryz.dB)=>[]) (fun(a:CD [.obj 0,.d .str]) (x:PD Tryz.dB) hw hp=>Xt a.1 x.2.1 x.2.2.1 x.2.2.2.1.1 x.2.2.2.1.2.1 x.2.2.2.2 hw hp)
def Tryz.Nv:List (FuncId×(Bool×aX)):=[(54,(false,aW Tryz.cH [.obj 0,.d .str] (fun _ x=>x.1.2.1.length<=100/\0<=(x.1.1:Int)/\(x.1.1:Int)<=1000000000/\dN x.2 1000000) Tryz.Eh))]
def Tryz.TJ:bL Tryz.prog Tryz.B Tryz.X Tryz.Nv:=
 aM (Tryz.ab7) (bJ Tryz.bI)
def Tryz.Bw:List (Alt Tryz.dB [.obj 0,.d .str]):=[{bS:=Tryz.dB,res:=[.d .err],out:=fun a x=>((),x.2.1,x.2.2.1,(ir x.2.2.2 a.1).1),ret:=fun a x=>(aL (ir x.2.2.2 a.1).2,())}]
def aau(s:List UInt8)(n:Int×Unit)(m:List FE×Int×Unit)(r:Int)(o:List (D aB))(d:Dk)(hw:fM [.obj 0,.d .str] (s,()))(hp:(fun _ x=>vU x.2.2.2) (s,()) ((),n,m,(r,o,()),d)):(cO Tryz.B Tryz.Nv Tryz.f18 [] Tryz.dB [.obj 0,.d .str] Tryz.Bw (s,()) ((),n,m,(r,o,()),d)).holds:=by
 refine holds_of (p:=
  let za:=ir ((r,o,()),d) s
  let zb:=za.1.2.2.2.2.1
  let zc:=((),n,m,za.1)
  let zd:=(aL za.2,())
  d.2.2.2.1=d.2.2.2.1/\(gE o<=100/\0<=r/\r<=1000000000/\dN d 1000000)/\(True->zb=zb/\True/\zc=zc/\zd=zd)) (by kernel_rfl) ?_
 dsimp -iota -proj -eta only;dsimp only at hp;exact⟨rfl,⟨j2 hp.1 (by decide),hp.2⟩,fun h0=>(by trivial)⟩
def Tryz.aav:bY Tryz.prog Tryz.B.eT Tryz.X 18 false (aW Tryz.dB [.obj 0,.d .str] (fun _ x=>vU x.2.2.2) Tryz.Bw):=
 aZ (X:=Tryz.X) Tryz.TJ Tryz.func18 (by kernel_rfl) (fun(a:CD [.obj 0,.d .str]) (x:PD Tryz.dB)=>[]) (fun(a:CD [.obj 0,.d .str]) (x:PD Tryz.dB) hw hp=>aau a.1 x.2.1 x.2.2.1 x.2.2.2.1.1 x.2.2.2.1.2.1 x.2.2.2.2 hw hp)
def Tryz.Nw:List (FuncId×(Bool×aX)):=[(55,(false,aW Tryz.cH [.obj 0,.d .str] (fun _ x=>∀i,i<x.1.2.1.length->(nth aB x.1.2.1 i).2.1.length<=1000000/\(nth aB x.1.2.1 i).2.2.1.length<=1000000) Tryz.G6)),(40,Tryz.spZ34),(38,(false,aW Tryz.bK [.d aB,.obj 0] (fun a x=>a.1.2.1.length<=1000/\x.2.1.1.length<=6) Tryz.He)),(56,(false,aW Tryz.bK [.obj 0,.d .str] (fun _ x=>x.2.1.1.length<=6) Tryz.Ej))]
def Tryz.TK:bL Tryz.prog Tryz.B Tryz.X Tryz.Nw:=
 aM (Tryz.ado) (aM (Tryz.Nu) (aM (Tryz.adC) (aM (Tryz.ach) (bJ Tryz.bI))))
def Tryz.Bx:List (Alt Tryz.dB [.obj 0,.d .str]):=[{bS:=Tryz.dB,res:=[.d (.slice cE),.d .bool,.d .err],out:=fun _ x=>x,ret:=fun a x=>((iC (x.2.1,x.2.2.1,()) x.2.2.2.1.2.1 a.1).1,(iC (x.2.1,x.2.2.1,()) x.2.2.2.1.2.1 a.1).2.1,aL (iC (x.2.1,x.2.2.1,()) x.2.2.2.1.2.1 a.1).2.2,())}]
def aaw(s:List UInt8)(n:Int×Unit)(m:List FE×Int×Unit)(r:Int)(o:List (D aB))(d:Dk)(hw:fM [.obj 0,.d .str] (s,()))(hp:(fun _ x=>x.2.2.1.1.length<=6/\vV x.2.2.2.1.2.1) (s,()) ((),n,m,(r,o,()),d)):(cO Tryz.B Tryz.Nw Tryz.f20 [] Tryz.dB [.obj 0,.d .str] Tryz.Bx (s,()) ((),n,m,(r,o,()),d)).holds:=by
 refine holds_of (p:=
  let za:=d.2.2.2.1=d.2.2.2.1
  let zb:=aO (n,m,())
  let zc:=(dA o s).1
  let zd:=gE m.1<=6
  let ze:=((),n,m,(r,o,()),d)
  let zf:=aL (ll zb zc).2
  let zg:=iC (n,m,()) o s
  let zh:=(zg.1,zg.2.1,aL zg.2.2,())
  let zi:=zd/\(True->za/\True/\ze=ze/\((cI zb s).1,false,aL (cI zb s).2,())=zh)
  za/\(∀(i:Nat),i<gE o->gE (nth aB o i).2.1<=1000000/\gE (nth aB o i).2.2.1<=1000000)/\(True->(((dA o s).2)=true->True/\(True->((eG zb zc)=true->(gE zc.2.1<=1000/\zd)/\(True->za/\True/\ze=ze/\((ll zb zc).1,aS.isNil zf,zf,())=zh))/\((eG zb zc)=false->zi)))/\(((dA o s).2)=false->zi))) (by kernel_rfl) ?_
 dsimp -iota -proj -eta only;dsimp only at hp;refine⟨rfl,hp.2.wide,fun h0=>⟨fun h1=>⟨dT,fun h2=>⟨fun h3=>⟨⟨Wl hp.2 h1,hp.1⟩,fun h4=>(by rw[IV h1 h3,abI];exact⟨rfl,dT,rfl,rfl⟩)⟩,fun h3=>⟨?a,fun h4=>(by rw[Bk fun z=>j4 (z.2.symm.trans h3)];exact⟨rfl,dT,rfl,rfl⟩)⟩⟩⟩,fun h1=>⟨?b,fun h2=>(by rw[Bk fun z=>j4 (z.1.symm.trans h1)];exact⟨rfl,dT,rfl,rfl⟩)⟩⟩⟩
 case a|b=>omega
def Tryz.Nx:bY Tryz.prog Tryz.B.eT Tryz.X 20 false (aW Tryz.dB [.obj 0,.d .str] (fun _ x=>x.2.2.1.1.length<=6/\vV x.2.2.2.1.2.1) Tryz.Bx):=
 aZ (X:=Tryz.X) Tryz.TK Tryz.func20 (by kernel_rfl) (fun(a:CD [.obj 0,.d .str]) (x:PD Tryz.dB)=>[]) (fun(a:CD [.obj 0,.d .str]) (x:PD Tryz.dB) hw hp=>aaw a.1 x.2.1 x.2.2.1 x.2.2.2.1.1 x.2.2.2.1.2.1 x.2.2.2.2 hw hp)
def Tryz.Js:List (FuncId×(Bool×aX)):=[(59,(false,aW Tryz.cH [.obj 0] (fun _ x=>x.1.2.1.length<=1000000) Tryz.Br))]
def Tryz.Pn:bL Tryz.prog Tryz.B Tryz.X Tryz.Js:=
 aM (Tryz.Z0) (bJ Tryz.bI)
def Tryz.yF:List (Alt Tryz.dB [.obj 0]):=[{bS:=Tryz.dB,res:=[.d (.slice .str)],out:=fun _ x=>x,ret:=fun _ x=>(dH x.2.2.2.1.2.1,())}]
def Xu(n:Int×Unit)(m:List FE×Int×Unit)(r:Int)(o:List (D aB))(d:Dk)(hw:fM [.obj 0] ())(hp:(fun _ x=>x.2.2.2.1.2.1.length<=1000000) () ((),n,m,(r,o,()),d)):(cO Tryz.B Tryz.Js Tryz.f24 [] Tryz.dB [.obj 0] Tryz.yF () ((),n,m,(r,o,()),d)).holds:=by
 refine holds_of (p:=
  let za:=d.2.2.2.1=d.2.2.2.1
  let zb:=((),n,m,(r,o,()),d)
  let zc:=(dH o,())
  za/\gE o<=1000000/\(True->za/\True/\zb=zb/\zc=zc)) (by kernel_rfl) ?_
 dsimp -iota -proj -eta only;dsimp only at hp;refine⟨rfl,?a,fun h0 =>?b⟩
 case a|b=>trivial
def Tryz.Xv:bY Tryz.prog Tryz.B.eT Tryz.X 24 false (aW Tryz.dB [.obj 0] (fun _ x=>x.2.2.2.1.2.1.length<=1000000) Tryz.yF):=
 aZ (X:=Tryz.X) Tryz.Pn Tryz.func24 (by kernel_rfl) (fun(a:CD [.obj 0]) (x:PD Tryz.dB)=>[]) (fun(a:CD [.obj 0]) (x:PD Tryz.dB) hw hp=>Xu x.2.1 x.2.2.1 x.2.2.2.1.1 x.2.2.2.1.2.1 x.2.2.2.2 hw hp)
def Tryz.TL(k:Nat):List (FuncId×(Bool×aX)):=(62,(true,bX [.int .i64] [.str] (fun x=>(fun _=>True) x/\(fun n=>mD n) x<k) (fun n=>hI n))) :: []
def TM(k:Nat)(n:Int)(hw:eD [.int .i64] n)(hp:(fun _=>True) n/\(fun n=>mD n) n<k+1):(cL Tryz.B (Tryz.TL k) Tryz.f62 [] [.int .i64] [.str] (fun x y=>y=(fun n=>hI n) x) n).holds:=by
 refine holds_of (p:=
  let za:=hI n
  let zb:=(0:Int)-n
  let zc:=[hK hW ((48:Int)+n)]
  let zd:=(10:Int)≠(0:Int)
  let ze:=fun(F:Int)=>gE [hK hW ((48:Int)+F)]<=aI
  let zf:=fun(F:Int)=>bytesOf [hK hW ((48:Int)+F)]
  let zg:=fun(E:Int) (F:Int)=>gE (hI E)+gE (zf F)<=aI/\hI E++zf F=za
  ((decide (n<(0:Int)))=true->((n == (-9223372036854775808:Int))=true->[(45:UInt8),57,50,50,51,51,55,50,48,51,54,56,53,52,55,55,53,56,48,56]=za)/\((n == (-9223372036854775808:Int))=false->aF (0:Int)->aF n->aF zb/\(True/\mD zb<k)/\gE [(45:UInt8)]+gE (hI zb)<=aI/\[(45:UInt8)]++hI zb=za))/\((decide (n<(0:Int)))=false->((decide (n<(10:Int)))=true->aF (48:Int)->aF n->aF ((48:Int)+n)/\gE zc<=aI/\bytesOf zc=za)/\((decide (n<(10:Int)))=false->zd/\∀E:Int,E=Int.tdiv n (10:Int)->aF n->aF (10:Int)->aF E/\zd/\∀F:Int,F=hY n (10:Int)->aF (48:Int)->aF F->aF ((48:Int)+F)/\(fun a0 a1:Prop=>a0/\a0/\a1) ((True/\mD E<k)/\ze F/\zg E F) (ze F/\(True/\mD E<k)/\zg E F)))) (by kernel_rfl) ?_
 dsimp -iota -proj -eta only;dsimp only at hp;refine iL (fun h0=>iQ (fun h1=>(by rw[h1,YP])) (fun h1 h2 h3=>⟨?a,(by have:=acV h0;rw[j3];exact⟨dT,by omega⟩),(by unfold aF at h3;have:=P8 (n:=-n) (by omega) (by omega);rw[j3];simp only[hS,hT,aI];omega),(by rw[j3,AL h0])⟩)) (fun h0=>iL (fun h1 h2 h3=>⟨?b,?c,(by rw[GL (by omega) (by omega),ui (by omega) (by omega)])⟩) (fun h1=>⟨?d,fun E q_0 h2 h3=>⟨(by rw[q_0,ih h0];unfold aF at*;omega),?e,fun F q_1 h4 h5=>⟨(by rw[q_1,ix h0];unfold aF at*;omega),(show ∀{a0 a1:Prop},a0->a1->a0/\a0/\a1 from fun g0 g1=>⟨g0,g0,g1⟩) (⟨?f,?g,?h,?i⟩) (⟨?j,?k,?l,?m⟩)⟩⟩⟩))
 case a|b=>simp only[aF,aI]at*;omega
 case c|g|j=>show 1<=aI;decide
 case d|e=>trivial
 case f|k=>rw[q_0,ih h0];have:=acW h1;exact⟨dT,by omega⟩
 case h|l=>rw[q_0,q_1,ih h0,ix h0,GL (by omega) (by omega)];have:=P8 (n:=n / 10) (by unfold aF at*;omega) (by unfold aF at*;omega);simp only[hS,hT,aI];omega
 case i|m=>rw[q_0,q_1,ih h0,ix h0,GL (by omega) (by omega),H0 h1]
def Tryz.v8:∀k:Nat,bO Tryz.prog Tryz.B.eT Tryz.X 62 [.int .i64] [.str] (fun x=>(fun _=>True) x/\(fun n=>mD n) x<k) (fun x y=>y=(fun n=>hI n) x)
 |0=>⟨⟨Tryz.f62,Tryz.func62,by kernel_rfl,by kernel_rfl⟩,fun _ _ _ _ _ _ _ hp=>absurd hp.2 (hQ _)⟩
 |k+1=>bP (X:=Tryz.X) (aM (aE (Tryz.v8 k)) (bJ Tryz.bI)) Tryz.func62 (by kernel_rfl) (fun _=>[]) (fun x hw hp=>TM k x hw hp)
def Tryz.TN:bO Tryz.prog Tryz.B.eT Tryz.X 62 [.int .i64] [.str] (fun _=>True) (fun x y=>y=(fun n=>hI n) x):=
 ⟨(Tryz.v8 0).1,fun O w x vs hG hO ha hp=>(Tryz.v8 ((fun n=>mD n) x+1)).2 O w x vs hG hO ha ⟨hp,Nat.lt_succ_self _⟩⟩
def Jt(s:List UInt8):cU:=[(0,fun st=>{X:=Nat×List (List UInt8)×List UInt8,inv:=fun x=>jY 32 s x.1 x.2.1 x.2.2,bF:=fun x=>s.length-x.1,aY:=fun x=>[(5,sI x.1),(3,.s (.one (.app .str x.2.1 (aT st 3)))),(4,sS x.2.2)],aH:=fun x=>[(aT st 3,.tok .str x.2.1)],keep:=[0,2],eA:=[aT st 3]})]
def Xw(s:List UInt8)(hw:eD [.str] s)(hp:(fun s=>s.length<=1000000) s):(cL Tryz.B [] Tryz.f67 (Jt s) [.str] [.slice .str] (fun x y=>y=(fun s=>parts 32 s) x) s).holds:=by
 refine holds_of (p:=
  let za:=Nat×List (List UInt8)×List UInt8
  let zb:=gE s
  let zc:=fun(E:Nat×List (List UInt8)×List UInt8)=>(↑E.1:Int)
  let zd:=fun(E:Nat×List (List UInt8)×List UInt8)=>E.2.1=E.2.1/\gE E.2.1+gE [E.2.2]<=1000000000
  let ze:=aF 1
  let zf:=fun(E:Nat×List (List UInt8)×List UInt8)=>zc E+1
  let zg:=fun(E:Nat×List (List UInt8)×List UInt8)=>E.2.1++[E.2.2]
  let zh:=@hq (List UInt8)=@hq (List UInt8)/\True
  let zi:=fun(E:Nat×List (List UInt8)×List UInt8)=>hB E.1 (hx (hA (zf E)) s)
  (∃(x:za),jY 32 s (hg x) (gN x).1 (gN x).2/\(0=(↑(hg x):Int)/\@hq (List UInt8)=(gN x).1/\@hq UInt8=(gN x).2/\True)/\@hq (List UInt8)=(gN x).1/\True)/\∀E:Nat×List (List UInt8)×List UInt8,jY 32 s E.1 E.2.1 E.2.2->zb<=aI->((decide (zc E<(↑zb:Int)))=true->(0<=zc E/\zc E<(↑zb:Int))/\(((↑(hL (bR s E.1)):Int) == 32)=true->zd E/\(aF (zc E)->ze->aF (zf E)/\∃(x':za),jY 32 s (hg x') (gN x').1 (gN x').2/\zb-hg x'<zb-E.1/\(zf E=(↑(hg x'):Int)/\zg E=(gN x').1/\@hq UInt8=(gN x').2/\True)/\zg E=(gN x').1/\zh))/\(((↑(hL (bR s E.1)):Int) == 32)=false->aF (zc E)->ze->aF (zf E)/\(0<=zc E/\zc E<=zf E/\zf E<=(↑zb:Int))/\gE E.2.2+gE (zi E)<=aI/\(aF (zc E)->ze->aF (zf E)/\∃(x':za),jY 32 s (hg x') (gN x').1 (gN x').2/\zb-hg x'<zb-E.1/\(zf E=(↑(hg x'):Int)/\E.2.1=(gN x').1/\E.2.2++zi E=(gN x').2/\True)/\E.2.1=(gN x').1/\zh)))/\((decide (zc E<(↑zb:Int)))=false->zd E/\zg E=parts 32 s)) (by kernel_rfl) ?_
 dsimp -iota -proj -eta only;refine⟨(⟨(0,[],[]),jY.zero _ _,⟨rfl,rfl,rfl,dT⟩,rfl,dT⟩),fun E q_0 h0=>iL (fun h1=>⟨?a,iQ (fun h2=>⟨?b,fun h3 h4=>⟨?c,(by exact⟨(E.1+1,_,_),q_0.cut (by omega) (Qh (n:=32) h2 rfl),by simp only;omega,⟨by simp only;omega,rfl,rfl,dT⟩,rfl,(by trivial)⟩)⟩⟩) (fun h2 h3 h4=>⟨?d,?e,(by have:=q_0.lx;have:=q_0.le;rw[FC (by omega)];simp only[hz,aI];omega),fun h5 h6=>⟨?f,(by rw[FC (by omega)];exact⟨(E.1+1,E.2.1,E.2.2++[bR s E.1]),q_0.more (by omega) (Qi (n:=32) h2 rfl),by simp only;omega,⟨by simp only;omega,rfl,rfl,dT⟩,rfl,(by trivial)⟩)⟩⟩)⟩) (fun h1=>⟨?g,(q_0.done (by omega))⟩)⟩
 case a|e=>omega
 case b|g=>have:=q_0.len;have:=q_0.le;exact⟨rfl,by simp only[hz];omega⟩
 case c|d|f=>simp only[aF,aI]at*;omega
def Tryz.Xx:bO Tryz.prog Tryz.B.eT Tryz.X 67 [.str] [.slice .str] (fun s=>s.length<=1000000) (fun x y=>y=(fun s=>parts 32 s) x):=
 bP (X:=Tryz.X) (bJ Tryz.bI) Tryz.func67 (by kernel_rfl) (fun x=>Jt x) (fun x hw hp=>Xw x hw hp)
def Ju(s:List UInt8):cU:=[(0,fun st=>{X:=Nat×List (List UInt8)×Nat,inv:=fun x=>jZ 10 s x.1 x.2.1 x.2.2,bF:=fun x=>s.length-x.1,aY:=fun x=>[(6,sI x.1),(4,.s (.one (.app .str x.2.1 (aT st 4)))),(5,sI x.2.2)],aH:=fun x=>[(aT st 4,.tok .str x.2.1)],keep:=[0,2,3],eA:=[aT st 4]})]
def Xy(s:List UInt8)(hw:eD [.str] s)(hp:(fun s=>s.length<=1000000) s):(cL Tryz.B [] Tryz.f66 (Ju s) [.str] [.slice .str,.bool] (fun x y=>y=(fun s=>(nK s,AY s)) x) s).holds:=by
 refine holds_of (p:=
  let za:=Nat×List (List UInt8)×Nat
  let zb:=gE s
  let zc:=fun(E:Nat×List (List UInt8)×Nat)=>(↑E.1:Int)
  let zd:=(↑zb:Int)
  let ze:=fun(E:Nat×List (List UInt8)×Nat)=>(↑E.2.2:Int)
  let zf:=fun(E:Nat×List (List UInt8)×Nat)=>[hB E.2.2 (hx E.1 s)]
  let zg:=aF 1
  let zh:=fun(E:Nat×List (List UInt8)×Nat)=>zc E+1
  let zi:=@hq (List UInt8)=@hq (List UInt8)/\True
  (∃(x:za),jZ 10 s (hg x) (gN x).1 (gN x).2/\(0=(↑(hg x):Int)/\@hq (List UInt8)=(gN x).1/\0=(↑(gN x).2:Int)/\True)/\@hq (List UInt8)=(gN x).1/\True)/\∀E:Nat×List (List UInt8)×Nat,jZ 10 s E.1 E.2.1 E.2.2->zb<=aI->((decide (zc E<zd))=true->(0<=zc E/\zc E<zd)/\(((↑(hL (bR s E.1)):Int) == 10)=true->(0<=ze E/\ze E<=zc E/\zc E<=zd)/\(E.2.1=E.2.1/\gE E.2.1+gE (zf E)<=1000000000)/\(aF (zc E)->zg->aF (zh E)/\(aF (zc E)->zg->aF (zh E)/\∃(x':za),jZ 10 s (hg x') (gN x').1 (gN x').2/\zb-hg x'<zb-E.1/\(zh E=(↑(hg x'):Int)/\E.2.1++zf E=(gN x').1/\zh E=(↑(gN x').2:Int)/\True)/\E.2.1++zf E=(gN x').1/\zi)))/\(((↑(hL (bR s E.1)):Int) == 10)=false->aF (zc E)->zg->aF (zh E)/\∃(x':za),jZ 10 s (hg x') (gN x').1 (gN x').2/\zb-hg x'<zb-E.1/\(zh E=(↑(hg x'):Int)/\E.2.1=(gN x').1/\ze E=(↑(gN x').2:Int)/\True)/\E.2.1=(gN x').1/\zi))/\((decide (zc E<zd))=false->zb<=aI->(E.2.1,ze E == zd)=(nK s,AY s))) (by kernel_rfl) ?_
 dsimp -iota -proj -eta only;refine⟨(⟨(0,[],0),jZ.zero _ _,⟨rfl,rfl,rfl,dT⟩,rfl,dT⟩),fun E q_0 h0=>iL (fun h1=>⟨(by omega),iQ (fun h2=>⟨(by have:=q_0.fi;omega),(by have:=q_0.len;have:=q_0.le;exact⟨rfl,by simp only[hz];omega⟩),fun h3 h4=>⟨?a,fun h5 h6=>⟨?b,(by exact⟨(E.1+1,_,E.1+1),q_0.cut (by omega) (Qh (n:=10) h2 rfl),by simp only;omega,⟨by simp only;omega,rfl,by simp only;omega,dT⟩,rfl,(by trivial)⟩)⟩⟩⟩) (fun h2 h3 h4=>⟨?c,(by exact⟨(E.1+1,E.2.1,E.2.2),q_0.more (by omega) (Qi (n:=10) h2 rfl),by simp only;omega,⟨by simp only;omega,rfl,rfl,dT⟩,rfl,(by trivial)⟩)⟩)⟩) (fun h1 h2=>(by rw[show(nK s,AY s)=vJ s from rfl,<-q_0.done (by omega)];congr 1;rw[j1];simp;omega))⟩
 case a|b|c=>simp only[aF,aI]at*;omega
def Tryz.Xz:bO Tryz.prog Tryz.B.eT Tryz.X 66 [.str] [.slice .str,.bool] (fun s=>s.length<=1000000) (fun x y=>y=(fun s=>(nK s,AY s)) x):=
 bP (X:=Tryz.X) (bJ Tryz.bI) Tryz.func66 (by kernel_rfl) (fun x=>Ju x) (fun x hw hp=>Xy x hw hp)
def QX(s:List UInt8):cU:=[(0,fun st=>{X:=Nat,inv:=fun i=>i<=(dV s).length/\∀j,j<i->kV (bR (dV s) j)=true,bF:=fun i=>(dV s).length-i,aY:=fun i=>[(6,sI i),(5,sI (mg ((dV s).take i)))],keep:=[0,4]})]
def TO(s:List UInt8)(hw:eD [.str] s):(cL Tryz.B [] Tryz.f68 (QX s) [.str] [.int .i64,.bool] (fun x y=>y=(fun s=>(vP s,sY s)) x) s).holds:=by
 refine holds_of (p:=
  let za:=gE s
  let zb:=za<=aI
  let zc:=(↑za:Int)
  let zd:=(0:Int)<=(0:Int)
  let ze:=zd/\(0:Int)<zc
  let zf:=(↑(hL (bR s 0)):Int)
  let zg:=hB 1 (hx za s)
  let zh:=gE zg<=aI
  let zi:=(↑(gE zg):Int)
  let zj:=(vP s,sY s)
  let zk:=((0:Int),false)=zj
  let zl:=decide (zc > (1:Int))
  let zm:=dV s
  let zn:=gE zm
  let zo:=∃(x:Nat),(x<=zn/\∀(j:Nat),j<x->kV (bR zm j)=true)/\((0:Int)=(↑x:Int)/\(0:Int)=(↑(mg (hx x zm)):Int)/\True)/\True
  let zp:=fun(E:Nat)=>E<=zn/\∀(j:Nat),j<E->kV (bR zm j)=true
  let zq:=fun(E:Nat)=>(0:Int)<=(↑E:Int)/\(↑E:Int)<zi
  let zr:=fun(E:Nat)=>(↑(hL (bR zg E)):Int)
  let zs:=fun(E:Nat)=>(↑(mg (hx E zm)):Int)
  let zt:=fun(F:Int) (G:Int) (E:Nat)=>aF F->aF G->aF (F+G)/\(aF (↑E:Int)->aF (1:Int)->aF ((↑E:Int)+(1:Int))/\∃(x':Nat),(x'<=zn/\∀(j:Nat),j<x'->kV (bR zm j)=true)/\zn-x'<zn-E/\((↑E:Int)+(1:Int)=(↑x':Int)/\F+G=(↑(mg (hx x' zm)):Int)/\True)/\True)
  let zu:=fun(E:Nat)=>aF (0:Int)->aF (zs E)->aF ((0:Int)-zs E)/\((0:Int)-zs E,true)=zj
  let zv:=zo/\∀E:Nat,zp E->zh->((decide ((↑E:Int)<zi))=true->zq E/\((decide (zr E<(48:Int)))=true->zk)/\((decide (zr E<(48:Int)))=false->zq E/\((decide (zr E > (57:Int)))=true->zk)/\((decide (zr E > (57:Int)))=false->∀F:Int,F=(10:Int)*zs E->aF (10:Int)->aF (zs E)->aF F/\zq E/\∀G:Int,G=hK hW (zr E-(48:Int))->zt F G E)))/\((decide ((↑E:Int)<zi))=false->zh->zb->((decide (zi<zc))=true->zu E)/\((decide (zi<zc))=false->(zs E,true)=zj))
  let zw:=fun(E:Nat)=>(0:Int)<=(↑E:Int)/\(↑E:Int)<zc
  let zx:=fun(E:Nat)=>(↑(hL (bR s E)):Int)
  let zy:=zo/\∀E:Nat,zp E->zb->((decide ((↑E:Int)<zc))=true->zw E/\((decide (zx E<(48:Int)))=true->zk)/\((decide (zx E<(48:Int)))=false->zw E/\((decide (zx E > (57:Int)))=true->zk)/\((decide (zx E > (57:Int)))=false->∀F:Int,F=(10:Int)*zs E->aF (10:Int)->aF (zs E)->aF F/\zw E/\∀G:Int,G=hK hW (zx E-(48:Int))->zt F G E)))/\((decide ((↑E:Int)<zc))=false->zb->zb->((decide (zc<zc))=true->zu E)/\((decide (zc<zc))=false->(zs E,true)=zj))
  let zz:=zb->((decide (zc<(1:Int)))=true->zk)/\((decide (zc<(1:Int)))=false->zb->((decide (zc > (18:Int)))=true->zk)/\((decide (zc > (18:Int)))=false->ze/\((zf == (48:Int))=true->zb->(zl=true->zk)/\(zl=false->zy))/\((zf == (48:Int))=false->zy)))
  zb->((decide (zc > (0:Int)))=true->ze/\((zf == (45:Int))=true->((0:Int)<=(1:Int)/\(1:Int)<=zc/\zc<=zc)/\(zh->((decide (zi<(1:Int)))=true->zk)/\((decide (zi<(1:Int)))=false->zh->((decide (zi > (18:Int)))=true->zk)/\((decide (zi > (18:Int)))=false->(zd/\(0:Int)<zi)/\(((↑(hL (bR zg 0)):Int) == (48:Int))=true->zb->(zl=true->zk)/\(zl=false->zv))/\(((↑(hL (bR zg 0)):Int) == (48:Int))=false->zv)))))/\((zf == (45:Int))=false->zz))/\((decide (zc > (0:Int)))=false->zz)) (by kernel_rfl) ?_
 dsimp -iota -proj -eta only;refine fun h0=>iL (fun h1=>⟨?a,iQ (fun h2=>⟨?b,fun h3=>iL (fun h4 =>?c) (fun h4 h5=>iL (fun h6 =>?d) (fun h6=>⟨?e,iQ (fun h7 h8=>iL (fun h9 =>?f) (fun h9=>⟨?g,fun E q_0 h10=>iL (fun h11=>⟨?h,iL (fun h12 =>?i) (fun h12=>⟨?j,iL (fun h13 =>?k) (fun h13 F q_1 h14 h15=>⟨?l,?m,fun G q_2 h16 h17=>⟨?n,fun h18 h19=>⟨?o,?p⟩⟩⟩)⟩)⟩) (fun h11 h12 h13=>iL (fun h14 h15 h16=>⟨?q,?r⟩) (fun h14 =>?s))⟩)) (fun h7=>⟨?t,fun E q_0 h8=>iL (fun h9=>⟨?u,iL (fun h10 =>?v) (fun h10=>⟨?w,iL (fun h11 =>?x) (fun h11 F q_1 h12 h13=>⟨?y,?z,fun G q_2 h14 h15=>⟨?a0,fun h16 h17=>⟨?a1,?a2⟩⟩⟩)⟩)⟩) (fun h9 h10 h11=>iL (fun h12 h13 h14=>⟨?a3,?a4⟩) (fun h12 =>?a5))⟩)⟩))⟩) (fun h2 h3=>iL (fun h4 =>?a6) (fun h4 h5=>iL (fun h6 =>?a7) (fun h6=>⟨?a8,iQ (fun h7 h8=>iL (fun h9 =>?a9) (fun h9=>⟨?aa,fun E q_0 h10=>iL (fun h11=>⟨?ab,iL (fun h12 =>?ac) (fun h12=>⟨?ad,iL (fun h13 =>?ae) (fun h13 F q_1 h14 h15=>⟨?af,?ag,fun G q_2 h16 h17=>⟨?ah,fun h18 h19=>⟨?ai,?aj⟩⟩⟩)⟩)⟩) (fun h11 h12 h13=>iL (fun h14 h15 h16=>⟨?ak,?al⟩) (fun h14 =>?am))⟩)) (fun h7=>⟨?an,fun E q_0 h8=>iL (fun h9=>⟨?ao,iL (fun h10 =>?ap) (fun h10=>⟨?aq,iL (fun h11 =>?ar) (fun h11 F q_1 h12 h13=>⟨?au,?av,fun G q_2 h14 h15=>⟨?aw,fun h16 h17=>⟨?ax,?ay⟩⟩⟩)⟩)⟩) (fun h9 h10 h11=>iL (fun h12 h13 h14=>⟨?az,?b0⟩) (fun h12 =>?b1))⟩)⟩)))⟩) (fun h1 h2=>iL (fun h3 =>?b2) (fun h3 h4=>iL (fun h5 =>?b3) (fun h5=>⟨?b4,iQ (fun h6 h7=>iL (fun h8 =>?b5) (fun h8=>⟨?b6,fun E q_0 h9=>iL (fun h10=>⟨?b7,iL (fun h11 =>?b8) (fun h11=>⟨?b9,iL (fun h12 =>?ba) (fun h12 F q_1 h13 h14=>⟨?bb,?bc,fun G q_2 h15 h16=>⟨?bd,fun h17 h18=>⟨?be,?bf⟩⟩⟩)⟩)⟩) (fun h10 h11 h12=>iL (fun h13 h14 h15=>⟨?bg,?bh⟩) (fun h13 =>?bi))⟩)) (fun h6=>⟨?bj,fun E q_0 h7=>iL (fun h8=>⟨?bk,iL (fun h9 =>?bl) (fun h9=>⟨?bm,iL (fun h10 =>?bn) (fun h10 F q_1 h11 h12=>⟨?bo,?bp,fun G q_2 h13 h14=>⟨?bq,fun h15 h16=>⟨?br,?bs⟩⟩⟩)⟩)⟩) (fun h8 h9 h10=>iL (fun h11 h12 h13=>⟨?bt,?bu⟩) (fun h11 =>?bv))⟩)⟩)))
 case a|e|a8|b4=>trivial
 case b|h|j|m|u|w|z|ab|ad|ag|ao|aq|av|b7|b9|bc|bk|bm|bp=>omega
 case c|d|f|i|k|v|x|a6|a7|a9|ac|ae|ap|ar|b2|b3|b5|b8|ba|bl|bn=>(first|have hm:=Fz h1 h2|have hm:=FA h2|have hm:=FB h1);first|exact Y5 hm (by omega)|exact Vm hm (by omega) ‹_› (by omega)|exact Y6 hm (i:=E) (by omega) (by omega)
 case g|t|aa|an|b6|bj=>exact⟨0,⟨by omega,fun j hj=>by omega⟩,⟨rfl,rfl,dT⟩,dT⟩
 case l|y|af|au|bb|bo=>(first|have hm:=Fz h1 h2|have hm:=FA h2|have hm:=FB h1);have hi:E<(dV s).length:=(by rw[hm];omega);have hs:=CN (s:=dV s) (i:=E) hi (by rw[hm];omega) q_0.2;simp only[aF];omega
 case n|a0|ah|aw|bd|bq=>(first|have hm:=Fz h1 h2|have hm:=FA h2|have hm:=FB h1);have hi:E<(dV s).length:=(by rw[hm];omega);have hs:=CN (s:=dV s) (i:=E) hi (by rw[hm];omega) q_0.2;have hn:=LN hm (i:=E) (by omega) ‹_› ‹_› q_1 q_2;simp only[aF];omega
 case o|q|a1|a3|ai|ak|ax|az|be|bg|br|bt=>simp only[aF]at*;omega
 case p|a2|aj|ay|bf|bs=>
  (first|have hm:=Fz h1 h2|have hm:=FA h2|have hm:=FB h1)
  have hi:E<(dV s).length:=(by rw[hm];omega);exact⟨E+1,⟨by omega,jD q_0.2 (by rw[hm];exact Y7 ‹_› ‹_›)⟩,by omega,⟨by omega,(LN hm (i:=E) (by omega) ‹_› ‹_› q_1 q_2).1,dT⟩,(by trivial)⟩
 case r|s|a4|a5|al|am|b0|b1|bh|bi|bu|bv=>(first|have hm:=Fz h1 h2|have hm:=FA h2|have hm:=FB h1);first|exact Y8 hm (by omega) (by omega) (by first|(intro;omega)|(intro h;exact absurd h ‹_›)) (i:=E) (by omega) q_0.2 (by omega)|exact Y9 hm (by omega) (by omega) (by first|(intro;omega)|(intro h;exact absurd h ‹_›)) (i:=E) (by omega) q_0.2 (by omega)
def Tryz.TP:bO Tryz.prog Tryz.B.eT Tryz.X 68 [.str] [.int .i64,.bool] (fun _=>True) (fun x y=>y=(fun s=>(vP s,sY s)) x):=
 bP (X:=Tryz.X) (bJ Tryz.bI) Tryz.func68 (by kernel_rfl) (fun x=>QX x) (fun x hw hp=>TO x hw)
def Po(n:Int)(hw:eD [.int .i64] n):(cL Tryz.B [] Tryz.f60 [] [.int .i64] [.bool] (fun x y=>y=(fun n=>eB n) x) n).holds:=by
 refine holds_of (p:=
  ((decide (n>=(-2147483648:Int)))=true->decide (n<=2147483647)=eB n)/\((decide (n>=(-2147483648:Int)))=false->false=eB n)) (by kernel_rfl) ?_
 refine iE (fun h0 =>?a) (fun h0 =>?b)
 case a|b=>unfold eB;rw[j1];simp;omega
def Tryz.Pp:bO Tryz.prog Tryz.B.eT Tryz.X 60 [.int .i64] [.bool] (fun _=>True) (fun x y=>y=(fun n=>eB n) x):=
 bP (X:=Tryz.X) (bJ Tryz.bI) Tryz.func60 (by kernel_rfl) (fun _=>[]) (fun x hw hp=>Po x hw)
def Tryz.Gi:List (FuncId×(Bool×aX)):=[(49,Tryz.spZ0),(50,Tryz.spZ1),(156,Tryz.spZ2),(83,Tryz.spZ3),(11,Tryz.spZ4),(60,Tryz.spZ25)]
def Tryz.Ny:bL Tryz.prog Tryz.B Tryz.X Tryz.Gi:=
 aM (aE Tryz.js) (aM (aE Tryz.fI) (aM (aE Tryz.kE) (aM (aE Tryz.jt) (aM (aE Tryz.kG) (aM (aE Tryz.Pp) (bJ Tryz.bI))))))
def Gj(e:D aB):cU:=[
 (0,fun st=>{X:=Nat,inv:=fun i=>i<=gE e.2.1/\∀j,j<i->eH (nth aG e.2.1 j)=0,bF:=fun i=>gE e.2.1-i,aY:=fun i=>[(4,sI i)],keep:=[1]}),
 (2,fun st=>{X:=Nat,inv:=fun i=>i<=gE e.2.2.1/\∀j,j<i->dS e.2.1.length (nth aN e.2.2.1 j)=0,bF:=fun i=>gE e.2.2.1-i,aY:=fun i=>[(7,sI i)],keep:=[1]})]
def Hf(e:D aB)(hw:eD [aB] e):(cL Tryz.B Tryz.Gi Tryz.f28 (Gj e) [aB] [.int .i64] (fun x y=>y=(fun e=>bE e) x) e).holds:=by
 refine holds_of (p:=
  let za:=aJ e.1
  let zb:=bE e
  let zc:=e.2.1
  let zd:=gE zc
  let ze:=zd<=aI
  let zf:=(↑zd:Int)
  let zg:=(2:Int)=zb
  let zh:=e.2.2.1
  let zi:=gE zh
  let zj:=fun(E:Nat)=>aJ (nth aG zc E).1
  let zk:=(1:Int)=zb
  let zl:=fun(E:Nat)=>(nth aG zc E).2.2.1
  let zm:=fun(E:Nat)=>(↑E:Int)+(1:Int)
  let zn:=(e.1=e.1/\zc=zc/\zh=zh/\True)/\True
  True/\((decide (za > (0:Int)))=true->za=zb)/\((decide (za > (0:Int)))=false->ze->((decide (zf<(1:Int)))=true->zg)/\((decide (zf<(1:Int)))=false->ze->((decide (zf > (6:Int)))=true->zg)/\((decide (zf > (6:Int)))=false->zi<=aI->((decide ((↑zi:Int) > (36:Int)))=true->zg)/\((decide ((↑zi:Int) > (36:Int)))=false->(∃(x:Nat),(x<=zd/\∀(j:Nat),j<x->eH (nth aG zc j)=(0:Int))/\((0:Int)=(↑x:Int)/\True)/\True)/\∀E:Nat,(E<=zd/\∀(j:Nat),j<E->eH (nth aG zc j)=(0:Int))->ze->((decide ((↑E:Int)<zf))=true->((0:Int)<=(↑E:Int)/\(↑E:Int)<zf)/\True/\((decide (zj E > (0:Int)))=true->zj E=zb)/\((decide (zj E > (0:Int)))=false->((decide ((nth aG zc E).2.1<(1:Int)))=true->zk)/\((decide ((nth aG zc E).2.1<(1:Int)))=false->((decide ((nth aG zc E).2.1 > (1000000:Int)))=true->zk)/\((decide ((nth aG zc E).2.1 > (1000000:Int)))=false->((decide (zl E<(0:Int)))=true->zk)/\((decide (zl E<(0:Int)))=false->((decide (zl E > (255:Int)))=true->zk)/\((decide (zl E > (255:Int)))=false->(16:Int)≠(0:Int)/\∀F:Int,F=hY (zl E) (16:Int)->((decide (F > (0:Int)))=true->zk)/\((decide (F > (0:Int)))=false->aF (↑E:Int)->aF (1:Int)->aF (zm E)/\∃(x':Nat),(x'<=zd/\∀(j:Nat),j<x'->eH (nth aG zc j)=(0:Int))/\zd-x'<zd-E/\(zm E=(↑x':Int)/\True)/\zn)))))))/\((decide ((↑E:Int)<zf))=false->(∃(x:Nat),(x<=zi/\∀(j:Nat),j<x->dS zd (nth aN zh j)=(0:Int))/\((0:Int)=(↑x:Int)/\True)/\True)/\∀F:Nat,(F<=zi/\∀(j:Nat),j<F->dS zd (nth aN zh j)=(0:Int))->zi<=aI->((decide ((↑F:Int)<(↑zi:Int)))=true->((0:Int)<=(↑F:Int)/\(↑F:Int)<(↑zi:Int))/\True/\((decide ((nth aN zh F).1<(0:Int)))=true->zk)/\((decide ((nth aN zh F).1<(0:Int)))=false->ze->((decide ((nth aN zh F).1>=zf))=true->zk)/\((decide ((nth aN zh F).1>=zf))=false->((decide ((nth aN zh F).2.1<(0:Int)))=true->zk)/\((decide ((nth aN zh F).2.1<(0:Int)))=false->((decide ((nth aN zh F).2.1 > (39:Int)))=true->zk)/\((decide ((nth aN zh F).2.1 > (39:Int)))=false->((!eB (nth aN zh F).2.2.1)=true->zk)/\((!eB (nth aN zh F).2.2.1)=false->aF (↑F:Int)->aF (1:Int)->aF (zm F)/\∃(x':Nat),(x'<=zi/\∀(j:Nat),j<x'->dS zd (nth aN zh j)=(0:Int))/\zi-x'<zi-F/\(zm F=(↑x':Int)/\True)/\zn))))))/\((decide ((↑F:Int)<(↑zi:Int)))=false->(0:Int)=zb))))))) (by kernel_rfl) ?_
 dsimp -iota -proj -eta only;refine⟨dT,iL (fun h0=>((vQ h0).symm)) (fun h0 h1=>iL (fun h2=>((mN (by assumption:aJ e.1<=0) (.inl (by omega))).symm)) (fun h2 h3=>iL (fun h4=>((mN (by assumption:aJ e.1<=0) (.inr (.inl (by omega)))).symm)) (fun h4 h5=>iL (fun h6=>((mN (by assumption:aJ e.1<=0) (.inr (.inr (by omega)))).symm)) (fun h6=>⟨?a,fun E q_0 h7=>iL (fun h8=>⟨?b,dT,iL (fun h9=>(((fV (by assumption:aJ e.1<=0) (eI (by omega) (by omega) (by omega)) q_0.2 (by omega) (FJ h9) (by omega))).symm)) (fun h9=>iL (fun h10=>(((fV (by assumption:aJ e.1<=0) (eI (by omega) (by omega) (by omega)) q_0.2 (by omega) (lM h9 (.inl ‹_›)) (by decide))).symm)) (fun h10=>iL (fun h11=>(((fV (by assumption:aJ e.1<=0) (eI (by omega) (by omega) (by omega)) q_0.2 (by omega) (lM h9 (.inr (.inl ‹_›))) (by decide))).symm)) (fun h11=>iL (fun h12=>(((fV (by assumption:aJ e.1<=0) (eI (by omega) (by omega) (by omega)) q_0.2 (by omega) (lM h9 (.inr (.inr (.inl ‹_›)))) (by decide))).symm)) (fun h12=>iL (fun h13=>(((fV (by assumption:aJ e.1<=0) (eI (by omega) (by omega) (by omega)) q_0.2 (by omega) (lM h9 (.inr (.inr (.inr (.inl ‹_›))))) (by decide))).symm)) (fun h13=>⟨(by trivial),fun F q_1=>iL (fun h14=>(by have hb:=yh h12 q_1;exact((fV (by assumption:aJ e.1<=0) (eI (by omega) (by omega) (by omega)) q_0.2 (by omega) (lM h9 (.inr (.inr (.inr (.inr (by rw[hb]at h14;exact h14)))))) (by decide))).symm)) (fun h14 h15 h16=>⟨?c,(by have hb:=yh h12 q_1;exact⟨E+1,⟨by omega,jD q_0.2 (D0 h9 h10 h11 h12 h13 (by rw[hb]at h14;exact hJ h14 (Int.emod_nonneg _ (by decide))))⟩,by omega,⟨by omega,dT⟩,(by trivial)⟩)⟩)⟩)))))⟩) (fun h8=>⟨?d,fun F q_1 h9=>iL (fun h10=>⟨?e,dT,iL (fun h11=>(((gJ (by assumption:aJ e.1<=0) (eI (by omega) (by omega) (by omega)) (fun j hj=>q_0.2 j (by omega)) q_1.2 (by omega) (lN (.inl ‹_›)))).symm)) (fun h11 h12=>iE (fun h13=>(((gJ (by assumption:aJ e.1<=0) (eI (by omega) (by omega) (by omega)) (fun j hj=>q_0.2 j (by omega)) q_1.2 (by omega) (lN (.inr (.inl ‹_›))))).symm)) (fun h13=>iL (fun h14=>(((gJ (by assumption:aJ e.1<=0) (eI (by omega) (by omega) (by omega)) (fun j hj=>q_0.2 j (by omega)) q_1.2 (by omega) (lN (.inr (.inr (.inl ‹_›)))))).symm)) (fun h14=>iL (fun h15=>(((gJ (by assumption:aJ e.1<=0) (eI (by omega) (by omega) (by omega)) (fun j hj=>q_0.2 j (by omega)) q_1.2 (by omega) (lN (.inr (.inr (.inr (.inl ‹_›))))))).symm)) (fun h15=>iB (fun h16=>(((gJ (by assumption:aJ e.1<=0) (eI (by omega) (by omega) (by omega)) (fun j hj=>q_0.2 j (by omega)) q_1.2 (by omega) (SL h16))).symm)) (fun h16 h17 h18=>⟨?f,(⟨F+1,⟨by omega,jD q_1.2 (OH ‹_› ‹_› ‹_› ‹_› h16)⟩,by omega,⟨by omega,dT⟩,(by trivial)⟩)⟩)))))⟩) (fun h10=>((A7 (by assumption:aJ e.1<=0) (eI (by omega) (by omega) (by omega)) (fun j hj=>q_0.2 j (by omega)) (fun j hj=>q_1.2 j (by omega))).symm))⟩)⟩))))⟩
 case a|d=>exact⟨0,⟨hF _,fun j hj=>absurd hj (hQ _)⟩,⟨rfl,dT⟩,dT⟩
 case b|e=>omega
 case c|f=>simp only[aF,aI]at*;omega
def Tryz.Hg:bO Tryz.prog Tryz.B.eT Tryz.X 28 [aB] [.int .i64] (fun _=>True) (fun x y=>y=(fun e=>bE e) x):=
 bP (X:=Tryz.X) Tryz.Ny Tryz.func28 (by kernel_rfl) (fun x=>Gj x) (fun x hw hp=>Hf x hw)
@[reducible] def Tryz.gw:List Ob:=[.box 43 [.d (.slice aB)]]
def Tryz.QY:List (FuncId×(Bool×aX)):=[(28,(true,bX [aB] [.int .i64] (fun _=>True) (fun e=>bE e)))]
def Tryz.XA:bL Tryz.prog Tryz.B Tryz.X Tryz.QY:=
 aM (aE Tryz.Hg) (bJ Tryz.bI)
def Tryz.QZ(e:D aB)(o:List (D aB)):cU:=[
 (0,fun st=>{X:=Nat,inv:=fun i=>i<=o.length/\∀j,j<i->(nth aB o j).1≠e.1,bF:=fun i=>o.length-i,aY:=fun i=>[(7,sI i)],keep:=[0,3,6]})]
def Tryz.Em:List (Alt Tryz.gw [.obj 0,.d aB]):=[{bS:=Tryz.gw,res:=[.d (.int .i64)],out:=fun a x=>(((ln x.1.1 a.1).1,()),()),ret:=fun a x=>((ln x.1.1 a.1).2,())}]
def acm(e:D aB)(o:List (D aB))(hw:fM [.obj 0,.d aB] (e,()))(hp:(fun _ x=>x.1.1.length<=1000000) (e,()) ((o,()),())):(cO (jl Tryz.B [5000000]) Tryz.QY Tryz.f53 (Tryz.QZ e o) Tryz.gw [.obj 0,.d aB] Tryz.Em (e,()) ((o,()),())).holds:=by
 refine holds_of (p:=
  let za:=(((ln o e).1,()),())
  let zb:=((o,()),())=za
  let zc:=((ln o e).2,())
  let zd:=gE o
  let ze:=fun(E:Nat)=>0<=(↑E:Int)/\(↑E:Int)<(↑zd:Int)
  let zf:=(0,())=zc
  True/\((decide (bE e > 0))=true->True/\zb/\(bE e,())=zc)/\((decide (bE e > 0))=false->zd<=1000000000/\(∃(x:Nat),(x<=zd/\∀(j:Nat),j<x->(nth aB o j).1≠e.1)/\(0=(↑x:Int)/\True)/\True)/\∀E:Nat,(E<=zd/\∀(j:Nat),j<E->(nth aB o j).1≠e.1)->zd<=aI->((decide ((↑E:Int)<(↑zd:Int)))=true->ze E/\E<zd/\(((nth aB o E).1 == e.1)=true->ze E/\E<zd/\True/\((hR o E e,()),())=za/\zf)/\(((nth aB o E).1 == e.1)=false->aF (↑E:Int)->aF 1->aF ((↑E:Int)+1)/\∃(x':Nat),(x'<=zd/\∀(j:Nat),j<x'->(nth aB o j).1≠e.1)/\zd-x'<zd-E/\((↑E:Int)+1=(↑x':Int)/\True)/\o=o/\(e.1=e.1/\e.2.1=e.2.1/\e.2.2.1=e.2.2.1/\True)/\(o=o/\True)/\True))/\((decide ((↑E:Int)<(↑zd:Int)))=false->zd<=aI->(((↑zd:Int) == 3)=true->True/\zb/\(2,())=zc)/\(((↑zd:Int) == 3)=false->(o=o/\zd+gE [e]<=1000000000)/\True/\((o++[e],()),())=za/\zf)))) (by kernel_rfl) ?_
 dsimp -iota -proj -eta only;dsimp only at hp;refine⟨dT,iL (fun h0=>(by rw[yq h0];exact⟨dT,rfl,rfl⟩)) (fun h0=>⟨?a,(⟨0,⟨hF _,fun j hj=>absurd hj (hQ _)⟩,⟨rfl,dT⟩,dT⟩),fun E q_0 h1=>iL (fun h2=>⟨?b,?c,iQ (fun h3=>⟨?d,?e,(by rw[D6 (by omega) (by omega) q_0.2 h3];exact⟨dT,rfl,rfl⟩)⟩) (fun h3 h4 h5=>⟨(by simp only[aF,aI]at*;omega),(⟨E+1,⟨by omega,jD q_0.2 h3⟩,by omega,⟨by omega,dT⟩,(by trivial)⟩)⟩)⟩) (fun h2 h3=>iQ (fun h4=>(by rw[Bg (by omega) (fun j hj=>q_0.2 j (by omega)) h4];exact⟨dT,rfl,rfl⟩)) (fun h4=>⟨(by have:o.length<=1000000:=hp;exact⟨rfl,by rw[hz];omega⟩),(by rw[yr (by omega) (fun j hj=>q_0.2 j (by omega)) h4];exact⟨dT,rfl,rfl⟩)⟩))⟩)⟩
 case a|b|c|d|e=>omega
def Tryz.acn:bY Tryz.prog Tryz.B.eT Tryz.X 53 false (aW Tryz.gw [.obj 0,.d aB] (fun _ x=>x.1.1.length<=1000000) Tryz.Em):=
 aZ (B:=(jl Tryz.B [5000000])) (X:=Tryz.X) (bL.hint (l:=[5000000]) Tryz.XA) Tryz.func53 (by kernel_rfl) (fun(a:CD [.obj 0,.d aB]) (x:PD Tryz.gw)=>Tryz.QZ a.1 x.1.1) (fun(a:CD [.obj 0,.d aB]) (x:PD Tryz.gw) hw hp=>acm a.1 x.1.1 hw hp)
def Tryz.Nz(s:List UInt8)(o:List (D aB)):cU:=[
 (0,fun st=>{X:=Nat,inv:=fun i=>i<=o.length,bF:=fun i=>o.length-i,aY:=fun i=>[(6,sI i),(5,.s (.one (.app aB (jf (o.take i) s) (aT st 5))))],aH:=fun i=>[(aT st 5,.tok aB (jf (o.take i) s))],keep:=[0,1,4],eA:=[aT st 5]})]
def Tryz.By:List (Alt Tryz.gw [.obj 0,.d .str]):=[{bS:=Tryz.gw,res:=[.d (.int .i64)],out:=fun a x=>(((jo x.1.1 a.1).1,()),()),ret:=fun a x=>((jo x.1.1 a.1).2,())}]
def aax(s:List UInt8)(o:List (D aB))(hw:fM [.obj 0,.d .str] (s,()))(hp:(fun _ x=>x.1.1.length<=1000000) (s,()) ((o,()),())):(cO (jl Tryz.B [35]) [] Tryz.f19 (Tryz.Nz s o) Tryz.gw [.obj 0,.d .str] Tryz.By (s,()) ((o,()),())).holds:=by
 refine holds_of (p:=
  let za:=gE o
  let zb:=fun(E:Nat)=>0<=(↑E:Int)/\(↑E:Int)<(↑za:Int)
  let zc:=fun(E:Nat)=>jf (hx E o) s
  let zd:=fun(E:Nat)=>(↑E:Int)+1
  let ze:=fun(E:Nat)=>zc E++[nth aB o E]
  let zf:=(o=o/\True)/\True
  let zg:=(((jo o s).1,()),())
  let zh:=((jo o s).2,())
  (∃(x:Nat),x<=za/\(0=(↑x:Int)/\@hq (List UInt8×List (List UInt8×Int×Int×Unit)×List (Int×Int×Int×Unit)×Unit)=jf (hx x o) s/\True)/\@hq (List UInt8×List (List UInt8×Int×Int×Unit)×List (Int×Int×Int×Unit)×Unit)=jf (hx x o) s/\True)/\∀E:Nat,E<=za->za<=aI->((decide ((↑E:Int)<(↑za:Int)))=true->zb E/\((!(nth aB o E).1 == s)=true->zb E/\(zc E=zc E/\gE (zc E)+gE [nth aB o E]<=1000000000)/\(aF (↑E:Int)->aF 1->aF (zd E)/\∃(x':Nat),x'<=za/\za-x'<za-E/\(zd E=(↑x':Int)/\ze E=jf (hx x' o) s/\True)/\ze E=jf (hx x' o) s/\zf))/\((!(nth aB o E).1 == s)=false->aF (↑E:Int)->aF 1->aF (zd E)/\∃(x':Nat),x'<=za/\za-x'<za-E/\(zd E=(↑x':Int)/\zc E=jf (hx x' o) s/\True)/\zc E=jf (hx x' o) s/\zf))/\((decide ((↑E:Int)<(↑za:Int)))=false->gE (zc E)<=aI->za<=aI->(((↑(gE (zc E)):Int) == (↑za:Int))=true->True/\((o,()),())=zg/\(5,())=zh)/\(((↑(gE (zc E)):Int) == (↑za:Int))=false->True/\((zc E,()),())=zg/\(0,())=zh))) (by kernel_rfl) ?_
 dsimp -iota -proj -eta only;dsimp only at hp;refine⟨(⟨0,hF _,⟨rfl,rfl,dT⟩,rfl,dT⟩),fun E q_0 h0=>iL (fun h1=>⟨(by omega),⟨fun h2=>⟨?a,?b,fun h3 h4=>⟨?c,?d⟩⟩,fun h2 h3 h4=>⟨?e,?f⟩⟩⟩) (fun h1 h2 h3=>iQ (fun h4=>(by rw[hN (by omega)]at h4;rw[SS h4];exact⟨dT,rfl,rfl⟩)) (fun h4=>(by rw[hN (by omega)]at*;rw[SU h4];exact⟨dT,rfl,rfl⟩)))⟩
 case a=>
  simp only[bl,reduceCtorEq]at h2;omega
 case b=>
  simp only[bl,reduceCtorEq]at h2;refine⟨rfl,?_⟩;have h1:=V6 (o.take E) s;rw[hM]at h1;rw[hz];have:o.length<=1000000:=hp;omega
 case c|e=>
  simp only[bl,reduceCtorEq]at h2;simp only[aF,aI]at*;omega
 case d=>
  simp only[bl,reduceCtorEq]at h2;exact⟨E+1,by omega,by omega,⟨by omega,(FZ (by omega) h2).symm,dT⟩,(FZ (by omega) h2).symm,(by trivial)⟩
 case f=>
  simp only[bl,reduceCtorEq]at h2;exact⟨E+1,by omega,by omega,⟨by omega,(F0 (by omega) h2).symm,dT⟩,(F0 (by omega) h2).symm,(by trivial)⟩
def Tryz.aay:bY Tryz.prog Tryz.B.eT Tryz.X 19 false (aW Tryz.gw [.obj 0,.d .str] (fun _ x=>x.1.1.length<=1000000) Tryz.By):=
 aZ (B:=(jl Tryz.B [35])) (X:=Tryz.X) (bL.hint (l:=[35]) (bJ Tryz.bI)) Tryz.func19 (by kernel_rfl) (fun(a:CD [.obj 0,.d .str]) (x:PD Tryz.gw)=>Tryz.Nz a.1 x.1.1) (fun(a:CD [.obj 0,.d .str]) (x:PD Tryz.gw) hw hp=>aax a.1 x.1.1 hw hp)
def Tryz.Q0(s:List UInt8)(o:List (D aB)):cU:=[
 (0,fun st=>{X:=Nat,inv:=fun i=>i<=o.length/\∀j,j<i->(nth aB o j).1≠s,bF:=fun i=>o.length-i,aY:=fun i=>[(6,sI i)],keep:=[0,1,4]})]
def Tryz.En:List (Alt Tryz.gw [.obj 0,.d .str]):=[{bS:=Tryz.gw,res:=[.d aB,.d .bool],out:=fun _ x=>x,ret:=fun a x=>((dA x.1.1 a.1).1,(dA x.1.1 a.1).2,())}]
def aco(s:List UInt8)(o:List (D aB))(hw:fM [.obj 0,.d .str] (s,())):(cO Tryz.B [] Tryz.f57 (Tryz.Q0 s o) Tryz.gw [.obj 0,.d .str] Tryz.En (s,()) ((o,()),())).holds:=by
 refine holds_of (p:=
  let za:=gE o
  let zb:=fun(E:Nat)=>0<=(↑E:Int)/\(↑E:Int)<(↑za:Int)
  let zc:=((o,()),())
  let zd:=((dA o s).1,(dA o s).2,())
  let ze:=@hq (List UInt8×Int×Int×Unit)=@hq (List UInt8×Int×Int×Unit)
  let zf:=@hq (Int×Int×Int×Unit)=@hq (Int×Int×Int×Unit)
  (∃(x:Nat),(x<=za/\∀(j:Nat),j<x->(nth aB o j).1≠s)/\(0=(↑x:Int)/\True)/\True)/\∀E:Nat,(E<=za/\∀(j:Nat),j<E->(nth aB o j).1≠s)->za<=aI->((decide ((↑E:Int)<(↑za:Int)))=true->zb E/\(((nth aB o E).1 == s)=true->zb E/\True/\zc=zc/\(nth aB o E,true,())=zd)/\(((nth aB o E).1 == s)=false->aF (↑E:Int)->aF 1->aF ((↑E:Int)+1)/\∃(x':Nat),(x'<=za/\∀(j:Nat),j<x'->(nth aB o j).1≠s)/\za-x'<za-E/\((↑E:Int)+1=(↑x':Int)/\True)/\(@hq UInt8=@hq UInt8/\ze/\zf/\True)/\zf/\ze/\(o=o/\True)/\True))/\((decide ((↑E:Int)<(↑za:Int)))=false->True/\zc=zc/\(([],[],[],()),false,())=zd)) (by kernel_rfl) ?_
 dsimp -iota -proj -eta only;refine⟨(⟨0,⟨hF _,fun j hj=>absurd hj (hQ _)⟩,⟨rfl,dT⟩,dT⟩),fun E q_0 h0=>iL (fun h1=>⟨?a,iQ (fun h2=>⟨?b,?c⟩) (fun h2 h3 h4=>⟨(by simp only[aF,aI]at*;omega),(⟨E+1,⟨by omega,jD q_0.2 h2⟩,by omega,⟨by omega,dT⟩,(by trivial)⟩)⟩)⟩) (fun h1=>(by rw[FY (by rw[rr fun j hj=>q_0.2 j (by omega)];decide)];exact⟨dT,rfl,rfl⟩))⟩
 case a|b=>omega
 case c=>
  have hf:=rU (by omega) q_0.2 h2;rw[wT (by rw[hf];omega),hf];exact⟨dT,rfl,rfl⟩
def Tryz.acp:bY Tryz.prog Tryz.B.eT Tryz.X 57 false (aW Tryz.gw [.obj 0,.d .str] (fun _ _=>True) Tryz.En):=
 aZ (X:=Tryz.X) (bJ Tryz.bI) Tryz.func57 (by kernel_rfl) (fun(a:CD [.obj 0,.d .str]) (x:PD Tryz.gw)=>Tryz.Q0 a.1 x.1.1) (fun(a:CD [.obj 0,.d .str]) (x:PD Tryz.gw) hw hp=>aco a.1 x.1.1 hw)
def Tryz.Jv(o:List (D aB)):cU:=[
 (0,fun st=>{X:=Nat,inv:=fun i=>i<=o.length,bF:=fun i=>o.length-i,aY:=fun i=>[(4,sI i),(3,.s (.one (.app .str (dH (o.take i)) (aT st 3))))],aH:=fun i=>[(aT st 3,.tok .str (dH (o.take i)))],keep:=[0,2],eA:=[aT st 3]})]
def Tryz.yG:List (Alt Tryz.gw [.obj 0]):=[{bS:=Tryz.gw,res:=[.d (.slice .str)],out:=fun _ x=>x,ret:=fun _ x=>(dH x.1.1,())}]
def XB(o:List (D aB))(hw:fM [.obj 0] ())(hp:(fun _ x=>x.1.1.length<=1000000) () ((o,()),())):(cO (jl Tryz.B [24]) [] Tryz.f25 (Tryz.Jv o) Tryz.gw [.obj 0] Tryz.yG () ((o,()),())).holds:=by
 refine holds_of (p:=
  let za:=gE o
  let zb:=fun(E:Nat)=>dH (hx E o)
  let zc:=fun(E:Nat)=>zb E++[(nth aB o E).1]
  let zd:=((o,()),())
  (∃(x:Nat),x<=za/\(0=(↑x:Int)/\@hq (List UInt8)=dH (hx x o)/\True)/\@hq (List UInt8)=dH (hx x o)/\True)/\∀E:Nat,E<=za->za<=aI->((decide ((↑E:Int)<(↑za:Int)))=true->(0<=(↑E:Int)/\(↑E:Int)<(↑za:Int))/\(zb E=zb E/\gE (zb E)+gE [(nth aB o E).1]<=1000000000)/\(aF (↑E:Int)->aF 1->aF ((↑E:Int)+1)/\∃(x':Nat),x'<=za/\za-x'<za-E/\((↑E:Int)+1=(↑x':Int)/\zc E=dH (hx x' o)/\True)/\zc E=dH (hx x' o)/\@hq (List UInt8)=@hq (List UInt8)/\(o=o/\True)/\True))/\((decide ((↑E:Int)<(↑za:Int)))=false->True/\zd=zd/\(zb E,())=(dH o,()))) (by kernel_rfl) ?_
 dsimp -iota -proj -eta only;dsimp only at hp;refine⟨(⟨0,hF _,⟨rfl,rfl,dT⟩,rfl,dT⟩),fun E q_0 h0=>iL (fun h1=>⟨(by omega),?a,fun h2 h3=>⟨(by simp only[aF,aI]at*;omega),(⟨E+1,by omega,by omega,⟨by omega,sk (by omega),dT⟩,sk (by omega),(by trivial)⟩)⟩⟩) (fun h1=>(by rw[hN (by omega)];exact⟨dT,rfl,rfl⟩))⟩
 case a=>refine⟨rfl,?_⟩;rw[FX,hM,hz];have:o.length<=1000000:=hp;omega
def Tryz.XC:bY Tryz.prog Tryz.B.eT Tryz.X 25 false (aW Tryz.gw [.obj 0] (fun _ x=>x.1.1.length<=1000000) Tryz.yG):=
 aZ (B:=(jl Tryz.B [24])) (X:=Tryz.X) (bL.hint (l:=[24]) (bJ Tryz.bI)) Tryz.func25 (by kernel_rfl) (fun(a:CD [.obj 0]) (x:PD Tryz.gw)=>Tryz.Jv x.1.1) (fun(a:CD [.obj 0]) (x:PD Tryz.gw) hw hp=>XB x.1.1 hw hp)
@[reducible] def Tryz.bW:List Ob:=[.box 39 [.d (.slice dF),.d (.int .i64)]]
def NA(s:List UInt8)(f:RS):cU:=[(0,fun st=>{X:=Nat,inv:=fun i=>i<=f.1.length/\∀j,j<i->¬(nth dF f.1 j).1=s,bF:=fun i=>f.1.length-i,aY:=fun i=>[(7,sI i)],keep:=[0,1]})]
def Tryz.Bz:List (Alt Tryz.bW [.obj 0,.d .str]):=[{bS:=Tryz.bW,res:=[.d .str,.d (.int .i64),.d (.int .i64)],out:=fun _ x=>x,ret:=fun a x=>((bU x.1.1 a.1).1,(bU x.1.1 a.1).2.1,(bU x.1.1 a.1).2.2,())}]
def aaz(s:List UInt8)(f:RS)(hw:fM [.obj 0,.d .str] (s,())):(cO Tryz.B [] Tryz.f51 (NA s f) Tryz.bW [.obj 0,.d .str] Tryz.Bz (s,()) (f,())).holds:=by
 refine holds_of (p:=
  let za:=gE f.1
  let zb:=fun(E:Nat)=>(↑E:Int)<(↑(gE f.1):Int)
  let zc:=fun(E:Nat)=>0<=(↑E:Int)/\zb E
  let zd:=(f,())=(f,())
  let ze:=bU f.1 s
  let zf:=(ze.1,ze.2.1,ze.2.2,())
  (∃(x:Nat),(x<=za/\∀(j:Nat),j<x->¬(nth dF f.1 j).1=s)/\(0=(↑x:Int)/\True)/\True)/\∀E:Nat,(E<=za/\∀(j:Nat),j<E->¬(nth dF f.1 j).1=s)->gE f.1<=aI->((decide (zb E))=true->zc E/\(((nth dF f.1 E).1 == s)=true->zc E/\zc E/\True/\zd/\((nth dF f.1 E).2.1,(nth dF f.1 E).2.2.1,0,())=zf)/\(((nth dF f.1 E).1 == s)=false->aF (↑E:Int)->aF 1->aF ((↑E:Int)+1)/\∃(x':Nat),(x'<=za/\∀(j:Nat),j<x'->¬(nth dF f.1 j).1=s)/\za-x'<za-E/\((↑E:Int)+1=(↑x':Int)/\True)/\(f.1=f.1/\f.2.1=f.2.1/\True)/\True))/\((decide (zb E))=false->True/\zd/\([],0,5,())=zf)) (by kernel_rfl) ?_
 dsimp -iota -proj -eta only;refine⟨(⟨0,⟨by omega,fun j hj=>by omega⟩,⟨rfl,dT⟩,dT⟩),fun E q_0 h0=>iL (fun h1=>⟨?a,iQ (fun h2=>⟨?b,?c,(by rw[Lr q_0.2 (by omega) h2];exact⟨dT,rfl,rfl⟩)⟩) (fun h2 h3 h4=>⟨(by simp only[aF,aI]at*;omega),(⟨E+1,⟨by omega,Am q_0.2 h2⟩,by omega,⟨by omega,dT⟩,(by trivial)⟩)⟩)⟩) (fun h1=>(by rw[UZ fun j hj=>q_0.2 j (by omega)];exact⟨dT,rfl,rfl⟩))⟩
 case a|b|c=>omega
def Tryz.yH:bY Tryz.prog Tryz.B.eT Tryz.X 51 false (aW Tryz.bW [.obj 0,.d .str] (fun _ _=>True) Tryz.Bz):=
 aZ (X:=Tryz.X) (bJ Tryz.bI) Tryz.func51 (by kernel_rfl) (fun(a:CD [.obj 0,.d .str]) (x:PD Tryz.bW)=>NA a.1 x.1) (fun(a:CD [.obj 0,.d .str]) (x:PD Tryz.bW) hw hp=>aaz a.1 x.1 hw)
def Tryz.spZ35:Bool×aX:=(false,aW Tryz.bW [.obj 0,.d .str] (fun _ _=>True) Tryz.Bz)
def Tryz.NB:List (FuncId×(Bool×aX)):=[(49,Tryz.spZ0),(50,Tryz.spZ1),(156,Tryz.spZ2),(83,Tryz.spZ3),(11,Tryz.spZ4),(51,Tryz.spZ35)]
def Tryz.TQ:bL Tryz.prog Tryz.B Tryz.X Tryz.NB:=
 aM (aE Tryz.js) (aM (aE Tryz.fI) (aM (aE Tryz.kE) (aM (aE Tryz.jt) (aM (aE Tryz.kG) (aM (Tryz.yH) (bJ Tryz.bI))))))
def Jw(s:List UInt8)(t:List UInt8)(f:RS):cU:=[(0,fun st=>{X:=Nat×Bool×List (D dF),inv:=fun x=>x.1<=f.1.length/\dJ f.1 s (s,t,f.2.1+1,()) x.1 x.2.1 x.2.2,bF:=fun x=>f.1.length-x.1,aY:=fun x=>[(13,sI x.1),(12,sB x.2.1),(11,.s (.one (.app dF x.2.2 (aT st 11))))],aH:=fun x=>[(aT st 11,.tok dF x.2.2)],keep:=[0,1,2,6],eA:=[aT st 11]})]
def Tryz.yI:List (Alt Tryz.bW [.obj 0,.d .str,.d .str]):=[{bS:=Tryz.bW,res:=[.d (.int .i64)],out:=fun a x=>((jk x.1 a.1 a.2.1).1,()),ret:=fun a x=>((jk x.1 a.1 a.2.1).2,())}]
def XD(s:List UInt8)(t:List UInt8)(f:RS)(hw:fM [.obj 0,.d .str,.d .str] (s,t,()))(hp:(fun _ x=>x.1.1.length<=6/\0<=x.1.2.1/\x.1.2.1<=1000000) (s,t,()) (f,())):(cO Tryz.B Tryz.NB Tryz.f13 (Jw s t f) Tryz.bW [.obj 0,.d .str,.d .str] Tryz.yI (s,t,()) (f,())).holds:=by
 refine holds_of (p:=
  let za:=jk f s t
  let zb:=(za.1,())
  let zc:=(f,())=zb
  let zd:=(za.2,())
  let ze:=gE f.1<=aI
  let zf:=(↑(gE f.1):Int)
  let zg:=True/\zc/\(8,())=zd
  let zh:=aF 1
  let zi:=f.2.1+1
  let zj:=Nat×Bool×List (List UInt8×List UInt8×Int×Unit)
  let zk:=gE f.1
  let zl:=(s,t,f.2.1+1,())
  let zm:=fun(E:Nat×Bool×List (List UInt8×List UInt8×Int×Unit))=>0<=(↑E.1:Int)/\(↑E.1:Int)<zf
  let zn:=fun(E:Nat×Bool×List (List UInt8×List UInt8×Int×Unit))=>(nth dF f.1 E.1).1
  let zo:=(zi,())
  let zp:=[(s,t,zo)]
  let zq:=fun(E:Nat×Bool×List (List UInt8×List UInt8×Int×Unit))=>E.2.2=E.2.2/\gE E.2.2+gE zp<=1000000000
  let zr:=fun(E:Nat×Bool×List (List UInt8×List UInt8×Int×Unit))=>E.2.2++zp
  let zs:=fun(E:Nat×Bool×List (List UInt8×List UInt8×Int×Unit))=>[nth dF f.1 E.1]
  let zt:=fun(E:Nat×Bool×List (List UInt8×List UInt8×Int×Unit))=>aF (↑E.1:Int)
  let zu:=fun(E:Nat×Bool×List (List UInt8×List UInt8×Int×Unit))=>(↑E.1:Int)+1
  let zv:=(f.1=f.1/\zi=zi/\True)/\True
  let zw:=fun(E:Nat×Bool×List (List UInt8×List UInt8×Int×Unit))=>zm E/\((!zn E == s)=true->zm E/\(E.2.2=E.2.2/\gE E.2.2+gE (zs E)<=1000000000)/\(zt E->zh->aF (zu E)/\∃(x':zj),(hg x'<=zk/\dJ f.1 s zl (hg x') (gN x').1 (gN x').2)/\zk-hg x'<zk-E.1/\(zu E=(↑(hg x'):Int)/\E.2.1=(gN x').1/\E.2.2++zs E=(gN x').2/\True)/\E.2.2++zs E=(gN x').2/\zv))/\((!zn E == s)=false->zt E->zh->aF (zu E)/\∃(x':zj),(hg x'<=zk/\dJ f.1 s zl (hg x') (gN x').1 (gN x').2)/\zk-hg x'<zk-E.1/\(zu E=(↑(hg x'):Int)/\E.2.1=(gN x').1/\E.2.2=(gN x').2/\True)/\E.2.2=(gN x').2/\zv)
  let zx:=(0,())=zd
  let zy:=((f.2.1 == 1000000)=true->zg)/\((f.2.1 == 1000000)=false->aF f.2.1->zh->aF zi/\(∃(x:zj),(hg x<=zk/\dJ f.1 s zl (hg x) (gN x).1 (gN x).2)/\(0=(↑(hg x):Int)/\false=(gN x).1/\@hq (List UInt8×List UInt8×Int×Unit)=(gN x).2/\True)/\@hq (List UInt8×List UInt8×Int×Unit)=(gN x).2/\True)/\∀E:Nat×Bool×List (List UInt8×List UInt8×Int×Unit),E.1<=zk/\dJ f.1 s zl E.1 E.2.1 E.2.2->ze->((decide ((↑E.1:Int)<zf))=true->((!E.2.1)=true->zm E/\((Op.bytesLess s (zn E) || s == zn E)=true->zq E/\zm E/\((!zn E == s)=true->zm E/\(zr E=zr E/\gE (zr E)+gE (zs E)<=1000000000)/\(zt E->zh->aF (zu E)/\∃(x':zj),(hg x'<=zk/\dJ f.1 s zl (hg x') (gN x').1 (gN x').2)/\zk-hg x'<zk-E.1/\(zu E=(↑(hg x'):Int)/\true=(gN x').1/\zr E++zs E=(gN x').2/\True)/\zr E++zs E=(gN x').2/\zv))/\((!zn E == s)=false->zt E->zh->aF (zu E)/\∃(x':zj),(hg x'<=zk/\dJ f.1 s zl (hg x') (gN x').1 (gN x').2)/\zk-hg x'<zk-E.1/\(zu E=(↑(hg x'):Int)/\true=(gN x').1/\zr E=(gN x').2/\True)/\zr E=(gN x').2/\zv))/\((Op.bytesLess s (zn E) || s == zn E)=false->zw E))/\((!E.2.1)=false->zw E))/\((decide ((↑E.1:Int)<zf))=false->((!E.2.1)=true->zq E/\True/\((zr E,zo),())=zb/\zx)/\((!E.2.1)=false->True/\((E.2.2,zo),())=zb/\zx)))
  True/\((decide (aJ s > 0))=true->True/\zc/\(aJ s,())=zd)/\((decide (aJ s > 0))=false->gE t<=aI->((decide ((↑(gE t):Int) > 1200))=true->True/\zc/\(2,())=zd)/\((decide ((↑(gE t):Int) > 1200))=false->True/\(True->((decide ((bU f.1 s).2.2 > 0))=true->ze->((zf == 6)=true->zg)/\((zf == 6)=false->zy))/\((decide ((bU f.1 s).2.2 > 0))=false->zy))))) (by kernel_rfl) ?_
 dsimp -iota -proj -eta only;dsimp only at hp;refine⟨dT,iL (fun h0=>(by rw[Og (by omega)];exact⟨dT,rfl,rfl⟩)) (fun h0 h1=>iL (fun h2 =>?a) (fun h2=>⟨dT,fun h3=>iL (fun h4 h5=>iQ (fun h6 =>?b) (fun h6=>iQ (fun h7 =>?c) (fun h7 h8 h9=>⟨?d,?e,fun E q_0 h10=>iL (fun h11=>iB (fun h12=>⟨?f,⟨fun h13=>⟨?g,?h,⟨fun h14=>⟨?i,?j,fun h15 h16=>⟨?k,?l⟩⟩,fun h14 h15 h16=>⟨?m,?n⟩⟩⟩,fun h13=>⟨?o,⟨fun h14=>⟨?p,?q,fun h15 h16=>⟨?r,?s⟩⟩,fun h14 h15 h16=>⟨?t,?u⟩⟩⟩⟩⟩) (fun h12=>⟨?v,⟨fun h13=>⟨?w,?x,fun h14 h15=>⟨?y,?z⟩⟩,fun h13 h14 h15=>⟨?a0,?a1⟩⟩⟩)) (fun h11=>iB (fun h12=>⟨?a2,?a3⟩) (fun h12 =>?a4))⟩))) (fun h4=>iQ (fun h5 =>?a5) (fun h5 h6 h7=>⟨?a6,?a7,fun E q_0 h8=>iL (fun h9=>iB (fun h10=>⟨?a8,⟨fun h11=>⟨?a9,?aa,⟨fun h12=>⟨?ab,?ac,fun h13 h14=>⟨?ad,?ae⟩⟩,fun h12 h13 h14=>⟨?af,?ag⟩⟩⟩,fun h11=>⟨?ah,⟨fun h12=>⟨?ai,?aj,fun h13 h14=>⟨?ak,?al⟩⟩,fun h12 h13 h14=>⟨?am,?an⟩⟩⟩⟩⟩) (fun h10=>⟨?ao,⟨fun h11=>⟨?ap,?aq,fun h12 h13=>⟨?ar,?au⟩⟩,fun h11 h12 h13=>⟨?av,?aw⟩⟩⟩)) (fun h9=>iB (fun h10=>⟨?ax,?ay⟩) (fun h10 =>?az))⟩))⟩))⟩
 case a=>
  have hnn:=cQ s;have hn0:aJ s=0:=(by omega);rw[Oh hn0 (by omega)];exact⟨dT,rfl,rfl⟩
 case b|c|a5=>
  have hnn:=cQ s;have hn0:aJ s=0:=(by omega);rw[Oi hn0 (by omega) (by omega)];exact⟨dT,rfl,rfl⟩
 case d|a6=>simp only[aF,aI]at*;omega
 case e|a7=>exact⟨(0,false,[]),⟨by omega,dJ.start _ _ _⟩,⟨rfl,rfl,rfl,dT⟩,rfl,dT⟩
 case f|v|a8|ao=>omega
 case g|x=>
  simp only[bl,reduceCtorEq]at h13;have:=q_0.2.2.2.1;exact⟨rfl,by simp only[hz];omega⟩
 case h|o|w=>
  simp only[bl,reduceCtorEq]at h13;omega
 case i|p=>
  simp only[bl,reduceCtorEq]at h13 h14;omega
 case j=>
  simp only[bl,reduceCtorEq]at h13 h14;have:=q_0.2.2.2.1;exact⟨rfl,by simp only[hE,hz];omega⟩
 case k|m|r|t=>
  simp only[bl,reduceCtorEq]at h13 h14;simp only[aF,aI]at*;omega
 case l=>
  simp only[bl,reduceCtorEq]at h13 h14;have hl:E.2.1=false:=‹_›;have hv:dJ f.1 s (s,t,f.2.1+1,()) E.1 false E.2.2:=(by have:=q_0.2;rwa [hl]at this);exact⟨(E.1+1,true,_),⟨by omega,hv.put (by omega) (by simp_all) ‹_›⟩,by simp only;omega,⟨by simp only;omega,rfl,rfl,dT⟩,rfl,(by trivial)⟩
 case n=>
  simp only[bl,reduceCtorEq]at h13 h14;have hl:E.2.1=false:=‹_›;have hv:dJ f.1 s (s,t,f.2.1+1,()) E.1 false E.2.2:=(by have:=q_0.2;rwa [hl]at this);exact⟨(E.1+1,true,_),⟨by omega,hv.P5 (by omega) (by simp_all) ‹_›⟩,by simp only;omega,⟨by simp only;omega,rfl,rfl,dT⟩,rfl,(by trivial)⟩
 case q=>
  simp only[bl,reduceCtorEq]at h13 h14;have:=q_0.2.2.2.1;exact⟨rfl,by simp only[hz];omega⟩
 case s=>
  simp only[bl,reduceCtorEq]at h13 h14;have hl:E.2.1=false:=‹_›;have hv:dJ f.1 s (s,t,f.2.1+1,()) E.1 false E.2.2:=(by have:=q_0.2;rwa [hl]at this);exact⟨(E.1+1,false,_),⟨by omega,hv.low (by omega) (by simp_all)⟩,by simp only;omega,⟨by simp only;omega,hl,rfl,dT⟩,rfl,(by trivial)⟩
 case u=>
  simp only[bl,reduceCtorEq]at h13 h14;simp_all
 case y|a0=>
  simp only[bl,reduceCtorEq]at h13;simp only[aF,aI]at*;omega
 case z=>
  simp only[bl,reduceCtorEq]at h13;have hl:E.2.1=true:=‹_›;have hv:dJ f.1 s (s,t,f.2.1+1,()) E.1 true E.2.2:=(by have:=q_0.2;rwa [hl]at this);exact⟨(E.1+1,true,_),⟨by omega,hv.high (by omega) ‹_›⟩,by simp only;omega,⟨by simp only;omega,hl,rfl,dT⟩,rfl,(by trivial)⟩
 case a1=>
  simp only[bl,reduceCtorEq]at h13;have hl:E.2.1=true:=‹_›;have hv:dJ f.1 s (s,t,f.2.1+1,()) E.1 true E.2.2:=(by have:=q_0.2;rwa [hl]at this);exact⟨(E.1+1,true,_),⟨by omega,hv.skip (by omega) ‹_›⟩,by simp only;omega,⟨by simp only;omega,hl,rfl,dT⟩,rfl,(by trivial)⟩
 case a2|ax=>have:=q_0.2.2.2.1;exact⟨rfl,by simp only[hz];omega⟩
 case a3|ay=>
  have hl:E.2.1=false:=‹_›;have hv:dJ f.1 s (s,t,f.2.1+1,()) E.1 false E.2.2:=(by have:=q_0.2;rwa [hl]at this);have hnn:=cQ s;have hn0:aJ s=0:=(by omega);rw[HV hn0 (by omega) (by omega),<-hv.last (by omega)];exact⟨dT,rfl,rfl⟩
 case a4|az=>
  have hl:E.2.1=true:=‹_›;have hv:dJ f.1 s (s,t,f.2.1+1,()) E.1 true E.2.2:=(by have:=q_0.2;rwa [hl]at this);have hnn:=cQ s;have hn0:aJ s=0:=(by omega);rw[HV hn0 (by omega) (by omega),<-hv.all (by omega)];exact⟨dT,rfl,rfl⟩
 case a9|aq=>
  simp only[bl,reduceCtorEq]at h11;have:=q_0.2.2.2.1;exact⟨rfl,by simp only[hz];omega⟩
 case aa|ah|ap=>
  simp only[bl,reduceCtorEq]at h11;omega
 case ab|ai=>
  simp only[bl,reduceCtorEq]at h11 h12;omega
 case ac=>
  simp only[bl,reduceCtorEq]at h11 h12;have:=q_0.2.2.2.1;exact⟨rfl,by simp only[hE,hz];omega⟩
 case ad|af|ak|am=>
  simp only[bl,reduceCtorEq]at h11 h12;simp only[aF,aI]at*;omega
 case ae=>
  simp only[bl,reduceCtorEq]at h11 h12;have hl:E.2.1=false:=‹_›;have hv:dJ f.1 s (s,t,f.2.1+1,()) E.1 false E.2.2:=(by have:=q_0.2;rwa [hl]at this);exact⟨(E.1+1,true,_),⟨by omega,hv.put (by omega) (by simp_all) ‹_›⟩,by simp only;omega,⟨by simp only;omega,rfl,rfl,dT⟩,rfl,(by trivial)⟩
 case ag=>
  simp only[bl,reduceCtorEq]at h11 h12;have hl:E.2.1=false:=‹_›;have hv:dJ f.1 s (s,t,f.2.1+1,()) E.1 false E.2.2:=(by have:=q_0.2;rwa [hl]at this);exact⟨(E.1+1,true,_),⟨by omega,hv.P5 (by omega) (by simp_all) ‹_›⟩,by simp only;omega,⟨by simp only;omega,rfl,rfl,dT⟩,rfl,(by trivial)⟩
 case aj=>
  simp only[bl,reduceCtorEq]at h11 h12;have:=q_0.2.2.2.1;exact⟨rfl,by simp only[hz];omega⟩
 case al=>
  simp only[bl,reduceCtorEq]at h11 h12;have hl:E.2.1=false:=‹_›;have hv:dJ f.1 s (s,t,f.2.1+1,()) E.1 false E.2.2:=(by have:=q_0.2;rwa [hl]at this);exact⟨(E.1+1,false,_),⟨by omega,hv.low (by omega) (by simp_all)⟩,by simp only;omega,⟨by simp only;omega,hl,rfl,dT⟩,rfl,(by trivial)⟩
 case an=>
  simp only[bl,reduceCtorEq]at h11 h12;simp_all
 case ar|av=>
  simp only[bl,reduceCtorEq]at h11;simp only[aF,aI]at*;omega
 case au=>
  simp only[bl,reduceCtorEq]at h11;have hl:E.2.1=true:=‹_›;have hv:dJ f.1 s (s,t,f.2.1+1,()) E.1 true E.2.2:=(by have:=q_0.2;rwa [hl]at this);exact⟨(E.1+1,true,_),⟨by omega,hv.high (by omega) ‹_›⟩,by simp only;omega,⟨by simp only;omega,hl,rfl,dT⟩,rfl,(by trivial)⟩
 case aw=>
  simp only[bl,reduceCtorEq]at h11;have hl:E.2.1=true:=‹_›;have hv:dJ f.1 s (s,t,f.2.1+1,()) E.1 true E.2.2:=(by have:=q_0.2;rwa [hl]at this);exact⟨(E.1+1,true,_),⟨by omega,hv.skip (by omega) ‹_›⟩,by simp only;omega,⟨by simp only;omega,hl,rfl,dT⟩,rfl,(by trivial)⟩
def Tryz.XE:bY Tryz.prog Tryz.B.eT Tryz.X 13 false (aW Tryz.bW [.obj 0,.d .str,.d .str] (fun _ x=>x.1.1.length<=6/\0<=x.1.2.1/\x.1.2.1<=1000000) Tryz.yI):=
 aZ (X:=Tryz.X) Tryz.TQ Tryz.func13 (by kernel_rfl) (fun(a:CD [.obj 0,.d .str,.d .str]) (x:PD Tryz.bW)=>Jw a.1 a.2.1 x.1) (fun(a:CD [.obj 0,.d .str,.d .str]) (x:PD Tryz.bW) hw hp=>XD a.1 a.2.1 x.1 hw hp)
def Gk(s:List UInt8)(f:RS):cU:=[(0,fun st=>{X:=Nat×List (D dF),inv:=fun x=>x.1<=f.1.length/\x.2++(f.1.drop x.1).filter (ic s)=f.1.filter (ic s)/\x.2.length<=x.1,bF:=fun x=>f.1.length-x.1,aY:=fun x=>[(6,sI x.1),(5,.s (.one (.app dF x.2 (aT st 5))))],aH:=fun x=>[(aT st 5,.tok dF x.2)],keep:=[0,1,4],eA:=[aT st 5]})]
def Tryz.wa:List (Alt Tryz.bW [.obj 0,.d .str]):=[{bS:=Tryz.bW,res:=[.d (.int .i64)],out:=fun a x=>((jg x.1 a.1).1,()),ret:=fun a x=>((jg x.1 a.1).2,())}]
def TR(s:List UInt8)(f:RS)(hw:fM [.obj 0,.d .str] (s,()))(hp:(fun _ x=>x.1.1.length<=6) (s,()) (f,())):(cO Tryz.B [] Tryz.f15 (Gk s f) Tryz.bW [.obj 0,.d .str] Tryz.wa (s,()) (f,())).holds:=by
 refine holds_of (p:=
  let za:=Nat×List (List UInt8×List UInt8×Int×Unit)
  let zb:=gE f.1
  let zc:=ic s
  let zd:=hX zc f.1
  let ze:=gE f.1<=aI
  let zf:=(↑(gE f.1):Int)
  let zg:=fun(E:Nat×List (List UInt8×List UInt8×Int×Unit))=>0<=(↑E.1:Int)/\(↑E.1:Int)<zf
  let zh:=fun(E:Nat×List (List UInt8×List UInt8×Int×Unit))=>(↑E.1:Int)+1
  let zi:=fun(E:Nat×List (List UInt8×List UInt8×Int×Unit))=>E.2++[nth dF f.1 E.1]
  let zj:=(f.1=f.1/\f.2.1=f.2.1/\True)/\True
  let zk:=((jg f s).1,())
  let zl:=((jg f s).2,())
  (∃(x:za),(hg x<=zb/\gN x++hX zc (hB (hg x) f.1)=zd/\gE (gN x)<=hg x)/\(0=(↑(hg x):Int)/\@hq (List UInt8×List UInt8×Int×Unit)=gN x/\True)/\@hq (List UInt8×List UInt8×Int×Unit)=gN x/\True)/\∀E:Nat×List (List UInt8×List UInt8×Int×Unit),E.1<=zb/\E.2++hX zc (hB E.1 f.1)=zd/\gE E.2<=E.1->ze->((decide ((↑E.1:Int)<zf))=true->zg E/\((!(nth dF f.1 E.1).1 == s)=true->zg E/\(E.2=E.2/\gE E.2+gE [nth dF f.1 E.1]<=1000000000)/\(aF (↑E.1:Int)->aF 1->aF (zh E)/\∃(x':za),(hg x'<=zb/\gN x'++hX zc (hB (hg x') f.1)=zd/\gE (gN x')<=hg x')/\zb-hg x'<zb-E.1/\(zh E=(↑(hg x'):Int)/\zi E=gN x'/\True)/\zi E=gN x'/\zj))/\((!(nth dF f.1 E.1).1 == s)=false->aF (↑E.1:Int)->aF 1->aF (zh E)/\∃(x':za),(hg x'<=zb/\gN x'++hX zc (hB (hg x') f.1)=zd/\gE (gN x')<=hg x')/\zb-hg x'<zb-E.1/\(zh E=(↑(hg x'):Int)/\E.2=gN x'/\True)/\E.2=gN x'/\zj))/\((decide ((↑E.1:Int)<zf))=false->gE E.2<=aI->ze->(((↑(gE E.2):Int) == zf)=true->True/\(f,())=zk/\(5,())=zl)/\(((↑(gE E.2):Int) == zf)=false->True/\((E.2,f.2),())=zk/\(0,())=zl))) (by kernel_rfl) ?_
 dsimp -iota -proj -eta only;dsimp only at hp;refine⟨(⟨(0,[]),⟨by omega,rfl,by simp⟩,⟨rfl,rfl,dT⟩,rfl,dT⟩),fun E q_0 h0=>iL (fun h1=>⟨(by omega),⟨fun h2=>⟨?a,?b,fun h3 h4=>⟨?c,?d⟩⟩,fun h2 h3 h4=>⟨?e,?f⟩⟩⟩) (fun h1 h2 h3=>iQ (fun h4=>(by have he:=Ls q_0.2.1 (by omega);rw[RV (by rw[<-he];omega)];exact⟨dT,rfl,rfl⟩)) (fun h4=>(by have he:=Ls q_0.2.1 (by omega);rw[Oj (by rw[<-he];omega),<-he];exact⟨dT,rfl,rfl⟩)))⟩
 case a=>
  simp only[bl,reduceCtorEq]at h2;omega
 case b=>
  simp only[bl,reduceCtorEq]at h2;have:=q_0.2.2;exact⟨rfl,by simp only[hz];omega⟩
 case c|e=>
  simp only[bl,reduceCtorEq]at h2;simp only[aF,aI]at*;omega
 case d=>
  simp only[bl,reduceCtorEq]at h2;exact⟨(E.1+1,_),⟨by omega,U0 q_0.2.1 (by omega) h2,by simp only[hE,hz];omega⟩,by simp only;omega,⟨by simp only;omega,rfl,dT⟩,rfl,(by trivial)⟩
 case f=>
  simp only[bl,reduceCtorEq]at h2;exact⟨(E.1+1,E.2),⟨by omega,U1 q_0.2.1 (by omega) h2,by simp only;omega⟩,by simp only;omega,⟨by simp only;omega,rfl,dT⟩,rfl,(by trivial)⟩
def Tryz.TS:bY Tryz.prog Tryz.B.eT Tryz.X 15 false (aW Tryz.bW [.obj 0,.d .str] (fun _ x=>x.1.1.length<=6) Tryz.wa):=
 aZ (X:=Tryz.X) (bJ Tryz.bI) Tryz.func15 (by kernel_rfl) (fun(a:CD [.obj 0,.d .str]) (x:PD Tryz.bW)=>Gk a.1 x.1) (fun(a:CD [.obj 0,.d .str]) (x:PD Tryz.bW) hw hp=>TR a.1 x.1 hw hp)
def Tryz.Jy:List (FuncId×(Bool×aX)):=[(62,Tryz.spZ5)]
def Tryz.Pq:bL Tryz.prog Tryz.B Tryz.X Tryz.Jy:=
 aM (aE Tryz.TN) (bJ Tryz.bI)
def Jz(o:D aA):cU:=[
 (0,fun st=>{X:=Nat,inv:=fun i=>i<=o.1.length,bF:=fun i=>o.1.length-i,aY:=fun i=>[(5,sI i),(4,sS (lY o i))],keep:=[1,2,3]}),
 (2,fun st=>{X:=Nat,inv:=fun i=>i<=o.2.1.length,bF:=fun i=>o.2.1.length-i,aY:=fun i=>[(6,sI i),(4,sS (lh o i))],keep:=[1,2,3]}),
 (4,fun st=>{X:=Nat,inv:=fun i=>i<=o.2.2.1.length,bF:=fun i=>o.2.2.1.length-i,aY:=fun i=>[(7,sI i),(4,sS (jq o i))],keep:=[1,2,3]}),
 (6,fun st=>{X:=Nat,inv:=fun i=>i<=o.2.2.2.1.length,bF:=fun i=>o.2.2.2.1.length-i,aY:=fun i=>[(9,sI i),(4,sS (fF o i))],keep:=[1,2,3,8]})]
def XF(o:D aA)(hw:eD [aA] o)(hp:(fun o=>cK o=0) o):(cL Tryz.B Tryz.Jy Tryz.f117 (Jz o) [aA] [.str,.int .i64] (fun x y=>y=(fun o=>mE o) x) o).holds:=by
 refine holds_of (p:=
  let za:=gE o.1
  let zb:=fun(E:Nat)=>(↑E:Int)
  let zc:=[110,101,101,100,32]
  let zd:=fun(E:Nat)=>0<=zb E
  let ze:=fun(E:Nat)=>lY o E++zc++nth Ty.str o.1 E
  let zf:=[10]
  let zg:=gE zf
  let zh:=fun(E:Nat)=>aF (zb E)
  let zi:=aF 1
  let zj:=fun(E:Nat)=>zb E+1
  let zk:=fun(E:Nat)=>aF (zj E)
  let zl:=o.2.1
  let zm:=o.2.2.1
  let zn:=o.2.2.2.1
  let zo:=(o.1=o.1/\zl=zl/\zm=zm/\zn=zn/\True)/\True
  let zp:=gE zl
  let zq:=[119,111,114,100,32]
  let zr:=fun(F:Nat)=>lh o F++zq++hI (nth (Ty.int hD) zl F)
  let zs:=gE zm
  let zt:=fun(G:Nat)=>zd G/\zb G<(↑zs:Int)
  let zu:=[119,101,97,107,32]
  let zv:=[115,121,109,98,111,108,32]
  let zw:=fun(G:Nat)=>jq o G++zu++zv
  let zx:=fun(G:Nat)=>(nth aP zm G).1
  let zy:=[32]
  let zz:=gE zy
  let zaa:=fun(G:Nat)=>hI (nth aP zm G).2.1
  let zab:=fun(G:Nat)=>zw G++zx G++zy++zaa G
  let zac:=fun(G:Nat)=>jq o G++zv++zx G
  let zad:=gE zn
  let zae:=fun(I:Nat)=>gE (fF o I)
  let zaf:=fun(I:Nat)=>(nth aQ zn I).2.1
  let zag:=[@hq UInt8,[98,97,115,101],[119,104,111,108,101],[110,101,97,114]]
  let zah:=fun(I:Nat)=>0<=zaf I/\zaf I<(↑(gE zag):Int)
  let zai:=fun(I:Nat)=>nth Ty.str zag (hA (zaf I))
  let zaj:=fun(I:Nat)=>fF o I++zu++zai I
  let zak:=fun(I:Nat)=>hI (nth aQ zn I).1
  let zal:=fun(I:Nat)=>zaj I++zy++zak I++zy
  let zam:=fun(I:Nat)=>hI (nth aQ zn I).2.2.1
  let zan:=fun(I:Nat)=>zal I++zam I
  let zao:=fun(I:Nat)=>(nth aQ zn I).2.2.2.1
  let zap:=fun(I:Nat)=>fF o I++zai I++zy
  let zaq:=fun(I:Nat)=>zap I++zak I++zy++zam I
  (∃(x:Nat),x<=za/\(0=(↑x:Int)/\@hq UInt8=lY o x/\True)/\True)/\∀E:Nat,E<=za->za<=aI->((decide (zb E<(↑za:Int)))=true->gE (lY o E)+gE zc<=aI/\(zd E/\zb E<(↑za:Int))/\gE (lY o E++zc)+gE (nth Ty.str o.1 E)<=aI/\gE (ze E)+zg<=aI/\(zh E->zi->zk E/\∃(x':Nat),x'<=za/\za-x'<za-E/\(zj E=(↑x':Int)/\ze E++zf=lY o x'/\True)/\zo))/\((decide (zb E<(↑za:Int)))=false->(∃(x:Nat),x<=zp/\(0=(↑x:Int)/\lY o E=lh o x/\True)/\True)/\∀F:Nat,F<=zp->zp<=aI->((decide (zb F<(↑zp:Int)))=true->gE (lh o F)+gE zq<=aI/\(zd F/\zb F<(↑zp:Int))/\True/\gE (lh o F++zq)+gE (hI (nth (Ty.int hD) zl F))<=aI/\gE (zr F)+zg<=aI/\(zh F->zi->zk F/\∃(x':Nat),x'<=zp/\zp-x'<zp-F/\(zj F=(↑x':Int)/\zr F++zf=lh o x'/\True)/\zo))/\((decide (zb F<(↑zp:Int)))=false->(∃(x:Nat),x<=zs/\(0=(↑x:Int)/\lh o F=jq o x/\True)/\True)/\∀G:Nat,G<=zs->zs<=aI->((decide (zb G<(↑zs:Int)))=true->zt G/\(((nth aP zm G).2.2.1)=true->gE (jq o G)+gE zu<=aI/\gE (jq o G++zu)+gE zv<=aI/\zt G/\gE (zw G)+gE (zx G)<=aI/\gE (zw G++zx G)+zz<=aI/\zt G/\True/\gE (zw G++zx G++zy)+gE (zaa G)<=aI/\gE (zab G)+zg<=aI/\(zh G->zi->zk G/\∃(x':Nat),x'<=zs/\zs-x'<zs-G/\(zj G=(↑x':Int)/\zab G++zf=jq o x'/\True)/\zo))/\(((nth aP zm G).2.2.1)=false->gE (jq o G)+gE zv<=aI/\zt G/\gE (jq o G++zv)+gE (zx G)<=aI/\gE (zac G)+zz<=aI/\zt G/\True/\gE (zac G++zy)+gE (zaa G)<=aI/\gE (zac G++zy++zaa G)+zg<=aI/\(zh G->zi->zk G/\∃(x':Nat),x'<=zs/\zs-x'<zs-G/\(zj G=(↑x':Int)/\zac G++zy++zaa G++zf=jq o x'/\True)/\zo)))/\((decide (zb G<(↑zs:Int)))=false->(∃(x:Nat),x<=zad/\(0=(↑x:Int)/\jq o G=fF o x/\True)/\True)/\∀I:Nat,I<=zad->zad<=aI->((decide (zb I<(↑zad:Int)))=true->(zd I/\zb I<(↑zad:Int))/\(((nth aQ zn I).2.2.2.2.1)=true->zae I+gE zu<=aI/\zah I/\gE (fF o I++zu)+gE (zai I)<=aI/\gE (zaj I)+zz<=aI/\True/\gE (zaj I++zy)+gE (zak I)<=aI/\gE (zaj I++zy++zak I)+zz<=aI/\True/\gE (zal I)+gE (zam I)<=aI/\((decide (zaf I > 1))=true->gE (zan I)+zz<=aI/\gE (zan I++zy)+gE (zao I)<=aI/\gE (zan I++zy++zao I)+zg<=aI/\(zh I->zi->zk I/\∃(x':Nat),x'<=zad/\zad-x'<zad-I/\(zj I=(↑x':Int)/\zan I++zy++zao I++zf=fF o x'/\True)/\zo))/\((decide (zaf I > 1))=false->gE (zan I)+zg<=aI/\(zh I->zi->zk I/\∃(x':Nat),x'<=zad/\zad-x'<zad-I/\(zj I=(↑x':Int)/\zan I++zf=fF o x'/\True)/\zo)))/\(((nth aQ zn I).2.2.2.2.1)=false->zah I/\zae I+gE (zai I)<=aI/\gE (fF o I++zai I)+zz<=aI/\True/\gE (zap I)+gE (zak I)<=aI/\gE (zap I++zak I)+zz<=aI/\True/\gE (zap I++zak I++zy)+gE (zam I)<=aI/\((decide (zaf I > 1))=true->gE (zaq I)+zz<=aI/\gE (zaq I++zy)+gE (zao I)<=aI/\gE (zaq I++zy++zao I)+zg<=aI/\(zh I->zi->zk I/\∃(x':Nat),x'<=zad/\zad-x'<zad-I/\(zj I=(↑x':Int)/\zaq I++zy++zao I++zf=fF o x'/\True)/\zo))/\((decide (zaf I > 1))=false->gE (zaq I)+zg<=aI/\(zh I->zi->zk I/\∃(x':Nat),x'<=zad/\zad-x'<zad-I/\(zj I=(↑x':Int)/\zaq I++zf=fF o x'/\True)/\zo))))/\((decide (zb I<(↑zad:Int)))=false->zae I<=aI->((decide ((↑(zae I):Int) > 1200))=true->([],2)=mE o)/\((decide ((↑(zae I):Int) > 1200))=false->(fF o I,0)=mE o)))))) (by kernel_rfl) ?_
 dsimp -iota -proj -eta only;refine⟨(⟨0,by omega,⟨rfl,rfl,dT⟩,dT⟩),fun E q_0 h0=>iL (fun h1=>⟨?a,?b,?c,?d,fun h2 h3=>⟨?e,(⟨E+1,by omega,by omega,⟨by omega,adJ (by omega),dT⟩,(by trivial)⟩)⟩⟩) (fun h1=>⟨(⟨0,by omega,⟨rfl,by rw[H6,show E=o.1.length by omega],dT⟩,dT⟩),fun F q_1 h2=>iL (fun h3=>⟨?f,?g,dT,?h,?i,fun h4 h5=>⟨?j,(⟨F+1,by omega,by omega,⟨by omega,adK (by omega),dT⟩,(by trivial)⟩)⟩⟩) (fun h3=>⟨(⟨0,by omega,⟨rfl,by rw[H7,show F=o.2.1.length by omega],dT⟩,dT⟩),fun G q_2 h4=>iL (fun h5=>⟨?k,⟨fun h6=>⟨?l,?m,?n,?o,?p,?q,dT,?r,?s,fun h7 h8=>⟨?t,(⟨G+1,by omega,by omega,⟨by omega,ac1 (by omega) h6,dT⟩,(by trivial)⟩)⟩⟩,fun h6=>⟨?u,?v,?w,?x,?y,dT,?z,?a0,fun h7 h8=>⟨?a1,(⟨G+1,by omega,by omega,⟨by omega,ac2 (by omega) h6,dT⟩,(by trivial)⟩)⟩⟩⟩⟩) (fun h5=>⟨(⟨0,by omega,⟨rfl,by rw[H8,show G=o.2.2.1.length by omega],dT⟩,dT⟩),fun I q_3 h6=>iL (fun h7=>⟨?a2,⟨fun h8=>⟨?a3,?a4,?a5,?a6,dT,?a7,?a8,dT,?a9,iL (fun h9=>⟨?aa,?ab,?ac,fun h10 h11=>⟨?ad,(⟨I+1,by omega,by omega,⟨by omega,acY (by omega) (iH hp) h8 (P9 h9),dT⟩,(by trivial)⟩)⟩⟩) (fun h9=>⟨?ae,fun h10 h11=>⟨?af,(absurd (h8.symm.trans (((iH hp).tie (i:=I) (by omega)).base (U9 (Int.not_lt.2 h9) ((iH hp).kind (by omega)))).2) (by decide))⟩⟩)⟩,fun h8=>⟨?ag,?ah,?ai,dT,?aj,?ak,dT,?al,iL (fun h9=>⟨?am,?an,?ao,fun h10 h11=>⟨?ap,(⟨I+1,by omega,by omega,⟨by omega,acZ (by omega) (iH hp) h8 (P9 h9),dT⟩,(by trivial)⟩)⟩⟩) (fun h9=>⟨?aq,fun h10 h11=>⟨?ar,(⟨I+1,by omega,by omega,⟨by omega,ac0 (by omega) (U9 (Int.not_lt.2 h9) ((iH hp).kind (by omega))),dT⟩,(by trivial)⟩)⟩⟩)⟩⟩⟩) (fun h7 h8=>iL (fun h9=>(by rw[Fk (show I=_ by omega) (by omega)])) (fun h9=>(by rw[xU (show I=_ by omega) (by omega)])))⟩)⟩)⟩)⟩
 case a|c|d=>have a:=AP (iH hp) (i:=E) (by omega);simp only[hE,hS,hT,hV,aI];omega
 case b|g|k|n|q|v|y|a2=>omega
 case e|j|t|a1|ad|af|ap|ar=>simp only[aF,aI]at*;omega
 case f|h|i=>have a:=AQ (iH hp) (i:=F) (by omega);simp only[hE,hS,hT,hV,aI];omega
 case l|m|o|p|r|s|u|w|x|z|a0=>have a:=DN (iH hp) (i:=G) (by omega);simp only[hE,hS,hT,hV,aI];omega
 case a3|a5|a6|a7|a8|a9|aa|ab|ac|ae|ah|ai|aj|ak|al|am|an|ao|aq=>have a:=DO (iH hp) (i:=I) (by omega);have b:=YS (hA (nth aQ o.2.2.2.1 I).2.1);simp only[hE,hS,hT,hV,aI];omega
 case a4|ag=>obtain⟨a,b⟩:=(iH hp).kind (i:=I) (by omega);exact⟨Int.le_trans (by decide) a,Int.lt_of_le_of_lt b (by decide)⟩
def Tryz.XG:bO Tryz.prog Tryz.B.eT Tryz.X 117 [aA] [.str,.int .i64] (fun o=>cK o=0) (fun x y=>y=(fun o=>mE o) x):=
 bP (X:=Tryz.X) Tryz.Pq Tryz.func117 (by kernel_rfl) (fun x=>Jz x) (fun x hw hp=>XF x hw hp)
def Tryz.XH:List (FuncId×(Bool×aX)):=[(67,(true,bX [.str] [.slice .str] (fun s=>s.length<=1000000) (fun s=>parts 32 s))),(66,(true,bX [.str] [.slice .str,.bool] (fun s=>s.length<=1000000) (fun s=>(nK s,AY s)))),(68,(true,bX [.str] [.int .i64,.bool] (fun _=>True) (fun s=>(vP s,sY s)))),(116,(true,bX [aA] [.int .i64] (fun _=>True) (fun o=>cK o))),(117,(true,bX [aA] [.str,.int .i64] (fun o=>cK o=0) (fun o=>mE o)))]
def Tryz.aaA:bL Tryz.prog Tryz.B Tryz.X Tryz.XH:=
 aM (aE Tryz.Xx) (aM (aE Tryz.Xz) (aM (aE Tryz.TP) (aM (aE Tryz.W8) (aM (aE Tryz.XG) (bJ Tryz.bI)))))
def XI(s:List UInt8):cU:=[
 (0,fun st=>{X:=Nat×D aA,inv:=fun x=>mM (nK s) x.1 x.2,bF:=fun x=>(nK s).length-x.1,aY:=fun x=>[(7,sI x.1)],keep:=[0,2,4,6],aH:=fun x=>[(aT st 6,.cells 148 [.app .str x.2.1 (iy st (aT st 6) 0),.app (.int .i64) x.2.2.1 (iy st (aT st 6) 1),.app aP x.2.2.2.1 (iy st (aT st 6) 2),.app aQ x.2.2.2.2.1 (iy st (aT st 6) 3)]),(iy st (aT st 6) 0,.tok .str x.2.1),(iy st (aT st 6) 1,.tok (.int .i64) x.2.2.1),(iy st (aT st 6) 2,.tok aP x.2.2.2.1),(iy st (aT st 6) 3,.tok aQ x.2.2.2.2.1)],eA:=[aT st 6,iy st (aT st 6) 0,iy st (aT st 6) 1,iy st (aT st 6) 2,iy st (aT st 6) 3]}),
 (300010,fun st=>{X:=List (List UInt8),inv:=fun w=>w=parts 32 (nth .str (nK s) (hA (bG (.int .i64) st 7))),bF:=fun _=>0,aY:=fun w=>[(8,sD (.slice .str) w)],keep:=[0,2,3,4,6,7,29,30,31,32]}),
 (400013,fun st=>{X:=List (List UInt8),inv:=fun w=>∀o:D aA,ma o (nth .str (nK s) (hA (bG (.int .i64) st 7)))=jy o (nth .str (bG (.slice .str) st 8) 0 == pB) w,bF:=fun _=>0,aY:=fun w=>[(8,sD (.slice .str) w)],keep:=[0,2,3,4,6,7,9,29,30,31,32,35,36,37,38,39,40,41,42,43,44]}),
 (2,fun st=>{X:=Nat,inv:=fun k=>1<=k/\k<=3/\(k=1\/k<=gE (bG (.slice .str) st 8)),bF:=fun k=>3-k,aY:=fun k=>[(11,sI k),(10,.s (.one (.app (.int .i64) (eY (bG (.slice .str) st 8) k) (aT st 10))))],aH:=fun k=>[(aT st 10,.tok (.int .i64) (eY (bG (.slice .str) st 8) k))],keep:=[0,2,3,4,6,7,8,9,29,30,31,32,35,36,37,38,39,40,41,42,43,44,45,46],eA:=[aT st 10]}),
 (300016,fun st=>{X:=Bool,inv:=fun c=>c=true↔((bG (.int .i64) st 11)<gE (bG (.slice .str) st 8)/\(bG (.int .i64) st 11)<3),bF:=fun _=>0,aY:=fun c=>[(54,sB c)],keep:=[0,2,3,4,6,7,8,9,10,11,29,30,31,32,35,36,37,38,39,40,41,42,43,44,45,46]}),
 (300023,fun st=>{X:=Bool,inv:=fun c=>c=true↔(gE (bG (.slice .str) st 8)=2/\nth .str (bG (.slice .str) st 8) 0=iq),bF:=fun _=>0,aY:=fun c=>[(72,sB c)],keep:=[0,2,3,4,6,7,8,9,10,11,12,13,29,30,31,32,35,36,37,38,39,40,41,42,43,44,45,46,47,48,49,50,51,52,53,54,55,56,57,58,59,60,61,62,63,64,65,66,67,68,69,70]}),
 (300025,fun st=>{X:=Bool,inv:=fun c=>c=true↔(gE (bG (.slice .str) st 8)=2/\nth .str (bG (.slice .str) st 8) 0=ie),bF:=fun _=>0,aY:=fun c=>[(90,sB c)],keep:=[0,2,3,4,6,7,8,9,10,11,12,13,29,30,31,32,35,36,37,38,39,40,41,42,43,44,45,46,47,48,49,50,51,52,53,54,55,56,57,58,59,60,61,62,63,64,65,66,67,68,69,70,72,73,74,75,76,77,78,79,80,81,82,83,84,85,86,87,88,89]}),
 (300027,fun st=>{X:=Bool,inv:=fun c=>c=true↔(gE (bG (.slice .str) st 8)=3/\nth .str (bG (.slice .str) st 8) 0=fS),bF:=fun _=>0,aY:=fun c=>[(108,sB c)],keep:=[0,2,3,4,6,7,8,9,10,11,12,13,29,30,31,32,35,36,37,38,39,40,41,42,43,44,45,46,47,48,49,50,51,52,53,54,55,56,57,58,59,60,61,62,63,64,65,66,67,68,69,70,72,73,74,75,76,77,78,79,80,81,82,83,84,85,86,87,88,89,90,91,92,93,94,95,96,97,98,99,100,101,102,103,104,105,106,107]}),
 (300029,fun st=>{X:=Bool,inv:=fun c=>c=true↔(gE (bG (.slice .str) st 8)=3/\nth .str (bG (.slice .str) st 8) 0=ku),bF:=fun _=>0,aY:=fun c=>[(131,sB c)],keep:=[0,2,3,4,6,7,8,9,10,11,12,13,29,30,31,32,35,36,37,38,39,40,41,42,43,44,45,46,47,48,49,50,51,52,53,54,55,56,57,58,59,60,61,62,63,64,65,66,67,68,69,70,72,73,74,75,76,77,78,79,80,81,82,83,84,85,86,87,88,89,90,91,92,93,94,95,96,97,98,99,100,101,102,103,104,105,106,107,108,109,110,111,112,113,114,115,116,117,118,119,120,121,122,123,124,125,126,127,128,129,130]}),
 (300031,fun st=>{X:=Bool,inv:=fun c=>c=true↔(gE (bG (.slice .str) st 8)=4/\nth .str (bG (.slice .str) st 8) 0=iI),bF:=fun _=>0,aY:=fun c=>[(154,sB c)],keep:=[0,2,3,4,6,7,8,9,10,11,12,13,29,30,31,32,35,36,37,38,39,40,41,42,43,44,45,46,47,48,49,50,51,52,53,54,55,56,57,58,59,60,61,62,63,64,65,66,67,68,69,70,72,73,74,75,76,77,78,79,80,81,82,83,84,85,86,87,88,89,90,91,92,93,94,95,96,97,98,99,100,101,102,103,104,105,106,107,108,109,110,111,112,113,114,115,116,117,118,119,120,121,122,123,124,125,126,127,128,129,130,131,132,133,134,135,136,137,138,139,140,141,142,143,144,145,146,147,148,149,150,151,152,153]}),
 (300033,fun st=>{X:=Bool,inv:=fun c=>c=true↔(gE (bG (.slice .str) st 8)=4/\nth .str (bG (.slice .str) st 8) 0=jE),bF:=fun _=>0,aY:=fun c=>[(180,sB c)],keep:=[0,2,3,4,6,7,8,9,10,11,12,13,29,30,31,32,35,36,37,38,39,40,41,42,43,44,45,46,47,48,49,50,51,52,53,54,55,56,57,58,59,60,61,62,63,64,65,66,67,68,69,70,72,73,74,75,76,77,78,79,80,81,82,83,84,85,86,87,88,89,90,91,92,93,94,95,96,97,98,99,100,101,102,103,104,105,106,107,108,109,110,111,112,113,114,115,116,117,118,119,120,121,122,123,124,125,126,127,128,129,130,131,132,133,134,135,136,137,138,139,140,141,142,143,144,145,146,147,148,149,150,151,152,153,154,155,156,157,158,159,160,161,162,163,164,165,166,167,168,169,170,171,172,173,174,175,176,177,178,179]})]
def NC(s:List UInt8)(hw:eD [.str] s):(cL Tryz.B Tryz.XH Tryz.f76 (XI s) [.str] [aA,.int .i64] (fun x y=>y=(fun s=>cF s) x) s).holds:=by
 refine holds_of (p:=
  let za:=gE s
  let zb:=([],[],[],[],())
  let zc:=(zb,(4:Int))=cF s
  let zd:=List UInt8
  let ze:=List zd
  let zf:=ze×List Int×List (zd×Int×Bool×Unit)×List (Int×Int×Int×zd×Bool×Unit)×Unit
  let zg:=Nat×zf
  let zh:=nK s
  let zi:=fun(E:Nat×List (List UInt8)×List Int×List (List UInt8×Int×Bool×Unit)×List (Int×Int×Int×List UInt8×Bool×Unit)×Unit)=>(↑E.1:Int)<(↑(gE zh):Int)
  let zj:=fun(E:Nat×List (List UInt8)×List Int×List (List UInt8×Int×Bool×Unit)×List (Int×Int×Int×List UInt8×Bool×Unit)×Unit)=>nth Ty.str zh E.1
  let zk:=fun(E:Nat×List (List UInt8)×List Int×List (List UInt8×Int×Bool×Unit)×List (Int×Int×Int×List UInt8×Bool×Unit)×Unit)=>parts (32:UInt8) (zj E)
  let zl:=fun(E:Nat×List (List UInt8)×List Int×List (List UInt8×Int×Bool×Unit)×List (Int×Int×Int×List UInt8×Bool×Unit)×Unit)=>E.2.1=E.2.1
  let zm:=fun(E:Nat×List (List UInt8)×List Int×List (List UInt8×Int×Bool×Unit)×List (Int×Int×Int×List UInt8×Bool×Unit)×Unit)=>E.2.2.1
  let zn:=fun(E:Nat×List (List UInt8)×List Int×List (List UInt8×Int×Bool×Unit)×List (Int×Int×Int×List UInt8×Bool×Unit)×Unit)=>E.2.2.2.1
  let zo:=fun(E:Nat×List (List UInt8)×List Int×List (List UInt8×Int×Bool×Unit)×List (Int×Int×Int×List UInt8×Bool×Unit)×Unit)=>E.2.2.2.2.1
  let zp:=fun(E:Nat×List (List UInt8)×List Int×List (List UInt8×Int×Bool×Unit)×List (Int×Int×Int×List UInt8×Bool×Unit)×Unit)=>zo E=zo E
  let zq:=@hq (Int×Int×Int×List UInt8×Bool×Unit)=@hq (Int×Int×Int×List UInt8×Bool×Unit)
  let zr:=@hq (List UInt8×Int×Bool×Unit)=@hq (List UInt8×Int×Bool×Unit)
  let zs:=@hq Int=@hq Int
  let zt:=@hq (List UInt8)=@hq (List UInt8)
  let zu:=zq/\zr/\zs/\zt/\(zt/\zs/\zr/\zq/\True)/\zq/\zr/\zs/\zt/\True
  let zv:=fun(E:Nat×List (List UInt8)×List Int×List (List UInt8×Int×Bool×Unit)×List (Int×Int×Int×List UInt8×Bool×Unit)×Unit)=>(zl E/\zm E=zm E/\zn E=zn E/\zp E/\True)/\zl E/\zm E=zm E/\zn E=zn E/\zp E/\zu
  let zw:=(0:Int)<=(0:Int)
  let zx:=fun(F:List (List UInt8))=>gE F
  let zy:=fun(F:List (List UInt8))=>(↑(zx F):Int)
  let zz:=fun(F:List (List UInt8))=>zw/\(0:Int)<zy F
  let zaa:=fun(F:List (List UInt8))=>nth Ty.str F 0
  let zab:=fun(F:List (List UInt8))=>zaa F == [(119:UInt8),101,97,107]
  let zac:=(0:Int)<=(1:Int)
  let zad:=fun(G:List (List UInt8))=>zx G<=aI
  let zae:=fun(I:Nat) (G:List (List UInt8))=>(↑I:Int)<zy G/\(↑I:Int)<(3:Int)
  let zaf:=fun(G:List (List UInt8)) (I:Nat)=>eY G I=eY G I
  let zag:=fun(G:List (List UInt8)) (I:Nat) (E:Nat×List (List UInt8)×List Int×List (List UInt8×Int×Bool×Unit)×List (Int×Int×Int×List UInt8×Bool×Unit)×Unit)=>zaf G I/\zv E
  let zah:=aF (1:Int)
  let zai:=fun(I:Nat)=>(↑I:Int)+(1:Int)
  let zaj:=fun(G:List (List UInt8))=>zx G=2/\zaa G=iq
  let zak:=fun(E:Nat×List (List UInt8)×List Int×List (List UInt8×Int×Bool×Unit)×List (Int×Int×Int×List UInt8×Bool×Unit)×Unit)=>aF (↑E.1:Int)
  let zal:=fun(E:Nat×List (List UInt8)×List Int×List (List UInt8×Int×Bool×Unit)×List (Int×Int×Int×List UInt8×Bool×Unit)×Unit)=>(↑E.1:Int)+(1:Int)
  let zam:=fun(E:Nat×List (List UInt8)×List Int×List (List UInt8×Int×Bool×Unit)×List (Int×Int×Int×List UInt8×Bool×Unit)×Unit)=>aF (zal E)
  let zan:=gE zh
  let zao:=fun(E:Nat×List (List UInt8)×List Int×List (List UInt8×Int×Bool×Unit)×List (Int×Int×Int×List UInt8×Bool×Unit)×Unit)=>zan-E.1
  let zap:=fun(G:List (List UInt8))=>zx G=2/\zaa G=ie
  let zaq:=fun(G:List (List UInt8)) (I:Nat)=>zw/\(0:Int)<(↑(gE (eY G I)):Int)
  let zar:=fun(G:List (List UInt8)) (I:Nat)=>nth (Ty.int hD) (eY G I) 0
  let zas:=fun(G:List (List UInt8))=>zx G=3/\zaa G=fS
  let zat:=fun(G:List (List UInt8)) (I:Nat)=>zac/\(1:Int)<(↑(gE (eY G I)):Int)
  let zau:=fun(G:List (List UInt8)) (I:Nat)=>nth (Ty.int hD) (eY G I) 1
  let zav:=fun(G:List (List UInt8))=>zx G=3/\zaa G=ku
  let zaw:=fun(G:List (List UInt8)) (I:Nat) (F:List (List UInt8))=>[(zar G I,(1:Int),zau G I,@hq UInt8,zab F,())]
  let zax:=fun(G:List (List UInt8))=>zx G=4/\zaa G=iI
  let zay:=fun(G:List (List UInt8))=>(0:Int)<=(3:Int)/\(3:Int)<zy G
  let zaz:=fun(G:List (List UInt8)) (I:Nat) (F:List (List UInt8))=>[(zar G I,(2:Int),zau G I,nth Ty.str G 3,zab F,())]
  let zba:=fun(G:List (List UInt8))=>zx G=4/\zaa G=jE
  let zbb:=fun(G:List (List UInt8)) (I:Nat) (F:List (List UInt8))=>[(zar G I,(3:Int),zau G I,nth Ty.str G 3,zab F,())]
  za<=aI->((decide ((↑za:Int) > (1200:Int)))=true->(zb,(2:Int))=cF s)/\((decide ((↑za:Int) > (1200:Int)))=false->za<=1000000/\((!AY s)=true->zc)/\((!AY s)=false->(∃(x:zg),mM zh (hg x) (gN x)/\((0:Int)=(↑(hg x):Int)/\True)/\(@hq (List UInt8)=(gN x).1/\@hq Int=(gN x).2.1/\@hq (List UInt8×Int×Bool×Unit)=(gN x).2.2.1/\@hq (Int×Int×Int×List UInt8×Bool×Unit)=(gN x).2.2.2.1/\True)/\@hq (List UInt8)=(gN x).1/\@hq Int=(gN x).2.1/\@hq (List UInt8×Int×Bool×Unit)=(gN x).2.2.1/\@hq (Int×Int×Int×List UInt8×Bool×Unit)=(gN x).2.2.2.1/\True)/\∀E:Nat×List (List UInt8)×List Int×List (List UInt8×Int×Bool×Unit)×List (Int×Int×Int×List UInt8×Bool×Unit)×Unit,mM zh E.1 E.2->gE zh<=aI->((decide (zi E))=true->(((0:Int)<=(↑E.1:Int)/\zi E)/\gE (zj E)<=1000000/\∃(x':ze),x'=zk E/\(zk E=x'/\True)/\zv E)/\∀F:List (List UInt8),F=zk E->zz F/\(((zab F)=true->(zac/\(1:Int)<=zy F/\zy F<=zy F)/\∃(x':ze),(∀(o:zf),ma o (zj E)=jy o (zaa F == pB) x')/\(hB 1 (hx (zx F) F)=x'/\True)/\zv E)/\((zab F)=false->∃(x':ze),(∀(o:zf),ma o (zj E)=jy o (zaa F == pB) x')/\(F=x'/\True)/\zv E))/\∀G:List (List UInt8),(∀(o:zf),ma o (zj E)=jy o (zaa F == pB) G)->(∃(x:Nat),(1<=x/\x<=3/\(x=1\/x<=zx G))/\((1:Int)=(↑x:Int)/\@hq Int=eY G x/\True)/\@hq Int=eY G x/\True)/\∀I:Nat,1<=I/\I<=3/\(I=1\/I<=zx G)->(zad G->((decide ((↑I:Int)<zy G))=true->∃(x':Bool),(x'=true↔zae I G)/\(decide ((↑I:Int)<(3:Int))=x'/\True)/\zag G I E)/\((decide ((↑I:Int)<zy G))=false->∃(x':Bool),(x'=true↔zae I G)/\(false=x'/\True)/\zag G I E))/\∀K:Bool,(K=true↔zae I G)->(K=true->((0:Int)<=(↑I:Int)/\(↑I:Int)<zy G)/\True/\((!sY (nth Ty.str G I))=true->(zaf G I/\gE (eY G I)+gE [(-1099511627776:Int)]<=1000000000)/\(aF (↑I:Int)->zah->aF (zai I)/\∃(x':Nat),(1<=x'/\x'<=3/\(x'=1\/x'<=zx G))/\3-x'<3-I/\(zai I=(↑x':Int)/\eY G I++[(-1099511627776:Int)]=eY G x'/\True)/\eY G I++[(-1099511627776:Int)]=eY G x'/\zv E))/\((!sY (nth Ty.str G I))=false->(zaf G I/\gE (eY G I)+gE [vP (nth Ty.str G I)]<=1000000000)/\(aF (↑I:Int)->zah->aF (zai I)/\∃(x':Nat),(1<=x'/\x'<=3/\(x'=1\/x'<=zx G))/\3-x'<3-I/\(zai I=(↑x':Int)/\eY G I++[vP (nth Ty.str G I)]=eY G x'/\True)/\eY G I++[vP (nth Ty.str G I)]=eY G x'/\zv E)))/\(K=false->(zad G->((zy G == (2:Int))=true->zz G/\∃(x':Bool),(x'=true↔zaj G)/\((zaa G == [(110:UInt8),101,101,100])=x'/\True)/\zag G I E)/\((zy G == (2:Int))=false->∃(x':Bool),(x'=true↔zaj G)/\(false=x'/\True)/\zag G I E))/\∀M:Bool,(M=true↔zaj G)->(M=true->(zac/\(1:Int)<zy G)/\(zl E/\gE E.2.1+gE [nth Ty.str G 1]<=1000000000)/\(zak E->zah->zam E/\∃(x':zg),mM zh (hg x') (gN x')/\zan-hg x'<zao E/\(zal E=(↑(hg x'):Int)/\True)/\(E.2.1++[nth Ty.str G 1]=(gN x').1/\zm E=(gN x').2.1/\zn E=(gN x').2.2.1/\zo E=(gN x').2.2.2.1/\True)/\E.2.1++[nth Ty.str G 1]=(gN x').1/\zm E=(gN x').2.1/\zn E=(gN x').2.2.1/\zo E=(gN x').2.2.2.1/\zu))/\(M=false->(zad G->((zy G == (2:Int))=true->zz G/\∃(x':Bool),(x'=true↔zap G)/\((zaa G == [(119:UInt8),111,114,100])=x'/\True)/\zag G I E)/\((zy G == (2:Int))=false->∃(x':Bool),(x'=true↔zap G)/\(false=x'/\True)/\zag G I E))/\∀Q:Bool,(Q=true↔zap G)->(Q=true->zaq G I/\(zm E=zm E/\gE (zm E)+gE [zar G I]<=1000000000)/\(zak E->zah->zam E/\∃(x':zg),mM zh (hg x') (gN x')/\zan-hg x'<zao E/\(zal E=(↑(hg x'):Int)/\True)/\(E.2.1=(gN x').1/\zm E++[zar G I]=(gN x').2.1/\zn E=(gN x').2.2.1/\zo E=(gN x').2.2.2.1/\True)/\E.2.1=(gN x').1/\zm E++[zar G I]=(gN x').2.1/\zn E=(gN x').2.2.1/\zo E=(gN x').2.2.2.1/\zu))/\(Q=false->(zad G->((zy G == (3:Int))=true->zz G/\∃(x':Bool),(x'=true↔zas G)/\((zaa G == [(115:UInt8),121,109,98,111,108])=x'/\True)/\zag G I E)/\((zy G == (3:Int))=false->∃(x':Bool),(x'=true↔zas G)/\(false=x'/\True)/\zag G I E))/\∀U:Bool,(U=true↔zas G)->(U=true->(zac/\(1:Int)<zy G)/\zat G I/\(zn E=zn E/\gE (zn E)+gE [(nth Ty.str G 1,zau G I,zab F,())]<=1000000000)/\(zak E->zah->zam E/\∃(x':zg),mM zh (hg x') (gN x')/\zan-hg x'<zao E/\(zal E=(↑(hg x'):Int)/\True)/\(E.2.1=(gN x').1/\zm E=(gN x').2.1/\zn E++[(nth Ty.str G 1,zau G I,zab F,())]=(gN x').2.2.1/\zo E=(gN x').2.2.2.1/\True)/\E.2.1=(gN x').1/\zm E=(gN x').2.1/\zn E++[(nth Ty.str G 1,zau G I,zab F,())]=(gN x').2.2.1/\zo E=(gN x').2.2.2.1/\zu))/\(U=false->(zad G->((zy G == (3:Int))=true->zz G/\∃(x':Bool),(x'=true↔zav G)/\((zaa G == [(98:UInt8),97,115,101])=x'/\True)/\zag G I E)/\((zy G == (3:Int))=false->∃(x':Bool),(x'=true↔zav G)/\(false=x'/\True)/\zag G I E))/\∀Y:Bool,(Y=true↔zav G)->(Y=true->zaq G I/\zat G I/\(zp E/\gE (zo E)+gE (zaw G I F)<=1000000000)/\(zak E->zah->zam E/\∃(x':zg),mM zh (hg x') (gN x')/\zan-hg x'<zao E/\(zal E=(↑(hg x'):Int)/\True)/\(E.2.1=(gN x').1/\zm E=(gN x').2.1/\zn E=(gN x').2.2.1/\zo E++zaw G I F=(gN x').2.2.2.1/\True)/\E.2.1=(gN x').1/\zm E=(gN x').2.1/\zn E=(gN x').2.2.1/\zo E++zaw G I F=(gN x').2.2.2.1/\zu))/\(Y=false->(zad G->((zy G == (4:Int))=true->zz G/\∃(x':Bool),(x'=true↔zax G)/\((zaa G == [(119:UInt8),104,111,108,101])=x'/\True)/\zag G I E)/\((zy G == (4:Int))=false->∃(x':Bool),(x'=true↔zax G)/\(false=x'/\True)/\zag G I E))/\∀R:Bool,(R=true↔zax G)->(R=true->zaq G I/\zat G I/\zay G/\(zp E/\gE (zo E)+gE (zaz G I F)<=1000000000)/\(zak E->zah->zam E/\∃(x':zg),mM zh (hg x') (gN x')/\zan-hg x'<zao E/\(zal E=(↑(hg x'):Int)/\True)/\(E.2.1=(gN x').1/\zm E=(gN x').2.1/\zn E=(gN x').2.2.1/\zo E++zaz G I F=(gN x').2.2.2.1/\True)/\E.2.1=(gN x').1/\zm E=(gN x').2.1/\zn E=(gN x').2.2.1/\zo E++zaz G I F=(gN x').2.2.2.1/\zu))/\(R=false->(zad G->((zy G == (4:Int))=true->zz G/\∃(x':Bool),(x'=true↔zba G)/\((zaa G == [(110:UInt8),101,97,114])=x'/\True)/\zag G I E)/\((zy G == (4:Int))=false->∃(x':Bool),(x'=true↔zba G)/\(false=x'/\True)/\zag G I E))/\∀V:Bool,(V=true↔zba G)->(V=true->zaq G I/\zat G I/\zay G/\(zp E/\gE (zo E)+gE (zbb G I F)<=1000000000)/\(zak E->zah->zam E/\∃(x':zg),mM zh (hg x') (gN x')/\zan-hg x'<zao E/\(zal E=(↑(hg x'):Int)/\True)/\(E.2.1=(gN x').1/\zm E=(gN x').2.1/\zn E=(gN x').2.2.1/\zo E++zbb G I F=(gN x').2.2.2.1/\True)/\E.2.1=(gN x').1/\zm E=(gN x').2.1/\zn E=(gN x').2.2.1/\zo E++zbb G I F=(gN x').2.2.2.1/\zu))/\(V=false->zc))))))))/\((decide (zi E))=false->True/\((decide (cK E.2 > (0:Int)))=true->zc)/\((decide (cK E.2 > (0:Int)))=false->cK E.2=(0:Int)/\((decide ((mE E.2).2 > (0:Int)))=true->zc)/\((decide ((mE E.2).2 > (0:Int)))=false->((!(mE E.2).1 == s)=true->zc)/\((!(mE E.2).1 == s)=false->(E.2,(0:Int))=cF s))))))) (by kernel_rfl) ?_
 dsimp -iota -proj -eta only;refine fun h0=>iL (fun h1=>(Vq (by omega))) (fun h1=>⟨?a,iB (fun h2=>(Sq (by omega) h2)) (fun h2=>⟨(⟨(0,cB aA),mM.zero _,⟨rfl,dT⟩,(by trivial)⟩),fun E q_0 h3=>iL (fun h4=>⟨⟨?b,(by have:=Sr (s:=s) (by omega) E.1;omega),(⟨_,rfl,⟨rfl,dT⟩,(by trivial)⟩)⟩,fun F q_1=>⟨?c,⟨iQ (fun h5=>⟨?d,(⟨_,fun _=>Vp q_1 h5 rfl,⟨by rw[List.take_length],dT⟩,(by trivial)⟩)⟩) (fun h5=>(⟨_,fun _=>Zc q_1 h5,⟨rfl,dT⟩,(by trivial)⟩)),fun G q_2=>⟨(⟨1,⟨by omega,by omega,.inl rfl⟩,⟨rfl,rfl,dT⟩,(by trivial)⟩),fun I q_3=>⟨fun h5=>iL (fun h6=>(⟨_,eT h6,⟨rfl,dT⟩,(by trivial)⟩)) (fun h6=>(⟨_,eF h6,⟨rfl,dT⟩,(by trivial)⟩)),fun K q_4=>⟨fun h5=>⟨?e,dT,iB (fun h6=>⟨?f,fun h7 h8=>⟨?g,(by have hc:=q_4.1 ‹_›;exact⟨I+1,⟨by omega,by omega,.inr (by omega)⟩,by omega,⟨by omega,Iq (by omega) h6,dT⟩,Iq (by omega) h6,(by trivial)⟩)⟩⟩) (fun h6=>⟨?h,fun h7 h8=>⟨?i,(by have hc:=q_4.1 ‹_›;exact⟨I+1,⟨by omega,by omega,.inr (by omega)⟩,by omega,⟨by omega,LQ (by omega) h6,dT⟩,LQ (by omega) h6,(by trivial)⟩)⟩⟩)⟩,fun h5=>⟨fun h6=>iQ (fun h7=>⟨?j,(⟨_,jT h7 rfl,⟨rfl,dT⟩,(by trivial)⟩)⟩) (fun h7=>(⟨_,jF h7 rfl,⟨rfl,dT⟩,(by trivial)⟩)),fun M q_5=>⟨fun h6=>⟨?k,?l,fun h7 h8=>⟨?m,(by(have hk:=ye q_3 (iJ q_4 ‹_›));(first|have hc:=q_10.1 ‹_›|have hc:=q_9.1 ‹_›|have hc:=q_8.1 ‹_›|have hc:=q_7.1 ‹_›|have hc:=q_6.1 ‹_›|have hc:=q_5.1 ‹_›);exact⟨(E.1+1,_),q_0.next (by omega) ((q_2 _).trans (Oq (q_5.1 ‹_›))) (qx.uj _ _),by simp only;omega,⟨by simp only;omega,dT⟩,(by trivial)⟩)⟩⟩,fun h6=>⟨fun h7=>iQ (fun h8=>⟨?n,(⟨_,jT h8 rfl,⟨rfl,dT⟩,(by trivial)⟩)⟩) (fun h8=>(⟨_,jF h8 rfl,⟨rfl,dT⟩,(by trivial)⟩)),fun Q q_6=>⟨fun h7=>⟨?o,?p,fun h8 h9=>⟨?q,(by(have hk:=ye q_3 (iJ q_4 ‹_›));(first|have hc:=q_10.1 ‹_›|have hc:=q_9.1 ‹_›|have hc:=q_8.1 ‹_›|have hc:=q_7.1 ‹_›|have hc:=q_6.1 ‹_›|have hc:=q_5.1 ‹_›);exact⟨(E.1+1,_),q_0.next (by omega) ((q_2 _).trans (Ot (k:=I) (iJ q_5 ‹_›) (q_6.1 ‹_›) (by omega))) (qx.word _ _),by simp only;omega,⟨by simp only;omega,dT⟩,(by trivial)⟩)⟩⟩,fun h7=>⟨fun h8=>iQ (fun h9=>⟨?r,(⟨_,jT h9 rfl,⟨rfl,dT⟩,(by trivial)⟩)⟩) (fun h9=>(⟨_,jF h9 rfl,⟨rfl,dT⟩,(by trivial)⟩)),fun U q_7=>⟨fun h8=>⟨?s,?t,?u,fun h9 h10=>⟨?v,(by(have hk:=ye q_3 (iJ q_4 ‹_›));(first|have hc:=q_10.1 ‹_›|have hc:=q_9.1 ‹_›|have hc:=q_8.1 ‹_›|have hc:=q_7.1 ‹_›|have hc:=q_6.1 ‹_›|have hc:=q_5.1 ‹_›);exact⟨(E.1+1,_),q_0.next (by omega) ((q_2 _).trans (Sm (k:=I) (q_7.1 ‹_›) (by omega))) (qx.sym _ _),by simp only;omega,⟨by simp only;omega,dT⟩,(by trivial)⟩)⟩⟩,fun h8=>⟨fun h9=>iQ (fun h10=>⟨?w,(⟨_,jT h10 rfl,⟨rfl,dT⟩,(by trivial)⟩)⟩) (fun h10=>(⟨_,jF h10 rfl,⟨rfl,dT⟩,(by trivial)⟩)),fun Y q_8=>⟨fun h9=>⟨?x,?y,?z,fun h10 h11=>⟨?a0,(by(have hk:=ye q_3 (iJ q_4 ‹_›));(first|have hc:=q_10.1 ‹_›|have hc:=q_9.1 ‹_›|have hc:=q_8.1 ‹_›|have hc:=q_7.1 ‹_›|have hc:=q_6.1 ‹_›|have hc:=q_5.1 ‹_›);exact⟨(E.1+1,_),q_0.next (by omega) ((q_2 _).trans (Ou (k:=I) (iJ q_7 ‹_›) (q_8.1 ‹_›) (by omega))) (qx.tie _ _),by simp only;omega,⟨by simp only;omega,dT⟩,(by trivial)⟩)⟩⟩,fun h9=>⟨fun h10=>iQ (fun h11=>⟨?a1,(⟨_,jT h11 rfl,⟨rfl,dT⟩,(by trivial)⟩)⟩) (fun h11=>(⟨_,jF h11 rfl,⟨rfl,dT⟩,(by trivial)⟩)),fun R q_9=>⟨fun h10=>⟨?a2,?a3,?a4,?a5,fun h11 h12=>⟨?a6,(by(have hk:=ye q_3 (iJ q_4 ‹_›));(first|have hc:=q_10.1 ‹_›|have hc:=q_9.1 ‹_›|have hc:=q_8.1 ‹_›|have hc:=q_7.1 ‹_›|have hc:=q_6.1 ‹_›|have hc:=q_5.1 ‹_›);exact⟨(E.1+1,_),q_0.next (by omega) ((q_2 _).trans (LR (k:=I) (q_9.1 ‹_›) (by omega))) (qx.tie _ _),by simp only;omega,⟨by simp only;omega,dT⟩,(by trivial)⟩)⟩⟩,fun h10=>⟨fun h11=>iQ (fun h12=>⟨?a7,(⟨_,jT h12 rfl,⟨rfl,dT⟩,(by trivial)⟩)⟩) (fun h12=>(⟨_,jF h12 rfl,⟨rfl,dT⟩,(by trivial)⟩)),fun V q_10=>⟨fun h11=>⟨?a8,?a9,?aa,?ab,fun h12 h13=>⟨?ac,(by(have hk:=ye q_3 (iJ q_4 ‹_›));(first|have hc:=q_10.1 ‹_›|have hc:=q_9.1 ‹_›|have hc:=q_8.1 ‹_›|have hc:=q_7.1 ‹_›|have hc:=q_6.1 ‹_›|have hc:=q_5.1 ‹_›);exact⟨(E.1+1,_),q_0.next (by omega) ((q_2 _).trans (Ov (k:=I) (iJ q_9 ‹_›) (q_10.1 ‹_›) (by omega))) (qx.tie _ _),by simp only;omega,⟨by simp only;omega,dT⟩,(by trivial)⟩)⟩⟩,fun h11=>(Sn (by omega) q_0 (by omega) ((q_2 _).trans (Ow (iJ q_5 ‹_›) (iJ q_6 ‹_›) (iJ q_7 ‹_›) (iJ q_8 ‹_›) (iJ q_9 ‹_›) (iJ q_10 ‹_›))))⟩⟩⟩⟩⟩⟩⟩⟩⟩⟩⟩⟩⟩⟩⟩⟩⟩⟩) (fun h4=>⟨dT,iL (fun h5=>(A4 (by omega) q_0 (by omega) (.inl h5))) (fun h5=>⟨(hJ h5 (yT _)),iL (fun h6=>(A4 (by omega) q_0 (by omega) (.inr (.inl h6)))) (fun h6=>⟨fun h7 =>?ad,fun h7 =>?ae⟩)⟩)⟩)⟩)⟩)
 case a|b|j|n|r|w|a1|a7=>omega
 case c|d=>have:=ac8 q_1;omega
 case e|k|s|a4|aa=>simp_all
 case f|h|l|p|u|z|a5|ab=>have a1:=q_0.l1;have a2:=q_0.l2;have a3:=q_0.l3;have a4:=q_0.l4;have a5:=q_0.le;have a6:=Zd (s:=s) (by omega);exact⟨rfl,by simp only[hz];first|omega|(rw[Ip];omega)⟩
 case g|i|m|q|v|a0|a6|ac=>simp only[aF,aI]at*;omega
 case o|t|x|y|a2|a3|a8|a9=>(have hk:=ye q_3 (iJ q_4 ‹_›));(first|have hc:=q_10.1 ‹_›|have hc:=q_9.1 ‹_›|have hc:=q_8.1 ‹_›|have hc:=q_7.1 ‹_›|have hc:=q_6.1 ‹_›|have hc:=q_5.1 ‹_›);rw[Ip];omega
 case ad=>
  simp only[bl,reduceCtorEq]at h7;exact A4 (by omega) q_0 (by omega) (.inr (.inr h7))
 case ae=>
  simp only[bl,reduceCtorEq]at h7;exact Sp (by omega) ‹_› ‹_› h7
def Tryz.ND:bO Tryz.prog Tryz.B.eT Tryz.X 76 [.str] [aA,.int .i64] (fun _=>True) (fun x y=>y=(fun s=>cF s) x):=
 bP (X:=Tryz.X) Tryz.aaA Tryz.func76 (by kernel_rfl) (fun x=>XI x) (fun x hw hp=>NC x hw)
def Tryz.JA:List (FuncId×(Bool×aX)):=[(51,Tryz.spZ35),(76,(true,bX [.str] [aA,.int .i64] (fun _=>True) (fun s=>cF s)))]
def Tryz.Pr:bL Tryz.prog Tryz.B Tryz.X Tryz.JA:=
 aM (Tryz.yH) (aM (aE Tryz.ND) (bJ Tryz.bI))
def Tryz.JB(s:List UInt8)(f:RS):cU:=[
 (0,fun st=>{X:=Nat×List (List UInt8)×List (D aA),inv:=fun y=>ly (bU f.1) s y.1 y.2.1 y.2.2,bF:=fun y=>7-y.1,aY:=fun y=>[(9,sI y.1),(7,.s (.one (.app .str y.2.1 (aT st 7)))),(8,.s (.one (.app aA y.2.2 (aT st 8))))],aH:=fun y=>[(aT st 7,.tok .str y.2.1),(aT st 8,.tok aA y.2.2)],keep:=[0],eA:=[aT st 7,aT st 8]}),
 (2,fun st=>{X:=Nat,inv:=fun k=>k<=gE (bG aA st 41).1,bF:=fun k=>gE (bG aA st 41).1-k,aY:=fun k=>[(14,sI k),(7,.s (.one (.app .str (fQ (bG (.slice .str) st 7) (hx k (bG aA st 41).1)) (aT st 7))))],aH:=fun k=>[(aT st 7,.tok .str (fQ (bG (.slice .str) st 7) (hx k (bG aA st 41).1)))],keep:=[0,4,5,6,8,9,10,12,13,19,20,21,22,25,26,27,28,29,30,31,32,33,34,35,36,37,38,39,40,41,42,43,44,45,46,47,48,49],eA:=[aT st 7]}),
 (4,fun st=>{X:=Nat,inv:=fun j=>j<=gE (bG (.slice .str) st 7),bF:=fun j=>gE (bG (.slice .str) st 7)-j,aY:=fun j=>[(16,sI j),(15,sB (hP (hx j (bG (.slice .str) st 7)) fun x=>x == (nth .str (bG aA st 41).1 (hA (bG (.int .i64) st 14)))))],keep:=[0,4,5,6,7,8,9,10,12,13,14,19,20,21,22,25,26,27,28,29,30,31,32,33,34,35,36,37,38,39,40,41,42,43,44,45,46,47,48,49,50,51,52,53,54]})]
def Tryz.yJ:List (Alt Tryz.bW [.obj 0,.d .str]):=[{bS:=Tryz.bW,res:=[.d (.slice .str),.d (.slice aA),.d (.int .i64)],out:=fun _ x=>x,ret:=fun a x=>((aR (bU x.1.1) a.1).1,(aR (bU x.1.1) a.1).2.1,(aR (bU x.1.1) a.1).2.2,())}]
def Ps(s:List UInt8)(f:RS)(hw:fM [.obj 0,.d .str] (s,()))(hp:(fun _ x=>x.1.1.length<=6) (s,()) (f,())):(cO (jl Tryz.B [18]) Tryz.JA Tryz.f100 (Tryz.JB s f) Tryz.bW [.obj 0,.d .str] Tryz.yJ (s,()) (f,())).holds:=by
 refine holds_of (p:=
  let za:=List UInt8
  let zb:=Nat×List za×List (List za×List Int×List (za×Int×Bool×Unit)×List (Int×Int×Int×za×Bool×Unit)×Unit)
  let zc:=bU f.1
  let zd:=fun(E:Nat×List (List UInt8)×List (List (List UInt8)×List Int×List (List UInt8×Int×Bool×Unit)×List (Int×Int×Int×List UInt8×Bool×Unit)×Unit))=>(↑E.1:Int)<(↑(gE E.2.1):Int)
  let ze:=fun(E:Nat×List (List UInt8)×List (List (List UInt8)×List Int×List (List UInt8×Int×Bool×Unit)×List (Int×Int×Int×List UInt8×Bool×Unit)×Unit))=>bU f.1 (nth Ty.str E.2.1 E.1)
  let zf:=(f,())=(f,())
  let zg:=aR (bU f.1) s
  let zh:=(zg.1,zg.2.1,zg.2.2,())
  let zi:=fun(E:Nat×List (List UInt8)×List (List (List UInt8)×List Int×List (List UInt8×Int×Bool×Unit)×List (Int×Int×Int×List UInt8×Bool×Unit)×Unit))=>(cF (ze E).1).1.1
  let zj:=fun(E:Nat×List (List UInt8)×List (List (List UInt8)×List Int×List (List UInt8×Int×Bool×Unit)×List (Int×Int×Int×List UInt8×Bool×Unit)×Unit))=>gE (zi E)
  let zk:=fun(E:Nat×List (List UInt8)×List (List (List UInt8)×List Int×List (List UInt8×Int×Bool×Unit)×List (Int×Int×Int×List UInt8×Bool×Unit)×Unit)) (F:Nat)=>fQ E.2.1 (hx F (zi E))
  let zl:=fun(E:Nat×List (List UInt8)×List (List (List UInt8)×List Int×List (List UInt8×Int×Bool×Unit)×List (Int×Int×Int×List UInt8×Bool×Unit)×Unit)) (F:Nat)=>gE (zk E F)
  let zm:=fun(E:Nat×List (List UInt8)×List (List (List UInt8)×List Int×List (List UInt8×Int×Bool×Unit)×List (Int×Int×Int×List UInt8×Bool×Unit)×Unit)) (F:Nat) (x:List UInt8)=>x == nth Ty.str (zi E) F
  let zn:=fun(G:Nat)=>aF (↑G:Int)
  let zo:=aF 1
  let zp:=fun(G:Nat)=>(↑G:Int)+1
  let zq:=@hq (List UInt8)=@hq (List UInt8)
  let zr:=f.1=f.1/\f.2.1=f.2.1/\True
  let zs:=fun(E:Nat×List (List UInt8)×List (List (List UInt8)×List Int×List (List UInt8×Int×Bool×Unit)×List (Int×Int×Int×List UInt8×Bool×Unit)×Unit))=>E.2.2++[(cF (ze E).1).1]
  let zt:=@hq (List (List UInt8)×List Int×List (List UInt8×Int×Bool×Unit)×List (Int×Int×Int×List UInt8×Bool×Unit)×Unit)=@hq (List (List UInt8)×List Int×List (List UInt8×Int×Bool×Unit)×List (Int×Int×Int×List UInt8×Bool×Unit)×Unit)
  let zu:=fun(E:Nat×List (List UInt8)×List (List (List UInt8)×List Int×List (List UInt8×Int×Bool×Unit)×List (Int×Int×Int×List UInt8×Bool×Unit)×Unit))=>(zi E=zi E/\(cF (ze E).1).1.2.1=(cF (ze E).1).1.2.1/\(cF (ze E).1).1.2.2.1=(cF (ze E).1).1.2.2.1/\(cF (ze E).1).1.2.2.2.1=(cF (ze E).1).1.2.2.2.1/\True)/\@hq (Int×Int×Int×List UInt8×Bool×Unit)=@hq (Int×Int×Int×List UInt8×Bool×Unit)/\@hq (List UInt8×Int×Bool×Unit)=@hq (List UInt8×Int×Bool×Unit)/\@hq Int=@hq Int/\zq/\zr/\zs E=zs E/\zt/\zq/\True
  let zv:=fun(F:Nat) (E:Nat×List (List UInt8)×List (List (List UInt8)×List Int×List (List UInt8×Int×Bool×Unit)×List (Int×Int×Int×List UInt8×Bool×Unit)×Unit))=>0<=(↑F:Int)/\(↑F:Int)<(↑(zj E):Int)
  (∃(x:zb),ly zc s (hg x) (gN x).1 (gN x).2/\(0=(↑(hg x):Int)/\[s]=(gN x).1/\@hq (List (List UInt8)×List Int×List (List UInt8×Int×Bool×Unit)×List (Int×Int×Int×List UInt8×Bool×Unit)×Unit)=(gN x).2/\True)/\[s]=(gN x).1/\@hq (List (List UInt8)×List Int×List (List UInt8×Int×Bool×Unit)×List (Int×Int×Int×List UInt8×Bool×Unit)×Unit)=(gN x).2/\True)/\∀E:Nat×List (List UInt8)×List (List (List UInt8)×List Int×List (List UInt8×Int×Bool×Unit)×List (Int×Int×Int×List UInt8×Bool×Unit)×Unit),ly zc s E.1 E.2.1 E.2.2->gE E.2.1<=aI->((decide (zd E))=true->(0<=(↑E.1:Int)/\zd E)/\True/\(True->((decide ((ze E).2.2 > 0))=true->True/\zf/\([],[],(ze E).2.2,())=zh)/\((decide ((ze E).2.2 > 0))=false->True/\((decide ((cF (ze E).1).2 > 0))=true->True/\zf/\([],[],(cF (ze E).1).2,())=zh)/\((decide ((cF (ze E).1).2 > 0))=false->(E.2.2=E.2.2/\gE E.2.2+gE [(cF (ze E).1).1]<=1000000000)/\(∃(x:Nat),x<=zj E/\(0=(↑x:Int)/\E.2.1=fQ E.2.1 (hx x (zi E))/\True)/\E.2.1=fQ E.2.1 (hx x (zi E))/\True)/\∀F:Nat,F<=zj E->zj E<=aI->((decide ((↑F:Int)<(↑(zj E):Int)))=true->(∃(x:Nat),x<=zl E F/\(0=(↑x:Int)/\false=hP (hx x (zk E F)) (zm E F)/\True)/\True)/\∀G:Nat,G<=zl E F->zl E F<=aI->((decide ((↑G:Int)<(↑(zl E F):Int)))=true->((hP (hx G (zk E F)) (zm E F))=true->zn G->zo->aF (zp G)/\∃(x':Nat),x'<=zl E F/\zl E F-x'<zl E F-G/\(zp G=(↑x':Int)/\true=hP (hx x' (zk E F)) (zm E F)/\True)/\zk E F=zk E F/\zu E)/\((hP (hx G (zk E F)) (zm E F))=false->(0<=(↑G:Int)/\(↑G:Int)<(↑(zl E F):Int))/\zv F E/\(zn G->zo->aF (zp G)/\∃(x':Nat),x'<=zl E F/\zl E F-x'<zl E F-G/\(zp G=(↑x':Int)/\(nth Ty.str (zk E F) G == nth Ty.str (zi E) F)=hP (hx x' (zk E F)) (zm E F)/\True)/\zk E F=zk E F/\zu E)))/\((decide ((↑G:Int)<(↑(zl E F):Int)))=false->((!hP (hx G (zk E F)) (zm E F))=true->zv F E/\(zk E F=zk E F/\zl E F+gE [nth Ty.str (zi E) F]<=1000000000)/\(zn F->zo->aF (zp F)/\∃(x':Nat),x'<=zj E/\zj E-x'<zj E-F/\(zp F=(↑x':Int)/\zk E F++[nth Ty.str (zi E) F]=fQ E.2.1 (hx x' (zi E))/\True)/\zk E F++[nth Ty.str (zi E) F]=fQ E.2.1 (hx x' (zi E))/\zu E))/\((!hP (hx G (zk E F)) (zm E F))=false->zn F->zo->aF (zp F)/\∃(x':Nat),x'<=zj E/\zj E-x'<zj E-F/\(zp F=(↑x':Int)/\zk E F=fQ E.2.1 (hx x' (zi E))/\True)/\zk E F=fQ E.2.1 (hx x' (zi E))/\zu E)))/\((decide ((↑F:Int)<(↑(zj E):Int)))=false->aF (↑E.1:Int)->zo->aF ((↑E.1:Int)+1)/\∃(x':zb),ly zc s (hg x') (gN x').1 (gN x').2/\7-hg x'<7-E.1/\((↑E.1:Int)+1=(↑(hg x'):Int)/\zk E F=(gN x').1/\zs E=(gN x').2/\True)/\zk E F=(gN x').1/\zs E=(gN x').2/\zt/\zq/\zr/\True)))))/\((decide (zd E))=false->True/\zf/\(E.2.1,E.2.2,0,())=zh)) (by kernel_rfl) ?_
 dsimp -iota -proj -eta only;dsimp only at hp;refine⟨(⟨(0,[s],[]),ly.zero _ _,⟨rfl,rfl,rfl,dT⟩,(by trivial)⟩),fun E q_0 h0=>iL (fun h1=>⟨?a,dT,fun h2=>iL (fun h3=>(by rw[q_0.LX (dD hp) (by omega) (by omega)];exact⟨dT,rfl,rfl⟩)) (fun h3=>⟨dT,iL (fun h4=>(by rw[q_0.Ql (by omega) (u6 (dD hp) (by omega)) (by omega)];exact⟨dT,rfl,rfl⟩)) (fun h4=>⟨⟨rfl,q_0.Ss⟩,?b,fun F q_1 h5=>iL (fun h6=>⟨?c,fun G q_2 h7=>iL (fun h8=>⟨fun h9 h10 h11=>⟨?d,(⟨G+1,by omega,by omega,⟨by omega,Ze ‹_›,dT⟩,(by trivial)⟩)⟩,fun h9=>⟨?e,?f,fun h10 h11=>⟨?g,(⟨G+1,by omega,by omega,⟨by omega,Zf (by omega) ‹_›,dT⟩,(by trivial)⟩)⟩⟩⟩) (fun h8=>iB (fun h9=>⟨?h,⟨rfl,q_0.Vt (dD hp) (tB (u6 (dD hp) (by omega)) (GP (by omega))) _⟩,fun h10 h11=>⟨?i,(⟨F+1,by omega,by omega,⟨by omega,B0 (by omega) (B3 (j:=G) (by omega) ‹_›),dT⟩,B0 (by omega) (B3 (j:=G) (by omega) ‹_›),(by trivial)⟩)⟩⟩) (fun h9 h10 h11=>⟨?j,(⟨F+1,by omega,by omega,⟨by omega,B1 (by omega) (B3 (j:=G) (by omega) ‹_›),dT⟩,B1 (by omega) (B3 (j:=G) (by omega) ‹_›),(by trivial)⟩)⟩))⟩) (fun h6 h7 h8=>⟨?k,(by exact⟨(E.1+1,_,_),q_0.next (dD hp) (by omega) (tB (u6 (dD hp) (by omega)) (GP (by omega))),by have:=q_0.room (dD hp) (by omega) (tB (u6 (dD hp) (by omega)) (GP (by omega)));simp only;omega,⟨by simp only;omega,B2 (by omega),rfl,dT⟩,B2 (by omega),rfl,(by trivial)⟩)⟩)⟩)⟩)⟩) (fun h1=>(by rw[q_0.done (by omega)];exact⟨dT,rfl,rfl⟩))⟩
 case a|e|f|h=>omega
 case b|c=>exact⟨0,hF _,⟨rfl,rfl,dT⟩,(by trivial)⟩
 case d|g|i|j|k=>simp only[aF,aI]at*;omega
def Tryz.Pu:bY Tryz.prog Tryz.B.eT Tryz.X 100 false (aW Tryz.bW [.obj 0,.d .str] (fun _ x=>x.1.1.length<=6) Tryz.yJ):=
 aZ (B:=(jl Tryz.B [18])) (X:=Tryz.X) (bL.hint (l:=[18]) Tryz.Pr) Tryz.func100 (by kernel_rfl) (fun(a:CD [.obj 0,.d .str]) (x:PD Tryz.bW)=>Tryz.JB a.1 x.1) (fun(a:CD [.obj 0,.d .str]) (x:PD Tryz.bW) hw hp=>Ps a.1 x.1 hw hp)
def XJ(n:Int)(hw:eD [.int .i64] n)(hp:(fun n=>0<=n/\n<=1000000) n):(cL Tryz.B [] Tryz.f130 [] [.int .i64] [.int .i64] (fun x y=>y=(fun n=>cP n) x) n).holds:=by
 refine holds_of (p:=
  let za:=(16:Int)≠(0:Int)
  let zb:=aF (n+(16:Int))
  za/\∀E:Int,E=hY n (16:Int)->((decide (E > (0:Int)))=true->aF n->aF (16:Int)->zb/\za/\∀F:Int,F=hY n (16:Int)->zb->aF F->aF (n+(16:Int)-F)/\n+(16:Int)-F=cP n)/\((decide (E > (0:Int)))=false->n=cP n)) (by kernel_rfl) ?_
 dsimp -iota -proj -eta only;refine⟨?a,fun E q_0=>iL (fun h0 h1 h2=>⟨?b,?c,fun F q_1 h3 h4=>⟨?d,?e⟩⟩) (fun h0 =>?f)⟩
 case a|c=>omega
 case b|d=>simp only[aF]at*;omega
 case e|f=>subst_vars;simp only[ix hp.1]at*;(try unfold cP);(try simp only[aF]);omega
def Tryz.XK:bO Tryz.prog Tryz.B.eT Tryz.X 130 [.int .i64] [.int .i64] (fun n=>0<=n/\n<=1000000) (fun x y=>y=(fun n=>cP n) x):=
 bP (X:=Tryz.X) (bJ Tryz.bI) Tryz.func130 (by kernel_rfl) (fun _=>[]) (fun x hw hp=>XJ x hw hp)
def Tryz.JC:List (FuncId×(Bool×aX)):=[(130,Tryz.spZ30)]
def Tryz.Pv:bL Tryz.prog Tryz.B Tryz.X Tryz.JC:=
 aM (aE Tryz.XK) (bJ Tryz.bI)
def JD(s:List Int)(l:List (D bA)):cU:=[
 (0,fun st=>{X:=Nat,inv:=fun i=>i<=s.length/\∀j,j<i->1<=(nth (.int .i64) s j:Int)/\(nth (.int .i64) s j:Int)<=40,bF:=fun i=>s.length-i,aY:=fun i=>[(6,sI i)],keep:=[0,1]}),
 (2,fun st=>{X:=Nat,inv:=fun i=>i<=l.length/\∀j,j<i->ke (nth bA l j),bF:=fun i=>l.length-i,aY:=fun i=>[(7,sI i)],keep:=[0,1]}),
 (4,fun st=>{X:=Nat,inv:=fun i=>i<=l.length,bF:=fun i=>l.length-i,aY:=fun i=>[(10,sI i)],aH:=fun i=>[(aT st 9,.arr .bool (l7 (l.take i)))],keep:=[0,1,4,5,9],eA:=[aT st 9]}),
 (6,fun st=>{X:=Nat,inv:=fun k=>(k:Int)<=(nth bA l (bG (.int .i64) st 10).toNat).2.1,bF:=fun k=>300-k,aY:=fun k=>[(11,sI k)],aH:=fun k=>[(aT st 9,.arr .bool (jP (rowOf .bool st (aT st 9)) (nth bA l (bG (.int .i64) st 10).toNat).1 k))],keep:=[0,1,4,5,9,10,73,74,75,76],eA:=[aT st 9]}),
 (8,fun st=>{X:=Nat×List (D bA)×List Int,inv:=fun x=>x.1<=s.length/\fR x.2.1 (s.drop x.1) x.2.2=fR l s []/\(∀y∈x.2.1,ke y)/\x.2.1.length=l.length+x.1/\x.2.2.length=x.1,bF:=fun x=>s.length-x.1,aY:=fun x=>[(13,sI x.1),(12,.s (.one (.app (.int .i64) x.2.2 (aT st 12))))],aH:=fun x=>[(aT st 9,.arr .bool (l7 x.2.1)),(aT st 12,.tok (.int .i64) x.2.2)],keep:=[0,9],eA:=[aT st 9,aT st 12]}),
 (10,fun st=>{X:=Nat,inv:=fun j=>j<=32/\oD (rowOf .bool st (aT st 9)) (bG (.int .i64) st 14) (40-j) (16*(j:Int))=oD (rowOf .bool st (aT st 9)) (bG (.int .i64) st 14) 40 0,bF:=fun j=>40-j,aY:=fun j=>[(15,sI (16*(j:Int)))],keep:=[0,4,5,9,12,13,14,96,97,98,99,102,103,104,105,106]}),
 (12,fun st=>{X:=Nat,inv:=fun k=>(k:Int)<=bG (.int .i64) st 14,bF:=fun k=>300-k,aY:=fun k=>[(17,sI k),(16,sB (jO (rowOf .bool st (aT st 9)) (bG (.int .i64) st 15) k))],keep:=[0,4,5,9,12,13,14,15,96,97,98,99,102,103,104,105,106]}),
 (14,fun st=>{X:=Nat,inv:=fun k=>(k:Int)<=bG (.int .i64) st 14,bF:=fun k=>300-k,aY:=fun k=>[(18,sI k)],aH:=fun k=>[(aT st 9,.arr .bool (jP (rowOf .bool st (aT st 9)) (bG (.int .i64) st 15) k))],keep:=[0,4,5,9,12,13,14,15,16,17,96,97,98,99,102,103,104,105,106,107,108,109,110,111,112,113,114,115,116,117,118,119,120,121,122,123,124,125,126,127,128,129,130,131,132,133],eA:=[aT st 9]})]
def XL(s:List Int)(l:List (D bA))(hw:eD [.slice (.int .i64),.slice bA] (s,l)):(cL Tryz.B Tryz.JC Tryz.f101 (JD s l) [.slice (.int .i64),.slice bA] [.slice (.int .i64),.int .i64] (fun x y=>y=(fun x=>py x) x) (s,l)).holds:=by
 refine holds_of (p:=
  let za:=gE s
  let zb:=za<=aI
  let zc:=(↑za:Int)
  let zd:=py (s,l)
  let ze:=([],(2:Int))=zd
  let zf:=gE l
  let zg:=zf<=aI
  let zh:=Ty.int hD
  let zi:=fun(E:Nat)=>(↑E:Int)
  let zj:=fun(E:Nat)=>(0:Int)<=zi E/\zi E<zc
  let zk:=([],(1:Int))=zd
  let zl:=fun(E:Nat)=>aF (zi E)
  let zm:=aF (1:Int)
  let zn:=fun(E:Nat)=>zi E+(1:Int)
  let zo:=fun(E:Nat)=>aF (zn E)
  let zp:=@hq Int=@hq Int/\True
  let zq:=fun(F:Nat)=>decide (zi F<(↑zf:Int))
  let zr:=fun(F:Nat)=>(0:Int)<=zi F/\zi F<(↑zf:Int)
  let zs:=fun(F:Nat)=>(nth bA l F).1
  let zt:=fun(F:Nat)=>(nth bA l F).2.1
  let zu:=fun(G:Nat)=>l7 (hx G l)
  let zv:=(↑(600:Nat):Int)
  let zw:=Int×Int×Unit
  let zx:=Nat×List zw×List Int
  let zy:=fR l s (@hq Int)
  let zz:=fun(I:Nat×List (Int×Int×Unit)×List Int)=>l7 I.2.1
  let zaa:=fun(I:Nat×List (Int×Int×Unit)×List Int)=>cP (nth zh s I.1)
  let zab:=fun(I:Nat×List (Int×Int×Unit)×List Int)=>oD (zz I) (zaa I) (40:Nat) (0:Int)
  let zac:=fun(K:Nat)=>(16:Int)*zi K
  let zad:=fun(K M:Nat)=>zac K+zi M
  let zae:=fun(I:Nat×List (Int×Int×Unit)×List Int)=>zz I=zz I/\I.2.2=I.2.2/\zp
  let zaf:=fun(I:Nat×List (Int×Int×Unit)×List Int) (K:Nat) (M:Nat)=>((jO (zz I) (zac K) M)=true->aF (zac K)->aF (zaa I)->aF (zac K+zaa I)/\((decide (zac K+zaa I > (256:Int)))=true->([],(8:Int))=zd)/\((decide (zac K+zaa I > (256:Int)))=false->(∃(x:Nat),(↑x:Int)<=zaa I/\((0:Int)=(↑x:Int)/\True)/\zz I=jP (zz I) (zac K) x/\True)/\∀Q:Nat,zi Q<=zaa I->((decide (zi Q<zaa I))=true->aF (zac K)->zl Q->aF (zad K Q)/\((0:Int)<=zad K Q/\zad K Q<zv/\zad K Q<(↑(gE (jP (zz I) (zac K) Q)):Int))/\hA (zad K Q)<gE (jP (zz I) (zac K) Q)/\(zl Q->zm->zo Q/\∃(x':Nat),(↑x':Int)<=zaa I/\(300:Nat)-x'<(300:Nat)-Q/\(zn Q=(↑x':Int)/\True)/\hR (jP (zz I) (zac K) Q) (hA (zad K Q)) true=jP (zz I) (zac K) x'/\I.2.2=I.2.2/\zp))/\((decide (zi Q<zaa I))=false->(I.2.2=I.2.2/\gE I.2.2+gE [zac K]<=(1000000000:Nat))/\(aF (↑I.1:Int)->zm->aF ((↑I.1:Int)+(1:Int))/\∃(x':zx),(hg x'<=za/\fR (gN x').1 (hB (hg x') s) (gN x').2=zy/\(∀(y:zw),y∈(gN x').1->ke y)/\gE (gN x').1=zf+hg x'/\gE (gN x').2=hg x')/\za-hg x'<za-I.1/\((↑I.1:Int)+(1:Int)=(↑(hg x'):Int)/\I.2.2++[zac K]=(gN x').2/\True)/\jP (zz I) (zac K) Q=l7 (gN x').1/\I.2.2++[zac K]=(gN x').2/\zp))))/\((jO (zz I) (zac K) M)=false->aF (zac K)->aF (16:Int)->aF (zac K+(16:Int))/\∃(x':Nat),(x'<=(32:Nat)/\oD (zz I) (zaa I) ((40:Nat)-x') ((16:Int)*(↑x':Int))=zab I)/\(40:Nat)-x'<(40:Nat)-K/\(zac K+(16:Int)=(16:Int)*(↑x':Int)/\True)/\zae I)
  zb->((decide (zc > (6:Int)))=true->ze)/\((decide (zc > (6:Int)))=false->zg->((decide ((↑zf:Int) > (20:Int)))=true->ze)/\((decide ((↑zf:Int) > (20:Int)))=false->(∃(x:Nat),(x<=za/\∀(j:Nat),j<x->(1:Int)<=nth zh s j/\nth zh s j<=(40:Int))/\((0:Int)=(↑x:Int)/\True)/\True)/\∀E:Nat,(E<=za/\∀(j:Nat),j<E->(1:Int)<=nth zh s j/\nth zh s j<=(40:Int))->zb->((decide (zi E<zc))=true->zj E/\((decide (nth zh s E<(1:Int)))=true->zk)/\((decide (nth zh s E<(1:Int)))=false->zj E/\((decide (nth zh s E > (40:Int)))=true->zk)/\((decide (nth zh s E > (40:Int)))=false->zl E->zm->zo E/\∃(x':Nat),(x'<=za/\∀(j:Nat),j<x'->(1:Int)<=nth zh s j/\nth zh s j<=(40:Int))/\za-x'<za-E/\(zn E=(↑x':Int)/\True)/\zp)))/\((decide (zi E<zc))=false->(∃(x:Nat),(x<=zf/\∀(j:Nat),j<x->ke (nth bA l j))/\((0:Int)=(↑x:Int)/\True)/\True)/\∀F:Nat,(F<=zf/\∀(j:Nat),j<F->ke (nth bA l j))->zg->((zq F)=true->zr F/\((decide (zs F<(0:Int)))=true->zk)/\((decide (zs F<(0:Int)))=false->((decide (zs F > (256:Int)))=true->zk)/\((decide (zs F > (256:Int)))=false->((decide (zt F<(0:Int)))=true->zk)/\((decide (zt F<(0:Int)))=false->((decide (zt F > (256:Int)))=true->zk)/\((decide (zt F > (256:Int)))=false->zl F->zm->zo F/\∃(x':Nat),(x'<=zf/\∀(j:Nat),j<x'->ke (nth bA l j))/\zf-x'<zf-F/\(zn F=(↑x':Int)/\True)/\zp)))))/\((zq F)=false->(∃(x:Nat),x<=zf/\((0:Int)=(↑x:Int)/\True)/\List.replicate (600:Nat) (cB Ty.bool)=l7 (hx x l)/\True)/\∀G:Nat,G<=zf->zg->((zq G)=true->(∃(x:Nat),(↑x:Int)<=zt G/\((0:Int)=(↑x:Int)/\True)/\zu G=jP (zu G) (zs G) x/\True)/\∀I:Nat,zi I<=zt G->zr G/\((decide (zi I<zt G))=true->zr G/\(aF (zs G)->zl I->aF (zs G+zi I)/\((0:Int)<=zs G+zi I/\zs G+zi I<zv/\zs G+zi I<(↑(gE (jP (zu G) (zs G) I)):Int))/\hA (zs G+zi I)<gE (jP (zu G) (zs G) I)/\(zl I->zm->zo I/\∃(x':Nat),(↑x':Int)<=zt G/\(300:Nat)-x'<(300:Nat)-I/\(zn I=(↑x':Int)/\True)/\hR (jP (zu G) (zs G) I) (hA (zs G+zi I)) true=jP (zu G) (zs G) x'/\zp)))/\((decide (zi I<zt G))=false->zl G->zm->zo G/\∃(x':Nat),x'<=zf/\zf-x'<zf-G/\(zn G=(↑x':Int)/\True)/\jP (zu G) (zs G) I=l7 (hx x' l)/\zp))/\((zq G)=false->(∃(x:zx),(hg x<=za/\fR (gN x).1 (hB (hg x) s) (gN x).2=zy/\(∀(y:zw),y∈(gN x).1->ke y)/\gE (gN x).1=zf+hg x/\gE (gN x).2=hg x)/\((0:Int)=(↑(hg x):Int)/\@hq Int=(gN x).2/\True)/\zu G=l7 (gN x).1/\@hq Int=(gN x).2/\True)/\∀I:Nat×List (Int×Int×Unit)×List Int,I.1<=za/\fR I.2.1 (hB I.1 s) I.2.2=zy/\(∀(y:zw),y∈I.2.1->ke y)/\gE I.2.1=zf+I.1/\gE I.2.2=I.1->zb->((decide ((↑I.1:Int)<zc))=true->((0:Int)<=(↑I.1:Int)/\(↑I.1:Int)<zc)/\((0:Int)<=nth zh s I.1/\nth zh s I.1<=(1000000:Int))/\(∃(x:Nat),(x<=(32:Nat)/\oD (zz I) (zaa I) ((40:Nat)-x) ((16:Int)*(↑x:Int))=zab I)/\((0:Int)=(16:Int)*(↑x:Int)/\True)/\True)/\∀K:Nat,K<=(32:Nat)/\oD (zz I) (zaa I) ((40:Nat)-K) (zac K)=zab I->(∃(x:Nat),(↑x:Int)<=zaa I/\((0:Int)=(↑x:Int)/\true=jO (zz I) (zac K) x/\True)/\True)/\∀M:Nat,zi M<=zaa I->((decide (zi M<zaa I))=true->((jO (zz I) (zac K) M)=true->aF (zac K)->zl M->aF (zad K M)/\((decide (zad K M>=(600:Int)))=true->zl M->zm->zo M/\∃(x':Nat),(↑x':Int)<=zaa I/\(300:Nat)-x'<(300:Nat)-M/\(zn M=(↑x':Int)/\true=jO (zz I) (zac K) x'/\True)/\zae I)/\((decide (zad K M>=(600:Int)))=false->aF (zac K)->zl M->aF (zad K M)/\((0:Int)<=zad K M/\zad K M<zv/\zad K M<(↑(gE (zz I)):Int))/\hA (zad K M)<gE (zz I)/\(zl M->zm->zo M/\∃(x':Nat),(↑x':Int)<=zaa I/\(300:Nat)-x'<(300:Nat)-M/\(zn M=(↑x':Int)/\(!nth Ty.bool (zz I) (hA (zad K M)))=jO (zz I) (zac K) x'/\True)/\zae I)))/\((jO (zz I) (zac K) M)=false->zaf I K M))/\((decide (zi M<zaa I))=false->zaf I K M))/\((decide ((↑I.1:Int)<zc))=false->(I.2.2,(0:Int))=zd))))))) (by kernel_rfl) ?_
 dsimp -iota -proj -eta only;refine fun h0=>iL (fun h1 =>?a) (fun h1 h2=>iL (fun h3 =>?b) (fun h3=>⟨?c,fun E q_0 h4=>iL (fun h5=>⟨?d,iL (fun h6 =>?e) (fun h6=>⟨?f,iL (fun h7 =>?g) (fun h7 h8 h9=>⟨?h,(by(try dsimp only[D]at*);exact⟨E+1,⟨by omega,fun j hj=>by by_cases e:j=E;(subst e;(try dsimp only[D]);omega);exact q_0.2 j (by omega)⟩,by omega,⟨by omega,dT⟩,(by trivial)⟩)⟩)⟩)⟩) (fun h5=>⟨?i,fun F q_1 h6=>iL (fun h7=>⟨?j,iL (fun h8 =>?k) (fun h8=>iL (fun h9 =>?l) (fun h9=>iL (fun h10 =>?m) (fun h10=>iL (fun h11 =>?n) (fun h11 h12 h13=>⟨?o,(by(try dsimp only[D]at*);exact⟨F+1,⟨by omega,fun j hj=>by by_cases e:j=F;(subst e;unfold ke;(try dsimp only[D]);omega);exact q_1.2 j (by omega)⟩,by omega,⟨by omega,dT⟩,(by trivial)⟩)⟩))))⟩) (fun h7=>⟨?p,fun G q_2 h8=>iL (fun h9=>⟨?q,fun I q_3=>⟨?r,iL (fun h10=>⟨?s,fun h11 h12=>⟨?t,?u,?v,fun h13 h14=>⟨?w,?x⟩⟩⟩) (fun h10 h11 h12=>⟨?y,(by(try dsimp only[D]at*);exact⟨G+1,by omega,by omega,⟨by omega,dT⟩,RL (by omega) (by(try dsimp only[D]);omega),(by trivial)⟩)⟩)⟩⟩) (fun h9=>⟨(⟨(0,l,[]),⟨hF _,rfl,(fun y (hy:y∈l)=>by obtain⟨i,hi,e⟩:=gT (t:=bA) hy;rw[<-e];exact q_1.2 i (by omega)),rfl,rfl⟩,(by trivial),by rw[hN (by omega)],(by trivial)⟩),fun I q_3 h10=>iL (fun h11=>⟨?z,(by have:=q_0.2 I.1 (by omega);(try dsimp only[D]at*);omega),?a0,fun K q_4=>⟨?a1,fun M q_5=>iL (fun h12=>⟨fun h13 h14 h15=>⟨?a2,iE (fun h16 h17 h18=>⟨?a3,?a4⟩) (fun h16 h17 h18=>⟨?a5,?a6,?a7,fun h19 h20=>⟨?a8,?a9⟩⟩)⟩,fun h13=>⟨fun h14 h15 h16=>⟨?aa,iL (fun h17 =>?ab) (fun h17=>⟨?ac,fun Q q_6=>iL (fun h18 h19 h20=>⟨?ad,?ae,?af,fun h21 h22=>⟨?ag,?ah⟩⟩) (fun h18=>⟨?ai,fun h19 h20=>⟨?aj,?ak⟩⟩)⟩)⟩,fun h14 h15 h16=>⟨?al,?am⟩⟩⟩) (fun h12=>⟨fun h13 h14 h15=>⟨?an,iL (fun h16 =>?ao) (fun h16=>⟨?ap,fun Q q_6=>iL (fun h17 h18 h19=>⟨?aq,?ar,?au,fun h20 h21=>⟨?av,?aw⟩⟩) (fun h17=>⟨(by simp only[hz,true_and];omega),fun h18 h19=>⟨?ax,?ay⟩⟩)⟩)⟩,fun h13 h14 h15=>⟨?az,?b0⟩⟩)⟩⟩) (fun h11=>(by unfold py;rw[sG (by omega) (fun j hj=>q_0.2 j (by omega)) (fun j hj=>q_1.2 j (by omega)),<-q_3.2.1,CB (by omega)];rfl))⟩)⟩)⟩)⟩))
 case a|b=>unfold py;rw[vD (by omega)];rfl
 case c|i|p|a0=>refine⟨0,?_⟩;(repeat' (first|exact trivial|rfl|omega|assumption|apply And.intro))
 case d|f|j|r|s|z=>omega
 case e|g=>(try dsimp only[D]at*);unfold py;rw[vE (by omega) (i:=E) (by omega) (by(try dsimp only[D]);omega)];rfl
 case h|o|y=>simp only[aF,aI]at*;omega
 case k|l|m|n=>(try dsimp only[D]at*);unfold py;rw[tX (by omega) (i:=F) (by omega) (by unfold ke;(try dsimp only[D]);omega)];rfl
 case q=>
  have ok:=q_1.2 G (by omega);unfold ke at ok;(try dsimp only[D]at*);exact⟨0,by omega,⟨rfl,dT⟩,(E5 (tY _)).symm,dT⟩
 case t|w=>
  have ok:=q_1.2 G (by omega);unfold ke at ok;(try dsimp only[D]at*);simp only[aF];omega
 case u|v=>
  have ok:=q_1.2 G (by omega);unfold ke at ok;(try dsimp only[D]at*);rw[q8];omega
 case x=>
  have ok:=q_1.2 G (by omega);unfold ke at ok;(try dsimp only[D]at*);exact⟨I+1,by omega,by omega,⟨by omega,dT⟩,HN (by omega) (by omega),(by trivial)⟩
 case a1=>
  have hs:=q_0.2 I.1 (by omega);have hr:=eE hs.1 hs.2;exact⟨0,by omega,⟨rfl,rfl,dT⟩,dT⟩
 case a2|a3|a5|a8|al|an|aq|av|ax|az=>
  have hs:=q_0.2 I.1 (by omega);have hr:=eE hs.1 hs.2;simp only[aF];omega
 case a4=>
  have hs:=q_0.2 I.1 (by omega);have hr:=eE hs.1 hs.2;exact⟨M+1,by omega,by omega,⟨by omega,N6 h13 (by omega),dT⟩,(by trivial)⟩
 case a6|a7=>
  have hs:=q_0.2 I.1 (by omega);have hr:=eE hs.1 hs.2;rw[tY];omega
 case a9=>
  have hs:=q_0.2 I.1 (by omega);have hr:=eE hs.1 hs.2;exact⟨M+1,by omega,by omega,⟨by omega,N7 h13 (by omega),dT⟩,(by trivial)⟩
 case aa|ab|ac|ad|ae|af|ag|ah|ai|aj|ak=>exact absurd (h14.symm.trans h13) (by decide)
 case am|b0=>
  have hs:=q_0.2 I.1 (by omega);have hr:=eE hs.1 hs.2;have hfu:jO (l7 I.2.1) (16*(K:Int)) (cP (nth (.int .i64) s I.1)).toNat=false:=RM (by omega) h13;have hn:=HJ q_3.2.2.1 ((E8 q_3.2.2.1 (by omega) (by omega)).symm.trans hfu);exact⟨K+1,⟨by omega,by rw[<-q_4.2,show 40-K=(40-(K+1))+1 by omega,Yz hfu,show 16*((K+1:Nat):Int)=16*(K:Int)+16 by omega]⟩,by omega,⟨by omega,dT⟩,(by trivial)⟩
 case ao=>
  have hs:=q_0.2 I.1 (by omega);have hr:=eE hs.1 hs.2;have e5:M=hA (cP (nth (.int .i64) s I.1)):=(by omega);rw[e5]at h13;have hb:=q_4.2.symm.trans (E7 h13);rw[E9 q_3.2.2.1 (by omega) _ _ (by omega)]at hb;unfold py;rw[sG (by omega) (fun j hj=>q_0.2 j (by omega)) (fun j hj=>q_1.2 j (by omega)),<-q_3.2.1,oW (by omega),if_pos (by rw[hb];omega)];rfl
 case ap=>
  have hs:=q_0.2 I.1 (by omega);have hr:=eE hs.1 hs.2;exact⟨0,by omega,⟨rfl,dT⟩,(E5 (tY _)).symm,dT⟩
 case ar|au=>
  have hs:=q_0.2 I.1 (by omega);have hr:=eE hs.1 hs.2;rw[q8];omega
 case aw=>
  have hs:=q_0.2 I.1 (by omega);have hr:=eE hs.1 hs.2;exact⟨Q+1,by omega,by omega,⟨by omega,dT⟩,HN (by omega) (by omega),(by trivial)⟩
 case ay=>
  have hs:=q_0.2 I.1 (by omega);have hr:=eE hs.1 hs.2;have e5:M=hA (cP (nth (.int .i64) s I.1)):=(by omega);rw[e5]at h13;have hb:=q_4.2.symm.trans (E7 h13);rw[E9 q_3.2.2.1 (by omega) _ _ (by omega)]at hb;exact⟨(I.1+1,I.2.1++[(16*(K:Int),cP (nth (.int .i64) s I.1),())],_),⟨by omega,by rw[<-q_3.2.1,oW (k:=I.1) (by omega),if_neg (by rw[hb];omega),hb],La q_3.2.2.1 (by refine⟨?_,?_,?_,?_⟩ <;> simp only <;> omega),by simp only[hE,hz];omega,by simp only[hE,hz];omega⟩,by simp only;omega,⟨by simp only;omega,rfl,dT⟩,E6 (by omega),(by trivial)⟩
def Tryz.XM:bO Tryz.prog Tryz.B.eT Tryz.X 101 [.slice (.int .i64),.slice bA] [.slice (.int .i64),.int .i64] (fun _=>True) (fun x y=>y=(fun x=>py x) x):=
 bP (X:=Tryz.X) Tryz.Pv Tryz.func101 (by kernel_rfl) (fun x=>JD x.1 x.2) (fun x hw hp=>XL x.1 x.2 hw)
def Tryz.NF:List (FuncId×(Bool×aX)):=[(100,(false,aW Tryz.bW [.obj 0,.d .str] (fun _ x=>x.1.1.length<=6) Tryz.yJ)),(101,(true,bX [.slice (.int .i64),.slice bA] [.slice (.int .i64),.int .i64] (fun _=>True) (fun x=>py x))),(102,(true,bX [.slice aA,.slice (.int .i64)] [.slice aN,.int .i64] (fun x=>jw x.1) (fun x=>((eM x).1,jj (eM x).2))))]
def Tryz.TT:bL Tryz.prog Tryz.B Tryz.X Tryz.NF:=
 aM (Tryz.Pu) (aM (aE Tryz.XM) (aM (aE Tryz.Pk) (bJ Tryz.bI)))
def Tryz.NG(_s:List UInt8)(_f:RS):cU:=[
 (0,fun st=>{X:=Nat,inv:=fun i=>i<=gE (bG (.slice aA) st 8),bF:=fun i=>gE (bG (.slice aA) st 8)-i,aY:=fun i=>[(11,sI i),(10,.s (.one (.app (.int .i64) (bV (hx i (bG (.slice aA) st 8))) (aT st 10))))],aH:=fun i=>[(aT st 10,.tok (.int .i64) (bV (hx i (bG (.slice aA) st 8))))],keep:=[4,5,6,7,8,9],eA:=[aT st 10]}),
 (200002,fun st=>{X:=Nat,inv:=fun i=>i<=gE (bG (.slice aA) st 8),bF:=fun i=>gE (bG (.slice aA) st 8)-i,aY:=fun i=>[(15,sI i)],aU:=[.ext 0 (.slice cE)],refs:=[(14,0)],pd:=fun i=>(eV (bG (.slice .str) st 7) (bG (.slice (.int .i64)) st 12) (iU (cR (bG (.slice aA) st 8)) (bG (.slice aN) st 13)) i,()),keep:=[4,5,6,7,8,12,13]}),
 (4,fun st=>{X:=Nat,inv:=fun k=>k<=gE (bG (.slice aN) st 13),bF:=fun k=>gE (bG (.slice aN) st 13)-k,aY:=fun k=>[(17,sI k)],aH:=fun k=>[(aT st 16,.bC (.int .i64) (mK (nth aA (bG (.slice aA) st 8) (bG (.int .i64) st 15).toNat).2.1 (bG (.int .i64) st 15).toNat (hx k (bG (.slice aN) st 13))))],keep:=[4,5,6,7,8,12,13,14,15,16,60,61,62,63,66,67,68,69,70,71],eA:=[aT st 16]})]
def Tryz.BA:List (Alt Tryz.bW [.obj 0,.d .str]):=[{bS:=Tryz.bW,res:=[.d (.slice cE),.d (.slice aN),.d (.int .i64)],out:=fun _ x=>x,ret:=fun a x=>((cI (bU x.1.1) a.1).1,(bB (bU x.1.1) a.1).2.2.2.1,(cI (bU x.1.1) a.1).2,())}]
def TU(s:List UInt8)(f:RS)(hw:fM [.obj 0,.d .str] (s,()))(hp:(fun _ x=>x.1.1.length<=6) (s,()) (f,())):(cO (jl Tryz.B [14]) Tryz.NF Tryz.f58 (Tryz.NG s f) Tryz.bW [.obj 0,.d .str] Tryz.BA (s,()) (f,())).holds:=by
 refine holds_of (p:=
  let za:=bU f.1
  let zb:=aR za s
  let zc:=(f,())=(f,())
  let zd:=((cI za s).1,(bB za s).2.2.2.1,(cI za s).2,())
  let ze:=zb.2.1
  let zf:=gE ze
  let zg:=fun(E:Nat)=>(↑E:Int)
  let zh:=fun(E:Nat)=>decide (zg E<(↑zf:Int))
  let zi:=fun(E:Nat)=>0<=zg E
  let zj:=fun(E:Nat)=>zi E/\zg E<(↑zf:Int)
  let zk:=fun(E:Nat)=>(nth aA ze E).2.1
  let zl:=fun(E:Nat)=>bV (hx E ze)
  let zm:=aF 1
  let zn:=fun(E:Nat)=>zg E+1
  let zo:=fun(E:Nat)=>zl E++[(↑(gE (zk E)):Int)]
  let zp:=(f.1=f.1/\f.2.1=f.2.1/\True)/\@hq (Int×Int×Int×Unit)=@hq (Int×Int×Int×Unit)/\@hq (List UInt8×Int×List Int×Unit)=@hq (List UInt8×Int×List Int×Unit)/\True
  let zq:=fun(E:Nat)=>cC (zl E,[])
  let zr:=fun(E:Nat)=>jj (eM (ze,(zq E).1)).2
  let zs:=fun(E:Nat)=>zl E=zl E/\zp
  let zt:=!false
  let zu:=(zt&&(zt&&(zt&&(zt&&true))))=true
  let zv:=fun(E:Nat)=>(eM (ze,(zq E).1)).1
  let zw:=fun(E:Nat)=>iU (cR ze) (zv E)
  let zx:=fun(E:Nat)=>gE (zv E)
  let zy:=fun(G E:Nat)=>zi G/\zg G<(↑(zx E):Int)
  let zz:=fun(F G E:Nat)=>mK (zk F) F (hx G (zv E))
  let zaa:=fun(E F:Nat)=>eV zb.1 (zq E).1 (zw E) F
  let zab:=fun(F E G:Nat)=>[(nth Ty.str zb.1 F,nth (Ty.int hD) (zq E).1 F,zz F G E,())]
  gE f.1<=6/\(True->((decide (zb.2.2 > 0))=true->True/\zc/\([],[],zb.2.2,())=zd)/\((decide (zb.2.2 > 0))=false->(∃(x:Nat),x<=zf/\(0=(↑x:Int)/\@hq Int=bV (hx x ze)/\True)/\@hq Int=bV (hx x ze)/\True)/\∀E:Nat,E<=zf->zf<=aI->((zh E)=true->zj E/\(gE (zk E)<=aI->(zl E=zl E/\gE (zl E)+gE [(↑(gE (zk E)):Int)]<=1000000000)/\(aF (zg E)->zm->aF (zn E)/\∃(x':Nat),x'<=zf/\zf-x'<zf-E/\(zn E=(↑x':Int)/\zo E=bV (hx x' ze)/\True)/\zo E=bV (hx x' ze)/\zp)))/\((zh E)=false->True/\((decide (jj (zq E).2 > 0))=true->True/\zc/\([],[],jj (zq E).2,())=zd)/\((decide (jj (zq E).2 > 0))=false->jw ze/\((decide (zr E > 0))=true->True/\zc/\([],[],zr E,())=zd)/\((decide (zr E > 0))=false->(∃(x':Nat),x'<=zf/\True/\(0=(↑x':Int)/\True)/\zs E/\zu/\([],())=(eV zb.1 (zq E).1 (zw E) x',()))/\∀F:Nat,F<=zf->zf<=aI->((zh F)=true->zj F/\gE (zk F)<=1000000000/\(∃(x:Nat),x<=zx E/\(0=(↑x:Int)/\True)/\zk F=mK (zk F) F (hx x (zv E))/\True)/\∀G:Nat,G<=zx E->zx E<=aI->((decide (zg G<(↑(zx E):Int)))=true->zy G E/\(((nth aN (zv E) G).1 == zg F)=true->zy G E/\zy G E/\(0<=(nth aN (zv E) G).2.1/\(nth aN (zv E) G).2.1<(↑(gE (zz F G E)):Int))/\hA (nth aN (zv E) G).2.1<gE (zz F G E)/\(aF (zg G)->zm->aF (zn G)/\∃(x':Nat),x'<=zx E/\zx E-x'<zx E-G/\(zn G=(↑x':Int)/\True)/\hR (zz F G E) (hA (nth aN (zv E) G).2.1) (nth aN (zv E) G).2.2.1=mK (zk F) F (hx x' (zv E))/\zaa E F=zaa E F/\zs E))/\(((nth aN (zv E) G).1 == zg F)=false->aF (zg G)->zm->aF (zn G)/\∃(x':Nat),x'<=zx E/\zx E-x'<zx E-G/\(zn G=(↑x':Int)/\True)/\zz F G E=mK (zk F) F (hx x' (zv E))/\zaa E F=zaa E F/\zs E))/\((decide (zg G<(↑(zx E):Int)))=false->(zi F/\zg F<(↑(gE zb.1):Int))/\(zi F/\zg F<(↑(gE (zq E).1):Int))/\(0<gE (zab F E G)/\gE (zaa E F)+gE (zab F E G)<=1000000000)/\(aF (zg F)->zm->aF (zn F)/\∃(x':Nat),x'<=zf/\zf-x'<zf-F/\(zn F=(↑x':Int)/\True)/\zs E/\zu/\(zaa E F++zab F E G,())=(eV zb.1 (zq E).1 (zw E) x',()))))/\((zh F)=false->True/\zc/\(zaa E F,zv E,0,())=zd))))))) (by kernel_rfl) ?_
 dsimp -iota -proj -eta only;dsimp only at hp;refine⟨(by trivial),fun h0=>iL (fun h1=>⟨dT,rfl,LJ (by omega)⟩) (fun h1=>⟨(⟨0,hF _,⟨rfl,rfl,dT⟩,rfl,dT⟩),fun E q_0 h2=>iL (fun h3=>⟨?a,fun h4=>⟨(by exact⟨rfl,by rw[pF,hM];have:=AX (dD hp) (hJ h1 (iK (dD hp) s));simp only[hz];omega⟩),fun h5 h6=>⟨?b,(⟨E+1,by omega,by omega,⟨by omega,(sj (by omega)).symm,dT⟩,(sj (by omega)).symm,(by trivial)⟩)⟩⟩⟩) (fun h3=>⟨dT,iL (fun h4 =>?c) (fun h4=>⟨(Fw (dD hp) (hJ h1 (iK (dD hp) s))),iL (fun h5 =>?d) (fun h5=>⟨(⟨0,hF _,dT,⟨rfl,dT⟩,(by trivial),rfl,rfl⟩),fun F q_1 h6=>iL (fun h7=>⟨?e,?f,(⟨0,hF _,⟨rfl,dT⟩,rfl,(by trivial)⟩),fun G q_2 h8=>iL (fun h9=>⟨?g,iQ (fun h10=>⟨?h,?i,?j,?k,fun h11 h12=>⟨?l,(⟨G+1,by omega,by omega,⟨by omega,dT⟩,YD (by omega) h10,(by trivial)⟩)⟩⟩) (fun h10 h11 h12=>⟨?m,(⟨G+1,by omega,by omega,⟨by omega,dT⟩,UP (by omega) h10,(by trivial)⟩)⟩)⟩) (fun h9=>⟨(by have:=(ya (dD hp) (hJ h1 (iK (dD hp) s))).len;omega),?n,?o,fun h10 h11=>⟨?p,?q⟩⟩)⟩) (fun h7 =>?r)⟩)⟩)⟩)⟩)⟩
 case a|e|g|h|i=>omega
 case b|l|m|p=>simp only[aF,aI]at*;omega
 case c=>
  have e0:hx E (aR (bU f.1) s).2.1=(aR (bU f.1) s).2.1:=mL (by omega);rw[e0]at h4 ⊢;exact⟨dT,rfl,LK (hJ h1 (iK (dD hp) s)) h4⟩
 case d=>
  have e0:hx E (aR (bU f.1) s).2.1=(aR (bU f.1) s).2.1:=mL (by omega);rw[e0]at h4 h5 ⊢;exact⟨dT,rfl,Sb (hJ h1 (iK (dD hp) s)) (LL (tc _) h4) h5⟩
 case f=>
  have e0:hx E (aR (bU f.1) s).2.1=(aR (bU f.1) s).2.1:=mL (by omega);rw[e0]at h4 h5;obtain⟨hr,er⟩:=wL (dD hp) (hJ h1 (iK (dD hp) s)) h4 h5;exact j2 ((Fx (dD hp) hr.sc).2 F (by omega)) (by decide)
 case j|k=>
  have e0:hx E (aR (bU f.1) s).2.1=(aR (bU f.1) s).2.1:=mL (by omega);rw[e0]at h4 h5 h9 h10 ⊢;obtain⟨hr,er⟩:=wL (dD hp) (hJ h1 (iK (dD hp) s)) h4 h5;have:=Y2 hr (i:=F) (k:=G) (by omega) h10 (by omega)
  first|exact this|exact(Int.toNat_lt this.1).2 this.2
 case n=>
  have e0:hx E (aR (bU f.1) s).2.1=(aR (bU f.1) s).2.1:=mL (by omega);rw[e0]at h4 h5 ⊢;obtain⟨hr,er⟩:=wL (dD hp) (hJ h1 (iK (dD hp) s)) h4 h5;have:=hr.bl;omega
 case o=>
  refine⟨by simp,?_⟩;rw[rm];have:=AX (dD hp) (hJ h1 (iK (dD hp) s));simp only[hz];omega
 case q=>
  have e0:hx E (aR (bU f.1) s).2.1=(aR (bU f.1) s).2.1:=mL (by omega);rw[e0]at h4 h5 h9 ⊢;obtain⟨hr,er⟩:=wL (dD hp) (hJ h1 (iK (dD hp) s)) h4 h5;exact⟨F+1,by omega,by omega,⟨by omega,dT⟩,(by trivial),rfl,congrArg (·,()) (Sc hr (by omega) (by rw[mL (by omega)]))⟩
 case r=>
  have e0:hx E (aR (bU f.1) s).2.1=(aR (bU f.1) s).2.1:=mL (by omega);rw[e0]at h4 h5 ⊢;obtain⟨hr,er⟩:=wL (dD hp) (hJ h1 (iK (dD hp) s)) h4 h5;rw[show F=gE (aR (bU f.1) s).2.1 by omega];exact⟨dT,rfl,Oo hr er⟩
def Tryz.Gl:bY Tryz.prog Tryz.B.eT Tryz.X 58 false (aW Tryz.bW [.obj 0,.d .str] (fun _ x=>x.1.1.length<=6) Tryz.BA):=
 aZ (B:=(jl Tryz.B [14])) (X:=Tryz.X) (bL.hint (l:=[14]) Tryz.TT) Tryz.func58 (by kernel_rfl) (fun(a:CD [.obj 0,.d .str]) (x:PD Tryz.bW)=>Tryz.NG a.1 x.1) (fun(a:CD [.obj 0,.d .str]) (x:PD Tryz.bW) hw hp=>TU a.1 x.1 hw hp)
def Tryz.spZ36:Bool×aX:=(false,aW Tryz.bW [.obj 0,.d .str] (fun _ x=>x.1.1.length<=6) Tryz.BA)
def Tryz.NH:List (FuncId×(Bool×aX)):=[(58,Tryz.spZ36),(51,Tryz.spZ35)]
def Tryz.TV:bL Tryz.prog Tryz.B Tryz.X Tryz.NH:=
 aM (Tryz.Gl) (aM (Tryz.yH) (bJ Tryz.bI))
def Tryz.NI(s:List UInt8)(f:RS):cU:=[
 (0,fun st=>{X:=Nat,inv:=fun i=>i<=gE (bG (.slice cE) st 6),bF:=fun i=>gE (bG (.slice cE) st 6)-i,aY:=fun i=>[(10,sI i)],keep:=[0,4,5,6,9],aH:=fun i=>[(aT st 9,.cells 48 [.d .str s,.app aG (j0 (bU f.1) (hx i (bG (.slice cE) st 6))) (iy st (aT st 9) 1),.d (.slice aN) (bG (.slice aN) st 7)]),(iy st (aT st 9) 1,.tok aG (j0 (bU f.1) (hx i (bG (.slice cE) st 6))))],eA:=[aT st 9,iy st (aT st 9) 1]})]
def Tryz.BB:List (Alt Tryz.bW [.obj 0,.d .str]):=[{bS:=Tryz.bW,res:=[.d aB,.d (.int .i64)],out:=fun _ x=>x,ret:=fun a x=>((cJ (bU x.1.1) a.1).1,(cJ (bU x.1.1) a.1).2,())}]
def XN(s:List UInt8)(f:RS)(hw:fM [.obj 0,.d .str] (s,()))(hp:(fun _ x=>x.1.1.length<=6) (s,()) (f,())):(cO Tryz.B Tryz.NH Tryz.f37 (Tryz.NI s f) Tryz.bW [.obj 0,.d .str] Tryz.BB (s,()) (f,())).holds:=by
 refine holds_of (p:=
  let za:=bU f.1
  let zb:=(cI za s).2
  let zc:=(f,())=(f,())
  let zd:=((cJ za s).1,(cJ za s).2,())
  let ze:=(cI za s).1
  let zf:=gE ze
  let zg:=bU f.1
  let zh:=(bB za s).2.2.2.1
  let zi:=zh=zh/\True
  let zj:=fun(E:Nat)=>0<=(↑E:Int)/\(↑E:Int)<(↑zf:Int)
  let zk:=fun(E:Nat)=>j0 zg (hx E ze)
  let zl:=fun(E:Nat)=>[((nth cE ze E).1,(bU f.1 (nth cE ze E).1).2.1,(nth cE ze E).2.1,())]
  let zm:=@hq (Int×Int×Int×Unit)=@hq (Int×Int×Int×Unit)
  let zn:=@hq (List UInt8×Int×Int×Unit)=@hq (List UInt8×Int×Int×Unit)
  gE f.1<=6/\(True->((decide (zb > 0))=true->True/\zc/\(([],[],[],()),zb,())=zd)/\((decide (zb > 0))=false->(∃(x:Nat),x<=zf/\(0=(↑x:Int)/\True)/\(s=s/\@hq (List UInt8×Int×Int×Unit)=j0 zg (hx x ze)/\zi)/\@hq (List UInt8×Int×Int×Unit)=j0 zg (hx x ze)/\True)/\∀E:Nat,E<=zf->zf<=aI->((decide ((↑E:Int)<(↑zf:Int)))=true->zj E/\True/\(True->zj E/\zj E/\(zk E=zk E/\gE (zk E)+gE (zl E)<=1000000000)/\(aF (↑E:Int)->aF 1->aF ((↑E:Int)+1)/\∃(x':Nat),x'<=zf/\zf-x'<zf-E/\((↑E:Int)+1=(↑x':Int)/\True)/\(s=s/\zk E++zl E=j0 zg (hx x' ze)/\zi)/\zk E++zl E=j0 zg (hx x' ze)/\zm/\zn/\(f.1=f.1/\f.2.1=f.2.1/\True)/\(@hq UInt8=@hq UInt8/\zn/\zm/\True)/\zm/\zn/\True)))/\((decide ((↑E:Int)<(↑zf:Int)))=false->True/\zc/\((s,zk E,zh,()),0,())=zd)))) (by kernel_rfl) ?_
 dsimp -iota -proj -eta only;dsimp only at hp;refine⟨(by trivial),fun h0=>iL (fun h1=>(by exact⟨dT,rfl,by rw[IA (dD hp) h1];rfl⟩)) (fun h1=>⟨(⟨0,hF _,⟨rfl,dT⟩,⟨rfl,rfl,rfl,dT⟩,rfl,(by trivial)⟩),fun E q_0 h2=>iL (fun h3=>⟨?a,dT,fun h4=>⟨?b,?c,?d,fun h5 h6=>⟨(by simp only[aF,aI]at*;omega),(⟨E+1,by omega,by omega,⟨by omega,dT⟩,⟨rfl,Ba (by omega),rfl,dT⟩,Ba (by omega),(by trivial)⟩)⟩⟩⟩) (fun h3=>⟨dT,rfl,by rw[Mh (dD hp) h1 (i:=E) (by omega)]⟩)⟩)⟩
 case a|b|c=>omega
 case d=>refine⟨rfl,Mg ?_⟩;rw[hM];have:=Zk (dD hp) h1;omega
def Tryz.XO:bY Tryz.prog Tryz.B.eT Tryz.X 37 false (aW Tryz.bW [.obj 0,.d .str] (fun _ x=>x.1.1.length<=6) Tryz.BB):=
 aZ (X:=Tryz.X) Tryz.TV Tryz.func37 (by kernel_rfl) (fun(a:CD [.obj 0,.d .str]) (x:PD Tryz.bW)=>Tryz.NI a.1 x.1) (fun(a:CD [.obj 0,.d .str]) (x:PD Tryz.bW) hw hp=>XN a.1 x.1 hw hp)
def Tryz.JE:List (FuncId×(Bool×aX)):=[(51,Tryz.spZ35)]
def Tryz.Pw:bL Tryz.prog Tryz.B Tryz.X Tryz.JE:=
 aM (Tryz.yH) (bJ Tryz.bI)
def Tryz.JF(e:D aB)(f:RS):cU:=[
 (0,fun st=>{X:=Nat,inv:=fun i=>i<=gE e.2.1/\∀j,j<i->gQ (bU f.1) (nth aG e.2.1 j)=true,bF:=fun i=>gE e.2.1-i,aY:=fun i=>[(5,sI i)],keep:=[1,2]})]
def Tryz.yK:List (Alt Tryz.bW [.d aB,.obj 0]):=[{bS:=Tryz.bW,res:=[.d .bool],out:=fun _ x=>x,ret:=fun a x=>(eG (bU x.1.1) a.1,())}]
def XQ(e:D aB)(f:RS)(hw:fM [.d aB,.obj 0] (e,())):(cO Tryz.B Tryz.JE Tryz.f41 (Tryz.JF e f) Tryz.bW [.d aB,.obj 0] Tryz.yK (e,()) (f,())).holds:=by
 refine holds_of (p:=
  let za:=e.2.1
  let zb:=gE za
  let zc:=bU f.1
  let zd:=fun(E:Nat)=>0<=(↑E:Int)/\(↑E:Int)<(↑zb:Int)
  let ze:=fun(E:Nat)=>(bU f.1 (nth aG za E).1).2
  let zf:=(f,())=(f,())
  let zg:=(eG (bU f.1) e,())
  let zh:=True/\zf/\(false,())=zg
  (∃(x:Nat),(x<=zb/\∀(j:Nat),j<x->gQ zc (nth aG za j)=true)/\(0=(↑x:Int)/\True)/\True)/\∀E:Nat,(E<=zb/\∀(j:Nat),j<E->gQ zc (nth aG za j)=true)->zb<=aI->((decide ((↑E:Int)<(↑zb:Int)))=true->zd E/\True/\(True->((decide ((ze E).2 > 0))=true->zh)/\((decide ((ze E).2 > 0))=false->zd E/\(((ze E).1 != (nth aG za E).2.1)=true->zh)/\(((ze E).1 != (nth aG za E).2.1)=false->aF (↑E:Int)->aF 1->aF ((↑E:Int)+1)/\∃(x':Nat),(x'<=zb/\∀(j:Nat),j<x'->gQ zc (nth aG za j)=true)/\zb-x'<zb-E/\((↑E:Int)+1=(↑x':Int)/\True)/\(e.1=e.1/\za=za/\e.2.2.1=e.2.2.1/\True)/\(f.1=f.1/\f.2.1=f.2.1/\True)/\True))))/\((decide ((↑E:Int)<(↑zb:Int)))=false->zb<=aI->True/\zf/\(decide ((↑zb:Int) > 0),())=zg)) (by kernel_rfl) ?_
 dsimp -iota -proj -eta only;refine⟨(⟨0,⟨hF _,fun j hj=>absurd hj (hQ _)⟩,⟨rfl,dT⟩,dT⟩),fun E q_0 h0=>iL (fun h1=>⟨?a,dT,fun h2=>iL (fun h3=>⟨dT,rfl,by rw[yf (i:=E) (by omega) (VN h3)]⟩) (fun h3=>⟨?b,iN (fun h4=>⟨dT,rfl,by rw[yf (i:=E) (by omega) (FI h4)]⟩) (fun h4 h5 h6=>⟨(by simp only[aF,aI]at*;omega),(⟨E+1,⟨by omega,jD q_0.2 (SM (Fe f.1 _) (by omega) h4)⟩,by omega,⟨by omega,dT⟩,(by trivial)⟩)⟩)⟩)⟩) (fun h1 h2=>(by exact⟨dT,rfl,by rw[A6 fun i hi=>q_0.2 i (by omega)];simp⟩))⟩
 case a|b=>omega
def Tryz.XR:bY Tryz.prog Tryz.B.eT Tryz.X 41 false (aW Tryz.bW [.d aB,.obj 0] (fun _ _=>True) Tryz.yK):=
 aZ (X:=Tryz.X) Tryz.Pw Tryz.func41 (by kernel_rfl) (fun(a:CD [.d aB,.obj 0]) (x:PD Tryz.bW)=>Tryz.JF a.1 x.1) (fun(a:CD [.d aB,.obj 0]) (x:PD Tryz.bW) hw hp=>XQ a.1 x.1 hw)
@[reducible] def Tryz.jW:List Ob:=[.box 43 [.d (.slice aB)],.box 39 [.d (.slice dF),.d (.int .i64)]]
def Tryz.JG:List (FuncId×(Bool×aX)):=[(37,(false,aW Tryz.bW [.obj 0,.d .str] (fun _ x=>x.1.1.length<=6) Tryz.BB)),(53,(false,aW Tryz.gw [.obj 0,.d aB] (fun _ x=>x.1.1.length<=1000000) Tryz.Em))]
def Tryz.Px:bL Tryz.prog Tryz.B Tryz.X Tryz.JG:=
 aM (Tryz.XO) (aM (Tryz.acn) (bJ Tryz.bI))
def Tryz.yL:List (Alt Tryz.jW [.obj 0,.obj 1,.d .str]):=[{bS:=Tryz.jW,res:=[.d (.int .i64)],out:=fun a x=>(((kY (bU x.2.1.1) x.1.1 a.1).1,()),x.2),ret:=fun a x=>((kY (bU x.2.1.1) x.1.1 a.1).2,())}]
def XS(s:List UInt8)(o:List (D aB))(f:RS)(hw:fM [.obj 0,.obj 1,.d .str] (s,()))(hp:(fun _ x=>x.1.1.length<=1000000/\x.2.1.1.length<=6) (s,()) ((o,()),f,())):(cO Tryz.B Tryz.JG Tryz.f17 [] Tryz.jW [.obj 0,.obj 1,.d .str] Tryz.yL (s,()) ((o,()),f,())).holds:=by
 refine holds_of (p:=
  let za:=cJ (bU f.1) s
  let zb:=kY (bU f.1) o s
  let zc:=((zb.1,()),f,())
  let zd:=ln o za.1
  gE f.1<=6/\(True->((decide (za.2 > 0))=true->True/\((o,()),f,())=zc/\(za.2,())=(zb.2,()))/\((decide (za.2 > 0))=false->gE o<=1000000/\(True->True/\((zd.1,()),f,())=zc/\(zd.2,())=(zb.2,()))))) (by kernel_rfl) ?_
 dsimp -iota -proj -eta only;dsimp only at hp;refine⟨?a,fun h0=>iL (fun h1=>(by rw[Wm h1];exact⟨dT,rfl,rfl⟩)) (fun h1=>⟨?b,fun h2=>(by rw[S8 (by omega)];exact⟨dT,rfl,rfl⟩)⟩)⟩
 case a|b=>omega
def Tryz.XT:bY Tryz.prog Tryz.B.eT Tryz.X 17 false (aW Tryz.jW [.obj 0,.obj 1,.d .str] (fun _ x=>x.1.1.length<=1000000/\x.2.1.1.length<=6) Tryz.yL):=
 aZ (X:=Tryz.X) Tryz.Px Tryz.func17 (by kernel_rfl) (fun(a:CD [.obj 0,.obj 1,.d .str]) (x:PD Tryz.jW)=>[]) (fun(a:CD [.obj 0,.obj 1,.d .str]) (x:PD Tryz.jW) hw hp=>XS a.1 x.1.1 x.2.1 hw hp)
def Tryz.XU:List (FuncId×(Bool×aX)):=[(57,(false,aW Tryz.gw [.obj 0,.d .str] (fun _ _=>True) Tryz.En)),(41,(false,aW Tryz.bW [.d aB,.obj 0] (fun _ _=>True) Tryz.yK)),(58,Tryz.spZ36)]
def Tryz.aaB:bL Tryz.prog Tryz.B Tryz.X Tryz.XU:=
 aM (Tryz.acp) (aM (Tryz.XR) (aM (Tryz.Gl) (bJ Tryz.bI)))
def Tryz.Hh:List (Alt Tryz.jW [.obj 0,.obj 1,.d .str]):=[{bS:=Tryz.jW,res:=[.d (.slice cE),.d .bool,.d (.int .i64)],out:=fun _ x=>x,ret:=fun a x=>((sq (bU x.2.1.1) x.1.1 a.1).1,(sq (bU x.2.1.1) x.1.1 a.1).2.1,(sq (bU x.2.1.1) x.1.1 a.1).2.2,())}]
def XV(s:List UInt8)(o:List (D aB))(f:RS)(hw:fM [.obj 0,.obj 1,.d .str] (s,()))(hp:(fun _ x=>x.2.1.1.length<=6) (s,()) ((o,()),f,())):(cO Tryz.B Tryz.XU Tryz.f21 [] Tryz.jW [.obj 0,.obj 1,.d .str] Tryz.Hh (s,()) ((o,()),f,())).holds:=by
 refine holds_of (p:=
  let za:=(dA o s).2
  let zb:=((o,()),f,())
  let zc:=cI (bU f.1) s
  let zd:=eG (bU f.1) (dA o s).1
  let ze:=(zc.2,())
  let zf:=(zc.1,za&&zd,ze)
  True/\(True->True/\(True->gE f.1<=6/\(True->(za=true->True/\zb=zb/\(zc.1,zd,ze)=zf)/\(za=false->True/\zb=zb/\(zc.1,false,ze)=zf))))) (by kernel_rfl) ?_
 dsimp -iota -proj -eta only;dsimp only at hp;refine⟨dT,fun h0=>⟨dT,fun h1=>⟨(by trivial),fun h2=>⟨fun h3 =>?a,fun h3 =>?b⟩⟩⟩⟩
 case a|b=>simp_all
def Tryz.XW:bY Tryz.prog Tryz.B.eT Tryz.X 21 false (aW Tryz.jW [.obj 0,.obj 1,.d .str] (fun _ x=>x.2.1.1.length<=6) Tryz.Hh):=
 aZ (X:=Tryz.X) Tryz.aaB Tryz.func21 (by kernel_rfl) (fun(a:CD [.obj 0,.obj 1,.d .str]) (x:PD Tryz.jW)=>[]) (fun(a:CD [.obj 0,.obj 1,.d .str]) (x:PD Tryz.jW) hw hp=>XV a.1 x.1.1 x.2.1 hw hp)
def Tryz.spZ37:Bool×aX:=(true,bX [.slice (.int .i64),.slice (.int .i64)] [.bool] (fun _=>True) (fun x=>mR x.1 x.2))
def Tryz.JH:List (FuncId×(Bool×aX)):=[(45,Tryz.spZ37)]
def Tryz.Py:bL Tryz.prog Tryz.B Tryz.X Tryz.JH:=
 aM (aE Tryz.rY) (bJ Tryz.bI)
def JI(a:List (D cE))(b:List (D cE)):cU:=[
 (0,fun st=>{X:=Nat,inv:=fun i=>i<=a.length,bF:=fun i=>a.length-i,aY:=fun i=>[(5,sI i)],keep:=[0,1]})]
def NJ(a:List (D cE))(b:List (D cE))(hw:eD [.slice cE,.slice cE] (a,b)):(cL Tryz.B Tryz.JH Tryz.f22 (JI a b) [.slice cE,.slice cE] [.bool] (fun x y=>x.1=x.2->y=true) (a,b)).holds:=by
 refine holds_of (p:=
  let za:=gE a
  let zb:=(↑(gE b):Int)
  let zc:=a=b->false=true
  let zd:=fun(E:Nat)=>0<=(↑E:Int)/\(↑E:Int)<(↑za:Int)
  let ze:=fun(E:Nat)=>0<=(↑E:Int)/\(↑E:Int)<zb
  za<=aI->gE b<=aI->(((↑za:Int) != zb)=true->zc)/\(((↑za:Int) != zb)=false->(∃(x:Nat),x<=za/\(0=(↑x:Int)/\True)/\True)/\∀E:Nat,E<=za->za<=aI->((decide ((↑E:Int)<(↑za:Int)))=true->zd E/\ze E/\True/\zd E/\ze E/\((!(nth cE a E).1 == (nth cE b E).1)=true->zc)/\((!(nth cE a E).1 == (nth cE b E).1)=false->zd E/\ze E/\(((nth cE a E).2.1 != (nth cE b E).2.1)=true->zc)/\(((nth cE a E).2.1 != (nth cE b E).2.1)=false->((!mR (nth cE a E).2.2.1 (nth cE b E).2.2.1)=true->zc)/\((!mR (nth cE a E).2.2.1 (nth cE b E).2.2.1)=false->aF (↑E:Int)->aF 1->aF ((↑E:Int)+1)/\∃(x':Nat),x'<=za/\za-x'<za-E/\((↑E:Int)+1=(↑x':Int)/\True)/\True))))/\((decide ((↑E:Int)<(↑za:Int)))=false->a=b->true=true))) (by kernel_rfl) ?_
 dsimp -iota -proj -eta only;refine fun h0 h1=>iN (fun h2=>(by intro e;subst e;exact absurd rfl h2)) (fun h2=>⟨(⟨0,by omega,⟨rfl,dT⟩,dT⟩),fun E q_0 h3=>iL (fun h4=>⟨?a,?b,dT,?c,?d,⟨fun h5 =>?e,fun h5=>⟨?f,?g,iN (fun h6 =>?h) (fun h6=>iB (fun h7 =>?i) (fun h7 h8 h9=>⟨?j,?k⟩))⟩⟩⟩) (fun h4=>(by simp_all))⟩)
 case a|b|c|d=>omega
 case e=>
  simp only[bl,reduceCtorEq]at h5;intro e;subst e;exact absurd rfl h5
 case f|g=>
  simp only[bl,reduceCtorEq]at h5;omega
 case h=>
  simp only[bl,reduceCtorEq]at h5;intro e;subst e;exact absurd rfl h6
 case i=>
  simp only[bl,reduceCtorEq]at h5;intro e;subst e;simp[mR]at h7
 case j=>
  simp only[bl,reduceCtorEq]at h5;simp only[aF,aI]at*;omega
 case k=>
  simp only[bl,reduceCtorEq]at h5;exact⟨E+1,by omega,by omega,⟨by omega,dT⟩,(by trivial)⟩
def Tryz.NK:bO Tryz.prog Tryz.B.eT Tryz.X 22 [.slice cE,.slice cE] [.bool] (fun _=>True) (fun x y=>x.1=x.2->y=true):=
 bP (X:=Tryz.X) Tryz.Py Tryz.func22 (by kernel_rfl) (fun x=>JI x.1 x.2) (fun x hw hp=>NJ x.1 x.2 hw)
def JJ(e:D aB):cU:=[
 (0,fun st=>{X:=Nat,inv:=fun i=>i<=e.2.1.length/\∀j,j<i->(nth aG e.2.1 j).1.length<=20,bF:=fun i=>e.2.1.length-i,aY:=fun i=>[(3,sI i)],keep:=[1]})]
def JZ(e:D aB)(hw:eD [aB] e):(cL Tryz.B [] Tryz.f27 (JJ e) [aB] [.bool] (fun e y=>y=true->ue e) e).holds:=by
 refine holds_of (p:=
  let za:=false=true->ue e
  let zb:=e.2.1
  let zc:=gE zb
  let zd:=e.2.2.1
  let ze:=fun(E:Nat)=>gE (nth aG zb E).1
  gE e.1<=aI->((decide ((↑(gE e.1):Int) > 20))=true->za)/\((decide ((↑(gE e.1):Int) > 20))=false->zc<=aI->((decide ((↑zc:Int) > 8))=true->za)/\((decide ((↑zc:Int) > 8))=false->gE zd<=aI->((decide ((↑(gE zd):Int) > 40))=true->za)/\((decide ((↑(gE zd):Int) > 40))=false->(∃(x:Nat),(x<=zc/\∀(j:Nat),j<x->gE (nth aG zb j).1<=20)/\(0=(↑x:Int)/\True)/\True)/\∀E:Nat,(E<=zc/\∀(j:Nat),j<E->gE (nth aG zb j).1<=20)->zc<=aI->((decide ((↑E:Int)<(↑zc:Int)))=true->(0<=(↑E:Int)/\(↑E:Int)<(↑zc:Int))/\(ze E<=aI->((decide ((↑(ze E):Int) > 20))=true->za)/\((decide ((↑(ze E):Int) > 20))=false->aF (↑E:Int)->aF 1->aF ((↑E:Int)+1)/\∃(x':Nat),(x'<=zc/\∀(j:Nat),j<x'->gE (nth aG zb j).1<=20)/\zc-x'<zc-E/\((↑E:Int)+1=(↑x':Int)/\True)/\(e.1=e.1/\zb=zb/\zd=zd/\True)/\True)))/\((decide ((↑E:Int)<(↑zc:Int)))=false->true=true->ue e))))) (by kernel_rfl) ?_
 dsimp -iota -proj -eta only;refine fun h0=>iL (fun h1 =>?a) (fun h1 h2=>iL (fun h3 =>?b) (fun h3 h4=>iL (fun h5 =>?c) (fun h5=>⟨?d,fun E q_0 h6=>iL (fun h7=>⟨(by omega),fun h8=>iL (fun h9 =>?e) (fun h9 h10 h11=>⟨(by simp only[aF,aI]at*;omega),(⟨E+1,⟨by omega,jD q_0.2 (by omega)⟩,by omega,⟨by omega,dT⟩,(by trivial)⟩)⟩)⟩) (fun h7=>(fun _=>⟨by omega,by omega,by omega,fun i hi=>q_0.2 i (by omega)⟩))⟩)))
 case a|b|c|e=>simp_all
 case d=>refine⟨0,?_⟩;(repeat' (first|exact trivial|rfl|omega|assumption|apply And.intro))
def Tryz.zA:bO Tryz.prog Tryz.B.eT Tryz.X 27 [aB] [.bool] (fun _=>True) (fun e y=>y=true->ue e):=
 bP (X:=Tryz.X) (bJ Tryz.bI) Tryz.func27 (by kernel_rfl) (fun x=>JJ x) (fun x hw hp=>JZ x hw)
def Tryz.spZ38:Bool×aX:=(true,qq [aB] [.bool] (fun _=>True) (fun e y=>y=true->ue e))
def Tryz.NL:List (FuncId×(Bool×aX)):=[(27,Tryz.spZ38)]
def Tryz.TW:bL Tryz.prog Tryz.B Tryz.X Tryz.NL:=
 aM (ju Tryz.zA) (bJ Tryz.bI)
def JK(l:List (D jI))(m:Int):cU:=[
 (0,fun st=>{X:=Nat×Int,inv:=fun x=>x.1<=l.length/\(0<=x.2/\x.2<=20000)/\∀j,j<x.1->AA (nth jI l j),bF:=fun x=>l.length-x.1,aY:=fun x=>[(6,sI x.1),(5,sI x.2)],keep:=[0]})]
def NM(l:List (D jI))(m:Int)(hw:eD [.slice jI,.int .i64] (l,m)):(cL (RB Tryz.B) Tryz.NL Tryz.f7 (JK l m) [.slice jI,.int .i64] [.bool] (fun x y=>y=true->tz x.1 x.2) (l,m)).holds:=by
 refine holds_of (p:=
  let za:=gE l
  let zb:=false=true->tz l m
  let zc:=fun(E:Nat×Int)=>(↑E.1:Int)<(↑za:Int)
  let zd:=fun(E:Nat×Int)=>0<=(↑E.1:Int)/\zc E
  let ze:=fun(E:Nat×Int)=>gE (nth jI l E.1).2.2.1
  let zf:=fun(E:Nat×Int)=>gE (nth jI l E.1).2.1
  za<=aI->((decide ((↑za:Int) > m))=true->zb)/\((decide ((↑za:Int) > m))=false->(∃(x:Nat×Int),(x.1<=za/\(0<=x.2/\x.2<=20000)/\∀(j:Nat),j<x.1->AA (nth jI l j))/\(0=(↑x.1:Int)/\0=x.2/\True)/\True)/\∀E:Nat×Int,(E.1<=za/\(0<=E.2/\E.2<=20000)/\∀(j:Nat),j<E.1->AA (nth jI l j))->za<=aI->((decide (zc E))=true->zd E/\(ze E<=aI->∀F:Int,F=hK hD (E.2+(↑(ze E):Int))->zd E/\(zf E<=aI->((decide ((↑(zf E):Int) > 100))=true->zb)/\((decide ((↑(zf E):Int) > 100))=false->zd E/\(ze E<=aI->((decide ((↑(ze E):Int) > 1300))=true->zb)/\((decide ((↑(ze E):Int) > 1300))=false->((decide (F > 20000))=true->zb)/\((decide (F > 20000))=false->zd E/\True/\∀G:Bool,(G=true->ue (nth jI l E.1).2.2.2.2.2.1)->((!G)=true->zb)/\((!G)=false->∀I:Int,I=hK hD ((↑E.1:Int)+1)->∃(x':Nat×Int),(x'.1<=za/\(0<=x'.2/\x'.2<=20000)/\∀(j:Nat),j<x'.1->AA (nth jI l j))/\za-x'.1<za-E.1/\(I=(↑x'.1:Int)/\F=x'.2/\True)/\True))))))))/\((decide (zc E))=false->true=true->tz l m))) (by kernel_rfl) ?_
 dsimp -iota -proj -eta only;refine fun h0=>iL (fun h1 =>?a) (fun h1=>⟨(by exact⟨(0,0),⟨by omega,by simp,fun j hj=>by simp only at hj;omega⟩,⟨rfl,rfl,dT⟩,dT⟩),fun E q_0 h2=>iL (fun h3=>⟨?b,fun h4 F q_1=>⟨?c,fun h5=>iL (fun h6 =>?d) (fun h6=>⟨?e,fun h7=>iL (fun h8 =>?f) (fun h8=>iL (fun h9 =>?g) (fun h9=>⟨?h,dT,fun G q_2=>iB (fun h10 =>?i) (fun h10 I q_3 =>?j)⟩))⟩)⟩⟩) (fun h3=>(fun _=>⟨by omega,fun i hi=>q_0.2.2 i (by omega)⟩))⟩)
 case a|d|f|g|i=>simp_all
 case b|c|e|h=>omega
 case j=>
  have hw2:hK hD (E.2+(gE (nth jI l E.1).2.2.1:Int))=E.2+(gE (nth jI l E.1).2.2.1:Int):=nf (by omega) (by omega);have hw3:hK hD ((E.1:Int)+1)=(E.1:Int)+1:=nf (by omega) (by have:(aI:Int)=9223372036854775807:=rfl;omega);exact⟨(E.1+1,_),⟨by omega,by simp only;omega,jD q_0.2.2 ⟨by omega,by omega,by simp_all⟩⟩,by simp only;omega,⟨by simp only;omega,rfl,dT⟩,(by trivial)⟩
def Tryz.NN:bO Tryz.prog Tryz.B.eT Tryz.X 7 [.slice jI,.int .i64] [.bool] (fun _=>True) (fun x y=>y=true->tz x.1 x.2):=
 bP (B:=(RB Tryz.B)) (X:=Tryz.X) (bL.wrap Tryz.TW) Tryz.func7 (by kernel_rfl) (fun x=>JK x.1 x.2) (fun x hw hp=>NM x.1 x.2 hw)
end Go.Proofs.YtgokjhhcfemnhabGreatDoor

