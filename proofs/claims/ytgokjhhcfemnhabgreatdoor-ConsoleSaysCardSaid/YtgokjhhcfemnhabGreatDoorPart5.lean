/- A part of the proof that the law ConsoleSaysCard holds of the given program: facts that are used there. -/
import Derived.Test.YtgokjhhcfemnhabGreatDoorPart4
import Derived.Shelf.Strings.OnBuilder
import Derived.Shelf.LaysM
import Derived.Shelf.LaysC
set_option linter.unusedSimpArgs false
set_option linter.unusedVariables false
set_option maxRecDepth 100000
set_option maxHeartbeats 4000000
set_option linter.defProp false
noncomputable section
open True renaming intro->dT
open List renaming length->gE,nil->hq,take->hz,length_singleton->hA,drop->hB,length_append->hD,length_cons->hK,length_nil->hL,length_take->hR,length_map->hS,take_of_length_le->hT,map->hW,any->hX,set->ix,filter->j3,eq_nil_of_length_eq_zero->kh,append_nil->kk,append_assoc->kl,take_length->kp,replicate->ks
open Prod renaming snd->gN,fst->hg
open Int renaming toNat->hC,toNat_natCast->hF,le_antisymm->hQ,tmod->j4,tdiv_eq_ediv_of_nonneg->j5,tmod_eq_emod_of_nonneg->j6,zero_sub->j8
open Nat renaming zero_le->hE,le_trans->hY,not_lt_zero->ih
open Go.Lib renaming itoa->hI,join->hM
open Go.IntKind renaming i64->hP,wrap->j1,u8->j2
open UInt8 renaming toNat->hV
open Bool renaming eq_iff_iff->j7,noConfusion->kc
open Go.Proofs.Lays renaming n156->kF
open Bool renaming false->ψ,true->φ
open Option renaming some->ξ,none->χ
open Decidable renaming decide->ρ
namespace Go.Proofs.YtgokjhhcfemnhabGreatDoor
open Go.Proofs.Tryz
open Go.Vg Go.Mrl
def acm(l:List (D aB))(b:List Int)(t:D aV)(hp:(fun x=>lX x.1/\x.2.1.length=x.1.length/\mr x.2.1) (l,b,t)):(cH aE Rj f189 [] [.slice aB,.slice (.int .i64),aV] [.int .i64,.err] (fun x y=>y=(fun x=>iz x.1 x.2.1 x.2.2) x) (l,b,t)).holds:=by
 refine ζ (p:=let za:=eE (l,t.2.2.2.1);let zb:=0<=za.1;let zc:=(nth aB l (hC za.1)).2.2.1;let zd:=nth (Ty.int hP) b (hC za.1);let ze:=(nth aT zc (hC za.2)).2.1;let zf:=iz l b t;True/\((ρ (za.1>=0))=φ->(zb/\za.1<(↑(gE b):Int))/\(zb/\za.1<(↑(gE l):Int))/\(0<=za.2/\za.2<(↑(gE zc):Int))/\(aF zd->aF ze->aF (zd+ze)/\(zd+ze,aR.nil)=zf))/\((ρ (za.1>=0))=ψ->((t.2.2.2.2.1)=φ->(0,aR.nil)=zf)/\((t.2.2.2.2.1)=ψ->(0,aR.no 6)=zf))) κ ?_
 dsimp -iota -proj -eta only;dsimp only at hp;refine⟨dT,iE (fun h0=>⟨?a,?b,?c,fun h1 h2=>⟨?d,((qn ω).symm)⟩⟩) (fun h0=>⟨fun h1=>((o8 ω h1).symm),fun h1=>((vI ω h1).symm)⟩)⟩
 case a|b|c=>
  have hf:=uY (l:=l) (s:=t.2.2.2.1) ω;omega
 case d=>
  have hf:=uY (l:=l) (s:=t.2.2.2.1) ω;have hb:=nY (n:=l.length) (i:=(eE (l,t.2.2.2.1)).1) hp.2.2 hp.2.1 ω hf.1;have hs:=GL (s:=t.2.2.2.1) hp.1 ω;unfold Small at hs;dsimp only[D]at*;simp only[aF];omega
def L1:aL:=bP [.slice aB,.slice (.int .i64),aV] [.int .i64,.err] (fun x=>lX x.1/\x.2.1.length=x.1.length/\mr x.2.1) (fun x=>iz x.1 x.2.1 x.2.2)
def acn:aW prog aE.eT aH 189 φ L1:=
 aI (bO (X:=aH) Yz func189 κ (fun _=>[]) (fun x hw hp=>acm x.1 x.2.1 x.2.2 hp))
def L2:List (FuncId×(Bool×aL)):=[(189,(φ,L1))]
def TC:bH prog aE aH L2:=
 aM acn (bK bJ)
def ajF(l:List (D aB))(b:List Int)(i:Int)(t:D aV)(hp:(fun x=>lX x.1/\x.2.1.length=x.1.length/\mr x.2.1/\0<=x.2.2.1/\x.2.2.1<x.1.length/\Small x.2.2.2.1/\Word x.2.2.2.2.2.1) (l,b,i,t)):(cH aE L2 f144 [] [.slice aB,.slice (.int .i64),.int .i64,aV] [.int .i64,.err] (fun x y=>y=(fun x=>fY x.1 x.2.1 x.2.2.1 x.2.2.2) x) (l,b,i,t)).holds:=by
 refine ζ (p:=let za:=0<=i/\i<(↑(gE b):Int);let zb:=nth (Ty.int hP) b (hC i);let zc:=t.2.2.1;let zd:=zb+zc;let ze:=iz l b t;let zf:=fY l b i t;let zg:=ze.1+zc;let zh:=t.2.1 == 3;let zi:=zb+t.1;let zj:=aF zi;let zk:=zg-zi;let zl:=(0,aR.no 7)=zf;let zm:=(-2147483648:Int);let zn:=zd-zi;za/\(aF zb->aF zc->aF zd/\((t.2.1 != 1)=φ->(lX l/\gE b=gE l/\mr b)/\((!aR.isNil ze.2)=φ->(0,ze.2)=zf)/\((!aR.isNil ze.2)=ψ->aF ze.1->aF zc->aF zg/\(zh=φ->za/\(aF zb->aF t.1->zj/\(aF zg->zj->aF zk/\((ρ (zk<(-500:Int)))=φ->zl)/\((ρ (zk<(-500:Int)))=ψ->((ρ (zk > 500))=φ->zl)/\((ρ (zk > 500))=ψ->((ρ (zk<zm))=φ->zl)/\((ρ (zk<zm))=ψ->((ρ (zk > 2147483647))=φ->zl)/\((ρ (zk > 2147483647))=ψ->(zk,aR.nil)=zf)))))))/\(zh=ψ->((ρ (zg<zm))=φ->zl)/\((ρ (zg<zm))=ψ->((ρ (zg > 2147483647))=φ->zl)/\((ρ (zg > 2147483647))=ψ->(zg,aR.nil)=zf)))))/\((t.2.1 != 1)=ψ->(zh=φ->za/\(aF zb->aF t.1->zj/\(aF zd->zj->aF zn/\((ρ (zn<(-500:Int)))=φ->zl)/\((ρ (zn<(-500:Int)))=ψ->((ρ (zn > 500))=φ->zl)/\((ρ (zn > 500))=ψ->((ρ (zn<zm))=φ->zl)/\((ρ (zn<zm))=ψ->((ρ (zn > 2147483647))=φ->zl)/\((ρ (zn > 2147483647))=ψ->(zn,aR.nil)=zf)))))))/\(zh=ψ->((ρ (zd<zm))=φ->zl)/\((ρ (zd<zm))=ψ->((ρ (zd > 2147483647))=φ->zl)/\((ρ (zd > 2147483647))=ψ->(zd,aR.nil)=zf)))))) κ ?_
 dsimp -iota -proj -eta only;dsimp only at hp;refine⟨?a,fun h0 h1=>⟨?b,iN (fun h2=>⟨(by simp_all),iB (fun h3=>((Ux η η).symm)) (fun h3 h4 h5=>⟨?c,iQ (fun h6=>⟨?d,fun h7 h8=>⟨?e,fun h9 h10=>⟨?f,iL (fun h11 =>?g) (fun h11=>iL (fun h12 =>?h) (fun h12=>iL (fun h13 =>?i) (fun h13=>iL (fun h14 =>?j) (fun h14=>(by rw[mO η η,I0 η rfl (by dsimp only[D]at*;omega)])))))⟩⟩⟩) (fun h6=>iL (fun h7 =>?k) (fun h7=>iL (fun h8 =>?l) (fun h8=>(by rw[mO η η,sQ η rfl (by dsimp only[D]at*;omega)]))))⟩)⟩) (fun h2=>iQ (fun h3=>⟨?m,fun h4 h5=>⟨?n,fun h6 h7=>⟨?o,iL (fun h8 =>?p) (fun h8=>iL (fun h9 =>?q) (fun h9=>iL (fun h10 =>?r) (fun h10=>iL (fun h11 =>?s) (fun h11 =>?t))))⟩⟩⟩) (fun h3=>iL (fun h4 =>?u) (fun h4=>iL (fun h5 =>?v) (fun h5=>(by rw[sP η,sQ (by simp_all) rfl (by dsimp only[D]at*;omega)])))))⟩⟩
 case a|d|i|j|m|r|s=>omega
 case b|c|e|f|n|o=>
  have hb:=nY hp.2.2.1 hp.2.1 hp.2.2.2.1 hp.2.2.2.2.1;have ht:=BG t hp.1 hp.2.1 hp.2.2.1;have hs:=hp.2.2.2.2.2;unfold Small Word at hs;dsimp only[D]at*;simp only[aF];omega
 case g|h=>rw[mO η η,Fc η (by dsimp only[D]at*;omega)]
 case k|l=>
  have hb:=nY hp.2.2.1 hp.2.1 hp.2.2.2.1 hp.2.2.2.2.1;have ht:=BG t hp.1 hp.2.1 hp.2.2.1;have hs:=hp.2.2.2.2.2;unfold Small Word at hs;dsimp only[D]at*
  first|omega|(rw[mO η η,vJ η ω])
 case p|q|t=>dsimp only[D]at*;omega
 case u|v=>
  have hb:=nY hp.2.2.1 hp.2.1 hp.2.2.2.1 hp.2.2.2.2.1;have ht:=BG t hp.1 hp.2.1 hp.2.2.1;have hs:=hp.2.2.2.2.2;unfold Small Word at hs;dsimp only[D]at*
  first|omega|(rw[sP η,vJ (by simp_all) ω])
def aco:aL:=bP [.slice aB,.slice (.int .i64),.int .i64,aV] [.int .i64,.err] (fun x=>lX x.1/\x.2.1.length=x.1.length/\mr x.2.1/\0<=x.2.2.1/\x.2.2.1<x.1.length/\Small x.2.2.2.1/\Word x.2.2.2.2.2.1) (fun x=>fY x.1 x.2.1 x.2.2.1 x.2.2.2)
def ajG:aW prog aE.eT aH 144 φ aco:=
 aI (bO (X:=aH) TC func144 κ (fun _=>[]) (fun x hw hp=>ajF x.1 x.2.1 x.2.2.1 x.2.2.2 hp))
def L3:List (FuncId×(Bool×aL)):=[(144,(φ,aco))]
def TD:bH prog aE aH L3:=
 aM ajG (bK bJ)
def acp(l:List (D aB))(b:List Int):cP:=[
 (0,fun st=>{X:=Nat,inv:=fun i=>i<=b.length/\∀j,j<i->0<=(nth (.int .i64) b j:Int)/\(nth (.int .i64) b j:Int)<=256,bG:=fun i=>b.length-i,bB:=fun i=>[(23,sI i)],keep:=[0,1,21,22]}),
 (2,fun st=>{X:=Nat×List (D aQ),inv:=fun x=>x.1<=l.length/\mg l b (l.drop x.1) x.1 x.2=mg l b l 0 []/\x.2.length<=10*x.1,bG:=fun x=>l.length-x.1,bB:=fun x=>[(37,sI x.1),(8,.s (.one (.app aQ x.2 (aS st 8))))],aK:=fun x=>[(aS st 8,.tok aQ x.2)],keep:=[0,1,35,36],dU:=[aS st 8]}),
 (4,fun st=>{X:=Nat×List (D aQ),inv:=fun x=>x.1<=(nth aB l (bI (.int .i64) st 37).toNat).2.2.2.1.length/\kS (mg l b (l.drop ((bI (.int .i64) st 37).toNat+1)) ((bI (.int .i64) st 37).toNat+1)) (mu l b (bI (.int .i64) st 37).toNat ((nth aB l (bI (.int .i64) st 37).toNat).2.2.2.1.drop x.1) x.2)=mg l b l 0 []/\x.2.length<=10*(bI (.int .i64) st 37).toNat+x.1,bG:=fun x=>(nth aB l (bI (.int .i64) st 37).toNat).2.2.2.1.length-x.1,bB:=fun x=>[(45,sI x.1),(8,.s (.one (.app aQ x.2 (aS st 8))))],aK:=fun x=>[(aS st 8,.tok aQ x.2)],keep:=[0,1,9,10,35,36,37,38,39,40,41,42,43,44],dU:=[aS st 8]})]
def ajH(l:List (D aB))(b:List Int)(hp:(fun x=>lX x.1) (l,b)):(cH aE L3 f111 (acp l b) [.slice aB,.slice (.int .i64)] [.slice aQ,.err] (fun x y=>y=(fun x=>eX x) x) (l,b)).holds:=by
 refine ζ (p:=let za:=gE b;let zb:=gE l;let zc:=eX (l,b);let zd:=Ty.int hP;let ze:=([],aR.no 1)=zc;let zf:=aF 1;let zg:=@hq (Int×Int×Int×Unit)=@hq (Int×Int×Int×Unit)/\True;let zh:=Nat×List (Int×Int×Int×Unit);let zi:=mg l b l 0 (@hq Pt);let zj:=fun(F:Nat×List (Int×Int×Int×Unit))=>10*F.1;let zk:=fun(F:Nat×List (Int×Int×Int×Unit))=>(↑F.1:Int);let zl:=fun(F:Nat×List (Int×Int×Int×Unit))=>zk F<(↑zb:Int);let zm:=fun(F:Nat×List (Int×Int×Int×Unit))=>0<=zk F;let zn:=fun(F:Nat×List (Int×Int×Int×Unit))=>(nth aB l F.1).2.2.2.1;let zo:=fun(F:Nat×List (Int×Int×Int×Unit))=>gE (zn F);let zp:=fun(F:Nat×List (Int×Int×Int×Unit))=>mg l b (hB (F.1+1) l) (F.1+1);let zq:=fun(F G:Nat×List (Int×Int×Int×Unit))=>(fY l b (zk F) (nth aV (zn F) G.1)).2;let zr:=fun(F G:Nat×List (Int×Int×Int×Unit))=>[(zk F,(nth aV (zn F) G.1).1,(fY l b (zk F) (nth aV (zn F) G.1)).1,())];za<=aG->zb<=aG->(((↑za:Int) != (↑zb:Int))=φ->([],aR.no 3)=zc)/\(((↑za:Int) != (↑zb:Int))=ψ->za<=aG->(∃(x:Nat),(x<=za/\∀(j:Nat),j<x->0<=nth zd b j/\nth zd b j<=256)/\(0=(↑x:Int)/\True)/\True)/\∀E:Nat,(E<=za/\∀(j:Nat),j<E->0<=nth zd b j/\nth zd b j<=256)->((ρ ((↑E:Int)<(↑za:Int)))=φ->(0<=(↑E:Int)/\(↑E:Int)<(↑za:Int))/\((ρ (nth zd b E<0))=φ->ze)/\((ρ (nth zd b E<0))=ψ->((ρ (nth zd b E > 256))=φ->ze)/\((ρ (nth zd b E > 256))=ψ->aF (↑E:Int)->zf->aF ((↑E:Int)+1)/\∃(x':Nat),(x'<=za/\∀(j:Nat),j<x'->0<=nth zd b j/\nth zd b j<=256)/\za-x'<za-E/\((↑E:Int)+1=(↑x':Int)/\True)/\zg)))/\((ρ ((↑E:Int)<(↑za:Int)))=ψ->zb<=aG->(∃(x:zh),(hg x<=zb/\mg l b (hB (hg x) l) (hg x) (gN x)=zi/\gE (gN x)<=10*hg x)/\(0=(↑(hg x):Int)/\@hq (Int×Int×Int×Unit)=gN x/\True)/\@hq (Int×Int×Int×Unit)=gN x/\True)/\∀F:Nat×List (Int×Int×Int×Unit),F.1<=zb/\mg l b (hB F.1 l) F.1 F.2=zi/\gE F.2<=zj F->((ρ (zl F))=φ->(zm F/\zl F)/\(zo F<=aG->(∃(x:zh),(hg x<=zo F/\kS (zp F) (mu l b F.1 (hB (hg x) (zn F)) (gN x))=zi/\gE (gN x)<=zj F+hg x)/\(0=(↑(hg x):Int)/\F.2=gN x/\True)/\F.2=gN x/\True)/\∀G:Nat×List (Int×Int×Int×Unit),G.1<=zo F/\kS (zp F) (mu l b F.1 (hB G.1 (zn F)) G.2)=zi/\gE G.2<=zj F+G.1->((ρ (zk G<(↑(zo F):Int)))=φ->(zm G/\zk G<(↑(zo F):Int))/\(lX l/\za=zb/\mr b/\zm F/\zl F/\Small (nth aV (zn F) G.1).1/\Word (nth aV (zn F) G.1).2.2.1)/\((!aR.isNil (zq F G))=φ->([],zq F G)=zc)/\((!aR.isNil (zq F G))=ψ->(G.2=G.2/\gE G.2+gE (zr F G)<=1000000000)/\(aF (zk G)->zf->aF (zk G+1)/\∃(x':zh),(hg x'<=zo F/\kS (zp F) (mu l b F.1 (hB (hg x') (zn F)) (gN x'))=zi/\gE (gN x')<=zj F+hg x')/\zo F-hg x'<zo F-G.1/\(zk G+1=(↑(hg x'):Int)/\G.2++zr F G=gN x'/\True)/\G.2++zr F G=gN x'/\((nth aB l F.1).1=(nth aB l F.1).1/\(nth aB l F.1).2.1=(nth aB l F.1).2.1/\(nth aB l F.1).2.2.1=(nth aB l F.1).2.2.1/\zn F=zn F/\True)/\@hq (Int×Int×Int×aA×Bool×Unit)=@hq (Int×Int×Int×aA×Bool×Unit)/\@hq (aA×Int×Bool×Unit)=@hq (aA×Int×Bool×Unit)/\@hq Int=@hq Int/\@hq aA=@hq aA/\zg)))/\((ρ (zk G<(↑(zo F):Int)))=ψ->aF (zk F)->zf->aF (zk F+1)/\∃(x':zh),(hg x'<=zb/\mg l b (hB (hg x') l) (hg x') (gN x')=zi/\gE (gN x')<=10*hg x')/\zb-hg x'<zb-F.1/\(zk F+1=(↑(hg x'):Int)/\G.2=gN x'/\True)/\G.2=gN x'/\zg)))/\((ρ (zl F))=ψ->(F.2,aR.nil)=zc)))) κ ?_
 dsimp -iota -proj -eta only;dsimp only at hp;refine fun h0 h1=>iN (fun h2=>((OA ω).symm)) (fun h2 h3=>⟨(⟨0,⟨ω,fun j hj=>by omega⟩,⟨rfl,dT⟩,dT⟩),fun E q_0=>iL (fun h4=>⟨?a,iL (fun h5 =>?b) (fun h5=>iL (fun h6 =>?c) (fun h6 h7 h8=>⟨?d,(⟨E+1,⟨ω,jM q_0.2 (by dsimp only[D]at*;omega)⟩,ω,⟨ω,dT⟩,θ⟩)⟩))⟩) (fun h4 h5=>⟨(⟨(0,[]),⟨ω,rfl,ς⟩,θ,θ⟩),fun F q_1=>iL (fun h6=>⟨?e,fun h7=>⟨(by exact⟨(0,F.2),⟨ω,by rw[<-Kc ω];exact q_1.2.1,by simp only;omega⟩,θ,θ⟩),fun G q_2=>iL (fun h8=>⟨?f,?g,iB (fun h9 =>?h) (fun h9=>⟨?i,fun h10 h11=>⟨?j,?k⟩⟩)⟩) (fun h8 h9 h10=>⟨?l,?m⟩)⟩⟩) (fun h6 =>?n)⟩)⟩)
 case a|e|f=>omega
 case b|c=>exact(Kd (i:=E) ω ω (by dsimp only[D]at*;omega)).symm
 case d|j|l=>simp only[aF,aG]at*;omega
 case g=>
  have hlen:b.length=l.length:=ω;have hib:mr b:=fun j hj=>q_0.2 j ω
  have hm:=hp.2 F.1 ω;have htk:=hm.2.2 G.1 ω;have hb:=nY (i:=(F.1:Int)) hib hlen ω ω;unfold Small Word at htk;rw[hF]at hb;exact⟨hp,hlen,hib,ω,ω,htk.1,htk.2⟩
 case h=>
  have hlen:b.length=l.length:=ω;have hib:mr b:=fun j hj=>q_0.2 j ω
  rw[nX hlen hib,<-q_2.2.1,sO ω η]
 case i=>
  have hlen:b.length=l.length:=ω;have hib:mr b:=fun j hj=>q_0.2 j ω
  have hm:=hp.2 F.1 ω;have htk:=hm.2.2 G.1 ω;have hb:=nY (i:=(F.1:Int)) hib hlen ω ω;unfold Small Word at htk;rw[hF]at hb;have:=hm.1;have:=hp.1;exact⟨rfl,by simp only[hA,aG];omega⟩
 case k=>
  have ho:(fY l b F.1 (nth aV (nth aB l F.1).2.2.2.1 G.1)).2.isNil=φ:=by assumption
  exact⟨(G.1+1,_),⟨ω,by rw[<-q_2.2.1,ya (k:=G.1) ω ho],by simp only[hD,hA];omega⟩,by simp only;omega,⟨by simp only;omega,rfl,dT⟩,θ⟩
 case m=>
  have hm:=hp.2 F.1 ω;exact⟨(F.1+1,G.2),⟨ω,by rw[<-q_2.2.1,Uw ω],by have:=hm.1;simp only;omega⟩,by simp only;omega,⟨by simp only;omega,rfl,dT⟩,θ⟩
 case n=>
  have hlen:b.length=l.length:=ω;have hib:mr b:=fun j hj=>q_0.2 j ω
  rw[nX hlen hib,<-q_1.2.1,Uv ω]
def acq:aL:=bP [.slice aB,.slice (.int .i64)] [.slice aQ,.err] (fun x=>lX x.1) (fun x=>eX x)
def ajI:aW prog aE.eT aH 111 φ acq:=
 aI (bO (X:=aH) TD func111 κ (fun x=>acp x.1 x.2) (fun x hw hp=>ajH x.1 x.2 hp))
def Rl(l:List (D aB))(s:aA):cP:=[
 (0,fun st=>{X:=Nat,inv:=fun p=>p<=2/\kP l s p 0 0,bG:=fun p=>2-p,bB:=fun p=>[(6,sI p)],keep:=[0,1]}),
 (2,fun st=>{X:=Nat,inv:=fun i=>i<=l.length/\kP l s (bI (.int .i64) st 6).toNat i 0,bG:=fun i=>l.length-i,bB:=fun i=>[(7,sI i)],keep:=[0,1,6,10,11]}),
 (4,fun st=>{X:=Nat,inv:=fun k=>k<=(nth aB l (bI (.int .i64) st 7).toNat).2.2.1.length/\kP l s (bI (.int .i64) st 6).toNat (bI (.int .i64) st 7).toNat k,bG:=fun k=>(nth aB l (bI (.int .i64) st 7).toNat).2.2.1.length-k,bB:=fun k=>[(8,sI k)],keep:=[0,1,6,7,10,11,14,15,16,17]})]
def af5(l:List (D aB))(s:aA)(hw:ZA [.slice aB,.str] (l,s)):(cH aE [] f131 (Rl l s) [.slice aB,.str] [.int .i64,.int .i64] (fun x y=>y=(fun x=>eE x) x) (l,s)).holds:=by
 refine ζ (p:=let za:=fun(E:Nat)=>(↑E:Int);let zb:=gE l;let zc:=fun(F:Nat)=>gE (nth aB l F).2.2.1;let zd:=fun(F:Nat)=>0<=za F/\za F<(↑zb:Int);let ze:=eE (l,s);let zf:=aF 1;let zg:=fun(G:Nat)=>za G+1;let zh:=fun(G:Nat) (F:Nat) (E:Nat)=>aF (za G)->zf->aF (zg G)/\∃(x':Nat),(x'<=zc F/\kP l s E F x')/\zc F-x'<zc F-G/\(zg G=(↑x':Int)/\True)/\True;(∃(x:Nat),(x<=2/\kP l s x 0 0)/\(0=(↑x:Int)/\True)/\True)/\∀E:Nat,E<=2/\kP l s E 0 0->((ρ (za E<2))=φ->(∃(x:Nat),(x<=zb/\kP l s E x 0)/\(0=(↑x:Int)/\True)/\True)/\∀F:Nat,F<=zb/\kP l s E F 0->zb<=aG->((ρ (za F<(↑zb:Int)))=φ->(∃(x:Nat),(x<=zc F/\kP l s E F x)/\(0=(↑x:Int)/\True)/\True)/\∀G:Nat,G<=zc F/\kP l s E F G->zd F/\(zc F<=aG->((ρ (za G<(↑(zc F):Int)))=φ->zd F/\(0<=za G/\za G<(↑(zc F):Int))/\(((nth aT (nth aB l F).2.2.1 G).1 == s)=φ->(((nth aT (nth aB l F).2.2.1 G).2.2.1 == (za E == 1))=φ->(za F,za G)=ze)/\(((nth aT (nth aB l F).2.2.1 G).2.2.1 == (za E == 1))=ψ->zh G F E))/\(((nth aT (nth aB l F).2.2.1 G).1 == s)=ψ->zh G F E))/\((ρ (za G<(↑(zc F):Int)))=ψ->aF (za F)->zf->aF (zg F)/\∃(x':Nat),(x'<=zb/\kP l s E x' 0)/\zb-x'<zb-F/\(zg F=(↑x':Int)/\True)/\True)))/\((ρ (za F<(↑zb:Int)))=ψ->aF (za E)->zf->aF (zg E)/\∃(x':Nat),(x'<=2/\kP l s x' 0 0)/\2-x'<2-E/\(zg E=(↑x':Int)/\True)/\True))/\((ρ (za E<2))=ψ->((-1:Int),(-1:Int))=ze)) κ ?_
 dsimp -iota -proj -eta only;refine⟨(⟨0,⟨ω,kP.start l s⟩,⟨rfl,dT⟩,dT⟩),fun E q_0=>iL (fun h0=>⟨(⟨0,⟨ω,q_0.2⟩,⟨rfl,dT⟩,dT⟩),fun F q_1 h1=>iL (fun h2=>⟨(⟨0,⟨ω,q_1.2⟩,⟨rfl,dT⟩,dT⟩),fun G q_2=>⟨?a,fun h3=>iL (fun h4=>⟨?b,?c,iQ (fun h5=>iQ (fun h6=>((q_2.2.found ω ω ω η (by simp_all)).symm)) (fun h6 h7 h8=>⟨?d,(⟨G+1,⟨ω,q_2.2.next (fun hh=>by have h2:=hh.2;cases hw:(nth aT (nth aB l F).2.2.1 G).2.2.1 <;> simp_all)⟩,ω,⟨ω,dT⟩,θ⟩)⟩)) (fun h5 h6 h7=>⟨?e,(⟨G+1,⟨ω,q_2.2.next (by simp_all)⟩,ω,⟨ω,dT⟩,θ⟩)⟩)⟩) (fun h4 h5 h6=>⟨?f,(⟨F+1,⟨ω,q_2.2.row ω⟩,ω,⟨ω,dT⟩,θ⟩)⟩)⟩⟩) (fun h2 h3 h4=>⟨?g,(⟨E+1,⟨ω,q_1.2.pass ω⟩,ω,⟨ω,dT⟩,θ⟩)⟩)⟩) (fun h0=>((q_0.2.done ω).symm))⟩
 case a|b|c=>omega
 case d|e|f|g=>simp only[aF,aG]at*;omega
def af6:aW prog aE.eT aH 131 φ Aw:=
 aI (bO (X:=aH) (bK bJ) func131 κ (fun x=>Rl x.1 x.2) (fun x hw hp=>af5 x.1 x.2 hw))
def YA(n:Int):(cH aE [] f60 [] [.int .i64] [.bool] (fun x y=>y=(fun n=>ρ (-2147483648<=n)&&ρ (n<=2147483647)) x) n).holds:=by
 refine ζ (p:=let za:=ρ (n<=2147483647);let zb:=ρ ((-2147483648:Int)<=n)&&za;((ρ (n>=(-2147483648:Int)))=φ->za=zb)/\((ρ (n>=(-2147483648:Int)))=ψ->ψ=zb)) κ ?_
 dsimp -iota -proj -eta only;refine iE (fun h0 =>?a) (fun h0 =>?b)
 case a|b=>rw[j7];simp;omega
def Ie:aL:=bP [.int .i64] [.bool] (fun _=>True) (fun n=>ρ (-2147483648<=n)&&ρ (n<=2147483647))
def YB:aW prog aE.eT aH 60 φ Ie:=
 aI (bO (X:=aH) (bK bJ) func60 κ (fun _=>[]) (fun x hw hp=>YA x))
def L4:List (FuncId×(Bool×aL)):=[(131,(φ,Aw)),(60,(φ,Ie))]
def TE:bH prog aE aH L4:=
 aM af6 (aM YB (bK bJ))
def L5(l:List (D aB))(b:List Int):cP:=[
 (0,fun st=>{X:=Nat,inv:=fun i=>i<=b.length/\∀j,j<i->0<=(nth (.int .i64) b j:Int)/\(nth (.int .i64) b j:Int)<=256,bG:=fun i=>b.length-i,bB:=fun i=>[(6,sI i)],keep:=[0,1]}),
 (2,fun st=>{X:=Nat×List (D aQ),inv:=fun x=>x.1<=l.length/\mg l b (l.drop x.1) x.1 x.2=mg l b l 0 []/\x.2.length<=10*x.1,bG:=fun x=>l.length-x.1,bB:=fun x=>[(8,sI x.1),(7,.s (.one (.app aQ x.2 (aS st 7))))],aK:=fun x=>[(aS st 7,.tok aQ x.2)],keep:=[0,1],dU:=[aS st 7]}),
 (4,fun st=>{X:=Nat×List (D aQ),inv:=fun x=>x.1<=(nth aB l (bI (.int .i64) st 8).toNat).2.2.2.1.length/\kS (mg l b (l.drop ((bI (.int .i64) st 8).toNat+1)) ((bI (.int .i64) st 8).toNat+1)) (mu l b (bI (.int .i64) st 8).toNat ((nth aB l (bI (.int .i64) st 8).toNat).2.2.2.1.drop x.1) x.2)=mg l b l 0 []/\x.2.length<=10*(bI (.int .i64) st 8).toNat+x.1,bG:=fun x=>(nth aB l (bI (.int .i64) st 8).toNat).2.2.2.1.length-x.1,bB:=fun x=>[(9,sI x.1),(7,.s (.one (.app aQ x.2 (aS st 7))))],aK:=fun x=>[(aS st 7,.tok aQ x.2)],keep:=[0,1,8,38,39,40,41],dU:=[aS st 7]})]
def TF(l:List (D aB))(b:List Int)(hp:(fun x=>lX x.1) (l,b)):(cH aE L4 Tryz.f102 (L5 l b) [.slice aB,.slice (.int .i64)] [.slice aQ,.int .i64] (fun x y=>y=(fun x=>((eX x).1,jB (eX x).2)) x) (l,b)).holds:=by
 refine ζ (p:=let za:=gE b;let zb:=gE l;let zc:=(↑za:Int);let zd:=(↑zb:Int);let ze:=((eX (l,b)).1,jB (eX (l,b)).2);let zf:=Ty.int hP;let zg:=fun(E:Nat)=>0<=(↑E:Int)/\(↑E:Int)<zc;let zh:=([],1)=ze;let zi:=aF 1;let zj:=@hq (Int×Int×Int×Unit)=@hq (Int×Int×Int×Unit)/\True;let zk:=Nat×List (Int×Int×Int×Unit);let zl:=mg l b l 0 (@hq Pt);let zm:=fun(F:Nat×List (Int×Int×Int×Unit))=>gE F.2;let zn:=fun(F:Nat×List (Int×Int×Int×Unit))=>10*F.1;let zo:=fun(F:Nat×List (Int×Int×Int×Unit))=>(↑F.1:Int);let zp:=fun(F:Nat×List (Int×Int×Int×Unit))=>(nth aB l F.1).2.2.2.1;let zq:=fun(F:Nat×List (Int×Int×Int×Unit))=>gE (zp F);let zr:=fun(F:Nat×List (Int×Int×Int×Unit))=>mg l b (hB (F.1+1) l) (F.1+1);let zs:=fun(F:Nat×List (Int×Int×Int×Unit))=>0<=zo F;let zt:=fun(F:Nat×List (Int×Int×Int×Unit))=>zs F/\zo F<zc;let zu:=fun(F G:Nat×List (Int×Int×Int×Unit))=>(nth aV (zp F) G.1).2.2.1;let zv:=fun(F:Nat×List (Int×Int×Int×Unit))=>nth zf b F.1;let zw:=fun(F G:Nat×List (Int×Int×Int×Unit))=>zu F G+zv F;let zx:=fun(F G:Nat×List (Int×Int×Int×Unit))=>(nth aV (zp F) G.1).2.1 == 3;let zy:=fun(F G:Nat×List (Int×Int×Int×Unit))=>(nth aV (zp F) G.1).1;let zz:=fun(F G:Nat×List (Int×Int×Int×Unit))=>zw F G-zv F-zy F G;let zaa:=(-500:Int);let zab:=([],7)=ze;let zac:=(-2147483648:Int);let zad:=fun(G:Nat×List (Int×Int×Int×Unit))=>G.2=G.2;let zae:=fun(G:Nat×List (Int×Int×Int×Unit))=>aF (zo G);let zaf:=fun(G:Nat×List (Int×Int×Int×Unit))=>zo G+1;let zag:=fun(G:Nat×List (Int×Int×Int×Unit))=>aF (zaf G);let zah:=fun(G F:Nat×List (Int×Int×Int×Unit))=>G.2++[(zo F,zy F G,zz F G,())];let zai:=fun(G F:Nat×List (Int×Int×Int×Unit))=>G.2++[(zo F,zy F G,zw F G,())];let zaj:=fun(F G:Nat×List (Int×Int×Int×Unit))=>eE (l,(nth aV (zp F) G.1).2.2.2.1);let zak:=fun(F G:Nat×List (Int×Int×Int×Unit))=>zu F G+nth zf b (hC (zaj F G).1);let zal:=fun(F G:Nat×List (Int×Int×Int×Unit))=>(nth aT (nth aB l (hC (zaj F G).1)).2.2.1 (hC (zaj F G).2)).2.1;let zam:=fun(F G:Nat×List (Int×Int×Int×Unit))=>zak F G+zal F G;let zan:=fun(F G:Nat×List (Int×Int×Int×Unit))=>zam F G-zv F-zy F G;let zao:=fun(G F:Nat×List (Int×Int×Int×Unit))=>G.2++[(zo F,zy F G,zan F G,())];let zap:=fun(G F:Nat×List (Int×Int×Int×Unit))=>G.2++[(zo F,zy F G,zam F G,())];let zaq:=fun(F G:Nat×List (Int×Int×Int×Unit))=>zu F G-zv F-zy F G;let zar:=fun(G F:Nat×List (Int×Int×Int×Unit))=>G.2++[(zo F,zy F G,zaq F G,())];let zas:=fun(G F:Nat×List (Int×Int×Int×Unit))=>G.2++[(zo F,zy F G,zu F G,())];let zat:=fun(F:Nat×List (Int×Int×Int×Unit)) (G:Nat×List (Int×Int×Int×Unit))=>((ρ ((zaj F G).1>=0))=φ->(0<=(zaj F G).1/\(zaj F G).1<zc)/\(aF (zu F G)->aF (nth zf b (hC (zaj F G).1))->aF (zak F G)/\(0<=(zaj F G).1/\(zaj F G).1<zd)/\(0<=(zaj F G).2/\(zaj F G).2<(↑(gE (nth aB l (hC (zaj F G).1)).2.2.1):Int))/\(aF (zak F G)->aF (zal F G)->aF (zam F G)/\((zx F G)=φ->zt F/\(aF (zam F G)->aF (zv F)->aF (zam F G-zv F)/\(aF (zam F G-zv F)->aF (zy F G)->aF (zan F G)/\((ρ (zan F G<zaa))=φ->zab)/\((ρ (zan F G<zaa))=ψ->((ρ (zan F G > 500))=φ->zab)/\((ρ (zan F G > 500))=ψ->True/\((!(ρ (zac<=zan F G)&&ρ (zan F G<=2147483647)))=φ->zab)/\((!(ρ (zac<=zan F G)&&ρ (zan F G<=2147483647)))=ψ->(zad G/\zm G+gE [(zo F,zy F G,zan F G,())]<=1000000000)/\(zae G->zi->zag G/\∃(x':zk),(hg x'<=zq F/\kS (zr F) (mu l b F.1 (hB (hg x') (zp F)) (gN x'))=zl/\gE (gN x')<=zn F+hg x')/\zq F-hg x'<zq F-G.1/\(zaf G=(↑(hg x'):Int)/\zao G F=gN x'/\True)/\zao G F=gN x'/\zj)))))))/\((zx F G)=ψ->True/\((!(ρ (zac<=zam F G)&&ρ (zam F G<=2147483647)))=φ->zab)/\((!(ρ (zac<=zam F G)&&ρ (zam F G<=2147483647)))=ψ->(zad G/\zm G+gE [(zo F,zy F G,zam F G,())]<=1000000000)/\(zae G->zi->zag G/\∃(x':zk),(hg x'<=zq F/\kS (zr F) (mu l b F.1 (hB (hg x') (zp F)) (gN x'))=zl/\gE (gN x')<=zn F+hg x')/\zq F-hg x'<zq F-G.1/\(zaf G=(↑(hg x'):Int)/\zap G F=gN x'/\True)/\zap G F=gN x'/\zj))))))/\((ρ ((zaj F G).1>=0))=ψ->((zx F G)=φ->zt F/\(aF (zu F G)->aF (zv F)->aF (zu F G-zv F)/\(aF (zu F G-zv F)->aF (zy F G)->aF (zaq F G)/\((ρ (zaq F G<zaa))=φ->zab)/\((ρ (zaq F G<zaa))=ψ->((ρ (zaq F G > 500))=φ->zab)/\((ρ (zaq F G > 500))=ψ->True/\((!(ρ (zac<=zaq F G)&&ρ (zaq F G<=2147483647)))=φ->zab)/\((!(ρ (zac<=zaq F G)&&ρ (zaq F G<=2147483647)))=ψ->(zad G/\zm G+gE [(zo F,zy F G,zaq F G,())]<=1000000000)/\(zae G->zi->zag G/\∃(x':zk),(hg x'<=zq F/\kS (zr F) (mu l b F.1 (hB (hg x') (zp F)) (gN x'))=zl/\gE (gN x')<=zn F+hg x')/\zq F-hg x'<zq F-G.1/\(zaf G=(↑(hg x'):Int)/\zar G F=gN x'/\True)/\zar G F=gN x'/\zj)))))))/\((zx F G)=ψ->True/\((!(ρ (zac<=zu F G)&&ρ (zu F G<=2147483647)))=φ->zab)/\((!(ρ (zac<=zu F G)&&ρ (zu F G<=2147483647)))=ψ->(zad G/\zm G+gE [(zo F,zy F G,zu F G,())]<=1000000000)/\(zae G->zi->zag G/\∃(x':zk),(hg x'<=zq F/\kS (zr F) (mu l b F.1 (hB (hg x') (zp F)) (gN x'))=zl/\gE (gN x')<=zn F+hg x')/\zq F-hg x'<zq F-G.1/\(zaf G=(↑(hg x'):Int)/\zas G F=gN x'/\True)/\zas G F=gN x'/\zj))));za<=aG->zb<=aG->((zc != zd)=φ->([],3)=ze)/\((zc != zd)=ψ->(∃(x:Nat),(x<=za/\∀(j:Nat),j<x->0<=nth zf b j/\nth zf b j<=256)/\(0=(↑x:Int)/\True)/\True)/\∀E:Nat,(E<=za/\∀(j:Nat),j<E->0<=nth zf b j/\nth zf b j<=256)->za<=aG->((ρ ((↑E:Int)<zc))=φ->zg E/\((ρ (nth zf b E<0))=φ->zh)/\((ρ (nth zf b E<0))=ψ->zg E/\((ρ (nth zf b E > 256))=φ->zh)/\((ρ (nth zf b E > 256))=ψ->aF (↑E:Int)->zi->aF ((↑E:Int)+1)/\∃(x':Nat),(x'<=za/\∀(j:Nat),j<x'->0<=nth zf b j/\nth zf b j<=256)/\za-x'<za-E/\((↑E:Int)+1=(↑x':Int)/\True)/\zj)))/\((ρ ((↑E:Int)<zc))=ψ->(∃(x:zk),(hg x<=zb/\mg l b (hB (hg x) l) (hg x) (gN x)=zl/\gE (gN x)<=10*hg x)/\(0=(↑(hg x):Int)/\@hq (Int×Int×Int×Unit)=gN x/\True)/\@hq (Int×Int×Int×Unit)=gN x/\True)/\∀F:Nat×List (Int×Int×Int×Unit),F.1<=zb/\mg l b (hB F.1 l) F.1 F.2=zl/\zm F<=zn F->zb<=aG->((ρ (zo F<zd))=φ->(∃(x:zk),(hg x<=zq F/\kS (zr F) (mu l b F.1 (hB (hg x) (zp F)) (gN x))=zl/\gE (gN x)<=zn F+hg x)/\(0=(↑(hg x):Int)/\F.2=gN x/\True)/\F.2=gN x/\True)/\∀G:Nat×List (Int×Int×Int×Unit),G.1<=zq F/\kS (zr F) (mu l b F.1 (hB G.1 (zp F)) G.2)=zl/\zm G<=zn F+G.1->(zs F/\zo F<zd)/\(zq F<=aG->((ρ (zo G<(↑(zq F):Int)))=φ->(zs F/\zo F<zd)/\(zs G/\zo G<(↑(zq F):Int))/\(((nth aV (zp F) G.1).2.1 == 1)=φ->zt F/\(aF (zu F G)->aF (zv F)->aF (zw F G)/\((zx F G)=φ->zt F/\(aF (zw F G)->aF (zv F)->aF (zw F G-zv F)/\(aF (zw F G-zv F)->aF (zy F G)->aF (zz F G)/\((ρ (zz F G<zaa))=φ->zab)/\((ρ (zz F G<zaa))=ψ->((ρ (zz F G > 500))=φ->zab)/\((ρ (zz F G > 500))=ψ->True/\((!(ρ (zac<=zz F G)&&ρ (zz F G<=2147483647)))=φ->zab)/\((!(ρ (zac<=zz F G)&&ρ (zz F G<=2147483647)))=ψ->(zad G/\zm G+gE [(zo F,zy F G,zz F G,())]<=1000000000)/\(zae G->zi->zag G/\∃(x':zk),(hg x'<=zq F/\kS (zr F) (mu l b F.1 (hB (hg x') (zp F)) (gN x'))=zl/\gE (gN x')<=zn F+hg x')/\zq F-hg x'<zq F-G.1/\(zaf G=(↑(hg x'):Int)/\zah G F=gN x'/\True)/\zah G F=gN x'/\zj)))))))/\((zx F G)=ψ->True/\((!(ρ (zac<=zw F G)&&ρ (zw F G<=2147483647)))=φ->zab)/\((!(ρ (zac<=zw F G)&&ρ (zw F G<=2147483647)))=ψ->(zad G/\zm G+gE [(zo F,zy F G,zw F G,())]<=1000000000)/\(zae G->zi->zag G/\∃(x':zk),(hg x'<=zq F/\kS (zr F) (mu l b F.1 (hB (hg x') (zp F)) (gN x'))=zl/\gE (gN x')<=zn F+hg x')/\zq F-hg x'<zq F-G.1/\(zaf G=(↑(hg x'):Int)/\zai G F=gN x'/\True)/\zai G F=gN x'/\zj)))))/\(((nth aV (zp F) G.1).2.1 == 1)=ψ->True/\((ρ ((zaj F G).1<0))=φ->((!(nth aV (zp F) G.1).2.2.2.2.1)=φ->([],6)=ze)/\((!(nth aV (zp F) G.1).2.2.2.2.1)=ψ->zat F G))/\((ρ ((zaj F G).1<0))=ψ->zat F G)))/\((ρ (zo G<(↑(zq F):Int)))=ψ->zae F->zi->zag F/\∃(x':zk),(hg x'<=zb/\mg l b (hB (hg x') l) (hg x') (gN x')=zl/\gE (gN x')<=10*hg x')/\zb-hg x'<zb-F.1/\(zaf F=(↑(hg x'):Int)/\G.2=gN x'/\True)/\G.2=gN x'/\zj)))/\((ρ (zo F<zd))=ψ->(F.2,0)=ze)))) κ ?_
 dsimp -iota -proj -eta only;dsimp only at hp;refine fun h0 h1=>iN (fun h2=>(by rw[OA ω];rfl)) (fun h2=>⟨(⟨0,⟨ω,fun j hj=>by omega⟩,⟨rfl,dT⟩,dT⟩),fun E q_0 h3=>iL (fun h4=>⟨?a,iL (fun h5 =>?b) (fun h5=>⟨?c,iL (fun h6 =>?d) (fun h6 h7 h8=>⟨?e,(⟨E+1,⟨ω,jM q_0.2 (by dsimp only[D]at*;omega)⟩,ω,⟨ω,dT⟩,θ⟩)⟩)⟩)⟩) (fun h4=>⟨(⟨(0,[]),⟨ω,rfl,ς⟩,θ,θ⟩),fun F q_1 h5=>iL (fun h6=>⟨(by exact⟨(0,F.2),⟨ω,by rw[<-Kc ω];exact q_1.2.1,by simp only;omega⟩,θ,θ⟩),fun G q_2=>⟨?f,fun h7=>iL (fun h8=>⟨?g,?h,iQ (fun h9=>⟨?i,fun h10 h11=>⟨?j,iQ (fun h12=>⟨?k,fun h13 h14=>⟨?l,fun h15 h16=>⟨?m,iL (fun h17 =>?n) (fun h17=>iL (fun h18 =>?o) (fun h18=>⟨dT,⟨fun h19 =>?p,fun h19=>⟨?q,fun h20 h21=>⟨?r,?s⟩⟩⟩⟩))⟩⟩⟩) (fun h12=>⟨dT,⟨fun h13 =>?t,fun h13=>⟨?u,fun h14 h15=>⟨?v,?w⟩⟩⟩⟩)⟩⟩) (fun h9=>⟨dT,iL (fun h10=>iB (fun h11 =>?x) (fun h11=>iE (fun h12=>⟨?y,fun h13 h14=>⟨?z,?a0,?a1,fun h15 h16=>⟨?a2,iQ (fun h17=>⟨?a3,fun h18 h19=>⟨?a4,fun h20 h21=>⟨?a5,iL (fun h22 =>?a6) (fun h22=>iL (fun h23 =>?a7) (fun h23=>⟨dT,⟨fun h24 =>?a8,fun h24=>⟨?a9,fun h25 h26=>⟨?aa,?ab⟩⟩⟩⟩))⟩⟩⟩) (fun h17=>⟨dT,⟨fun h18 =>?ac,fun h18=>⟨?ad,fun h19 h20=>⟨?ae,?af⟩⟩⟩⟩)⟩⟩⟩) (fun h12=>iQ (fun h13=>⟨?ag,fun h14 h15=>⟨?ah,fun h16 h17=>⟨?ai,iL (fun h18 =>?aj) (fun h18=>iL (fun h19 =>?ak) (fun h19=>⟨dT,⟨fun h20 =>?al,fun h20=>⟨?am,fun h21 h22=>⟨?an,?ao⟩⟩⟩⟩))⟩⟩⟩) (fun h13=>⟨dT,⟨fun h14 =>?ap,fun h14=>⟨?aq,fun h15 h16=>⟨?ar,?au⟩⟩⟩⟩)))) (fun h10=>iE (fun h11=>⟨?av,fun h12 h13=>⟨?aw,?ax,?ay,fun h14 h15=>⟨?az,iQ (fun h16=>⟨?b0,fun h17 h18=>⟨?b1,fun h19 h20=>⟨?b2,iL (fun h21 =>?b3) (fun h21=>iL (fun h22 =>?b4) (fun h22=>⟨dT,⟨fun h23 =>?b5,fun h23=>⟨?b6,fun h24 h25=>⟨?b7,?b8⟩⟩⟩⟩))⟩⟩⟩) (fun h16=>⟨dT,⟨fun h17 =>?b9,fun h17=>⟨?ba,fun h18 h19=>⟨?bb,?bc⟩⟩⟩⟩)⟩⟩⟩) (fun h11=>iQ (fun h12=>⟨?bd,fun h13 h14=>⟨?be,fun h15 h16=>⟨?bf,iL (fun h17 =>?bg) (fun h17=>iL (fun h18 =>?bh) (fun h18=>⟨dT,⟨fun h19 =>?bi,fun h19=>⟨?bj,fun h20 h21=>⟨?bk,?bl⟩⟩⟩⟩))⟩⟩⟩) (fun h12=>⟨dT,⟨fun h13 =>?bm,fun h13=>⟨?bn,fun h14 h15=>⟨?bo,?bp⟩⟩⟩⟩)))⟩)⟩) (fun h8 h9 h10=>⟨?bq,?br⟩)⟩⟩) (fun h6 =>?bs)⟩)⟩)
 case a|c|f|g|h|i|k|y|z|a0|a1|a2|a3|a4|a5|a6|a7|ag|b0|bd|be|bf|bg|bh=>omega
 case b|d=>rw[Kd (i:=E) ω ω (by dsimp only[D]at*;omega)];rfl
 case e|bq=>simp only[aF,aG]at*;omega
 case j|l|m|ah|ai=>
  have hlen:b.length=l.length:=ω;have hib:mr b:=fun j hj=>q_0.2 j ω
  have hm:=hp.2 F.1 ω;have htk:=hm.2.2 G.1 ω;have hb:=nY (i:=(F.1:Int)) hib hlen ω ω;unfold Small Word at htk;rw[hF]at hb;dsimp only[D]at*;simp only[aF];omega
 case n|o=>dsimp only[D]at*;omega
 case p|bi|bj|bk|bl=>
  simp only[bl,reduceCtorEq]at h19;omega
 case q|r|s=>
  simp only[bl,reduceCtorEq]at h19;dsimp only[D]at*;omega
 case t=>
  simp only[bl,reduceCtorEq]at h13;have hlen:b.length=l.length:=ω;have hib:mr b:=fun j hj=>q_0.2 j ω
  have ho:=sP (l:=l) (b:=b) (i:=(F.1:Int)) (t:=(nth aV (nth aB l F.1).2.2.2.1 G.1)) η;rw[vJ (by first|assumption|(simp_all;done)) (by simp only[hF];dsimp only[D]at*;omega)]at ho;have e:eX (l,b)=([],(fY l b F.1 (nth aV (nth aB l F.1).2.2.2.1 G.1)).2):=(by rw[nX hlen hib,<-q_2.2.1,sO ω (by rw[ho];rfl)]);rw[e,ho];rfl
 case u=>
  simp only[bl,reduceCtorEq]at h13;have hm:=hp.2 F.1 ω;have:=hm.1;have:=hp.1;exact⟨rfl,by simp only[hA,aG];omega⟩
 case v=>
  simp only[bl,reduceCtorEq]at h13;simp only[aF,aG]at*;omega
 case w=>
  simp only[bl,reduceCtorEq]at h13;have hlen:b.length=l.length:=ω;have hib:mr b:=fun j hj=>q_0.2 j ω
  have ho:=sP (l:=l) (b:=b) (i:=(F.1:Int)) (t:=(nth aV (nth aB l F.1).2.2.2.1 G.1)) η;rw[sQ (by first|assumption|(simp_all;done)) rfl (by simp only[hF];dsimp only[D]at*;omega)]at ho;exact⟨(G.1+1,G.2++[((F.1:Int),(nth aV (nth aB l F.1).2.2.2.1 G.1).1,(fY l b F.1 (nth aV (nth aB l F.1).2.2.2.1 G.1)).1,())]),⟨ω,by rw[<-q_2.2.1,ya (k:=G.1) ω (by rw[ho];rfl)],by simp only[hD,hA];omega⟩,by simp only;omega,⟨by simp only;omega,o9 (by rw[ho];simp only[hF];dsimp only[D]at*;omega),dT⟩,o9 (by rw[ho];simp only[hF];dsimp only[D]at*;omega),θ⟩
 case x=>
  have hlen:b.length=l.length:=ω;have hib:mr b:=fun j hj=>q_0.2 j ω
  have ht:=vI (l:=l) (b:=b) (t:=(nth aV (nth aB l F.1).2.2.2.1 G.1)) η η;have ho:=Ux (l:=l) (b:=b) (i:=(F.1:Int)) (t:=(nth aV (nth aB l F.1).2.2.2.1 G.1)) η (by rw[ht];rfl);rw[ht]at ho;have e:eX (l,b)=([],(fY l b F.1 (nth aV (nth aB l F.1).2.2.2.1 G.1)).2):=(by rw[nX hlen hib,<-q_2.2.1,sO ω (by rw[ho];rfl)]);rw[e,ho];rfl
 case a8|a9|aa|ab=>
  simp only[bl,reduceCtorEq]at h24;omega
 case ac|ad|ae|af=>
  simp only[bl,reduceCtorEq]at h18;omega
 case aj|ak=>
  have hlen:b.length=l.length:=ω;have hib:mr b:=fun j hj=>q_0.2 j ω
  have ht:=o8 (l:=l) (b:=b) (t:=(nth aV (nth aB l F.1).2.2.2.1 G.1)) η η;have ho:=mO (l:=l) (b:=b) (i:=(F.1:Int)) (t:=(nth aV (nth aB l F.1).2.2.2.1 G.1)) η (by rw[ht];rfl);rw[ht]at ho;rw[Fc η (by simp only[hF];dsimp only[D]at*;omega)]at ho;have e:eX (l,b)=([],(fY l b F.1 (nth aV (nth aB l F.1).2.2.2.1 G.1)).2):=(by rw[nX hlen hib,<-q_2.2.1,sO ω (by rw[ho];rfl)]);rw[e,ho];rfl
 case al=>
  simp only[bl,reduceCtorEq]at h20;omega
 case am=>
  simp only[bl,reduceCtorEq]at h20;have hm:=hp.2 F.1 ω;have:=hm.1;have:=hp.1;exact⟨rfl,by simp only[hA,aG];omega⟩
 case an=>
  simp only[bl,reduceCtorEq]at h20;simp only[aF,aG]at*;omega
 case ao=>
  simp only[bl,reduceCtorEq]at h20;have hlen:b.length=l.length:=ω;have hib:mr b:=fun j hj=>q_0.2 j ω
  have ht:=o8 (l:=l) (b:=b) (t:=(nth aV (nth aB l F.1).2.2.2.1 G.1)) η η;have ho:=mO (l:=l) (b:=b) (i:=(F.1:Int)) (t:=(nth aV (nth aB l F.1).2.2.2.1 G.1)) η (by rw[ht];rfl);rw[ht]at ho;rw[I0 η rfl (by simp only[hF];dsimp only[D]at*;omega)]at ho;exact⟨(G.1+1,G.2++[((F.1:Int),(nth aV (nth aB l F.1).2.2.2.1 G.1).1,(fY l b F.1 (nth aV (nth aB l F.1).2.2.2.1 G.1)).1,())]),⟨ω,by rw[<-q_2.2.1,ya (k:=G.1) ω (by rw[ho];rfl)],by simp only[hD,hA];omega⟩,by simp only;omega,⟨by simp only;omega,o9 (by rw[ho];simp only[hF];dsimp only[D]at*;omega),dT⟩,o9 (by rw[ho];simp only[hF];dsimp only[D]at*;omega),θ⟩
 case ap=>
  simp only[bl,reduceCtorEq]at h14;have hlen:b.length=l.length:=ω;have hib:mr b:=fun j hj=>q_0.2 j ω
  have ht:=o8 (l:=l) (b:=b) (t:=(nth aV (nth aB l F.1).2.2.2.1 G.1)) η η;have ho:=mO (l:=l) (b:=b) (i:=(F.1:Int)) (t:=(nth aV (nth aB l F.1).2.2.2.1 G.1)) η (by rw[ht];rfl);rw[ht]at ho;rw[vJ (by first|assumption|(simp_all;done)) (by simp only[hF];dsimp only[D]at*;omega)]at ho;have e:eX (l,b)=([],(fY l b F.1 (nth aV (nth aB l F.1).2.2.2.1 G.1)).2):=(by rw[nX hlen hib,<-q_2.2.1,sO ω (by rw[ho];rfl)]);rw[e,ho];rfl
 case aq=>
  simp only[bl,reduceCtorEq]at h14;have hm:=hp.2 F.1 ω;have:=hm.1;have:=hp.1;exact⟨rfl,by simp only[hA,aG];omega⟩
 case ar=>
  simp only[bl,reduceCtorEq]at h14;simp only[aF,aG]at*;omega
 case au=>
  simp only[bl,reduceCtorEq]at h14;have hlen:b.length=l.length:=ω;have hib:mr b:=fun j hj=>q_0.2 j ω
  have ht:=o8 (l:=l) (b:=b) (t:=(nth aV (nth aB l F.1).2.2.2.1 G.1)) η η;have ho:=mO (l:=l) (b:=b) (i:=(F.1:Int)) (t:=(nth aV (nth aB l F.1).2.2.2.1 G.1)) η (by rw[ht];rfl);rw[ht]at ho;rw[sQ (by first|assumption|(simp_all;done)) rfl (by simp only[hF];dsimp only[D]at*;omega)]at ho;exact⟨(G.1+1,G.2++[((F.1:Int),(nth aV (nth aB l F.1).2.2.2.1 G.1).1,(fY l b F.1 (nth aV (nth aB l F.1).2.2.2.1 G.1)).1,())]),⟨ω,by rw[<-q_2.2.1,ya (k:=G.1) ω (by rw[ho];rfl)],by simp only[hD,hA];omega⟩,by simp only;omega,⟨by simp only;omega,o9 (by rw[ho];simp only[hF];dsimp only[D]at*;omega),dT⟩,o9 (by rw[ho];simp only[hF];dsimp only[D]at*;omega),θ⟩
 case av|ax|ay=>
  have hlen:b.length=l.length:=ω;have hib:mr b:=fun j hj=>q_0.2 j ω
  have hf:=uY (l:=l) (s:=(nth aV (nth aB l F.1).2.2.2.1 G.1).2.2.2.1) ω;have hbf:=nY (i:=(eE (l,(nth aV (nth aB l F.1).2.2.2.1 G.1).2.2.2.1)).1) hib hlen ω ω;have hsf:=GL (l:=l) (s:=(nth aV (nth aB l F.1).2.2.2.1 G.1).2.2.2.1) hp ω;unfold Small at hsf;dsimp only[D]at*;omega
 case aw|az|b1|b2=>
  have hlen:b.length=l.length:=ω;have hib:mr b:=fun j hj=>q_0.2 j ω
  have hm:=hp.2 F.1 ω;have htk:=hm.2.2 G.1 ω;have hb:=nY (i:=(F.1:Int)) hib hlen ω ω;unfold Small Word at htk;rw[hF]at hb;have hf:=uY (l:=l) (s:=(nth aV (nth aB l F.1).2.2.2.1 G.1).2.2.2.1) ω;have hbf:=nY (i:=(eE (l,(nth aV (nth aB l F.1).2.2.2.1 G.1).2.2.2.1)).1) hib hlen ω ω;have hsf:=GL (l:=l) (s:=(nth aV (nth aB l F.1).2.2.2.1 G.1).2.2.2.1) hp ω;unfold Small at hsf;dsimp only[D]at*;simp only[aF];omega
 case b3|b4=>
  have hlen:b.length=l.length:=ω;have hib:mr b:=fun j hj=>q_0.2 j ω
  have ht:=qn (l:=l) (b:=b) (t:=(nth aV (nth aB l F.1).2.2.2.1 G.1)) η;have ho:=mO (l:=l) (b:=b) (i:=(F.1:Int)) (t:=(nth aV (nth aB l F.1).2.2.2.1 G.1)) η (by rw[ht];rfl);rw[ht]at ho;rw[Fc η (by simp only[hF];dsimp only[D]at*;omega)]at ho;have e:eX (l,b)=([],(fY l b F.1 (nth aV (nth aB l F.1).2.2.2.1 G.1)).2):=(by rw[nX hlen hib,<-q_2.2.1,sO ω (by rw[ho];rfl)]);rw[e,ho];rfl
 case b5=>
  simp only[bl,reduceCtorEq]at h23;omega
 case b6=>
  simp only[bl,reduceCtorEq]at h23;have hm:=hp.2 F.1 ω;have:=hm.1;have:=hp.1;exact⟨rfl,by simp only[hA,aG];omega⟩
 case b7=>
  simp only[bl,reduceCtorEq]at h23;simp only[aF,aG]at*;omega
 case b8=>
  simp only[bl,reduceCtorEq]at h23;have hlen:b.length=l.length:=ω;have hib:mr b:=fun j hj=>q_0.2 j ω
  have ht:=qn (l:=l) (b:=b) (t:=(nth aV (nth aB l F.1).2.2.2.1 G.1)) η;have ho:=mO (l:=l) (b:=b) (i:=(F.1:Int)) (t:=(nth aV (nth aB l F.1).2.2.2.1 G.1)) η (by rw[ht];rfl);rw[ht]at ho;rw[I0 η rfl (by simp only[hF];dsimp only[D]at*;omega)]at ho;exact⟨(G.1+1,G.2++[((F.1:Int),(nth aV (nth aB l F.1).2.2.2.1 G.1).1,(fY l b F.1 (nth aV (nth aB l F.1).2.2.2.1 G.1)).1,())]),⟨ω,by rw[<-q_2.2.1,ya (k:=G.1) ω (by rw[ho];rfl)],by simp only[hD,hA];omega⟩,by simp only;omega,⟨by simp only;omega,o9 (by rw[ho];simp only[hF];dsimp only[D]at*;omega),dT⟩,o9 (by rw[ho];simp only[hF];dsimp only[D]at*;omega),θ⟩
 case b9=>
  simp only[bl,reduceCtorEq]at h17;have hlen:b.length=l.length:=ω;have hib:mr b:=fun j hj=>q_0.2 j ω
  have ht:=qn (l:=l) (b:=b) (t:=(nth aV (nth aB l F.1).2.2.2.1 G.1)) η;have ho:=mO (l:=l) (b:=b) (i:=(F.1:Int)) (t:=(nth aV (nth aB l F.1).2.2.2.1 G.1)) η (by rw[ht];rfl);rw[ht]at ho;rw[vJ (by first|assumption|(simp_all;done)) (by simp only[hF];dsimp only[D]at*;omega)]at ho;have e:eX (l,b)=([],(fY l b F.1 (nth aV (nth aB l F.1).2.2.2.1 G.1)).2):=(by rw[nX hlen hib,<-q_2.2.1,sO ω (by rw[ho];rfl)]);rw[e,ho];rfl
 case ba=>
  simp only[bl,reduceCtorEq]at h17;have hm:=hp.2 F.1 ω;have:=hm.1;have:=hp.1;exact⟨rfl,by simp only[hA,aG];omega⟩
 case bb=>
  simp only[bl,reduceCtorEq]at h17;simp only[aF,aG]at*;omega
 case bc=>
  simp only[bl,reduceCtorEq]at h17;have hlen:b.length=l.length:=ω;have hib:mr b:=fun j hj=>q_0.2 j ω
  have ht:=qn (l:=l) (b:=b) (t:=(nth aV (nth aB l F.1).2.2.2.1 G.1)) η;have ho:=mO (l:=l) (b:=b) (i:=(F.1:Int)) (t:=(nth aV (nth aB l F.1).2.2.2.1 G.1)) η (by rw[ht];rfl);rw[ht]at ho;rw[sQ (by first|assumption|(simp_all;done)) rfl (by simp only[hF];dsimp only[D]at*;omega)]at ho;exact⟨(G.1+1,G.2++[((F.1:Int),(nth aV (nth aB l F.1).2.2.2.1 G.1).1,(fY l b F.1 (nth aV (nth aB l F.1).2.2.2.1 G.1)).1,())]),⟨ω,by rw[<-q_2.2.1,ya (k:=G.1) ω (by rw[ho];rfl)],by simp only[hD,hA];omega⟩,by simp only;omega,⟨by simp only;omega,o9 (by rw[ho];simp only[hF];dsimp only[D]at*;omega),dT⟩,o9 (by rw[ho];simp only[hF];dsimp only[D]at*;omega),θ⟩
 case bm|bn|bo|bp=>
  simp only[bl,reduceCtorEq]at h13;omega
 case br=>
  have hm:=hp.2 F.1 ω;exact⟨(F.1+1,G.2),⟨ω,by rw[<-q_2.2.1,Uw ω],by have:=hm.1;simp only;omega⟩,by simp only;omega,⟨by simp only;omega,rfl,dT⟩,θ⟩
 case bs=>
  have hlen:b.length=l.length:=ω;have hib:mr b:=fun j hj=>q_0.2 j ω
  rw[nX hlen hib,<-q_1.2.1,Uv ω];rfl
def Et:aL:=bP [.slice aB,.slice (.int .i64)] [.slice aQ,.int .i64] (fun x=>lX x.1) (fun x=>((eX x).1,jB (eX x).2))
def TG:aW prog aE.eT aH 102 φ Et:=
 aI (bO (X:=aH) TE func102 κ (fun x=>L5 x.1 x.2) (fun x hw hp=>TF x.1 x.2 hp))
def acr(w:List (List Int))(l:List (D aQ)):cP:=[
 (200000,fun st=>{X:=Nat,inv:=fun i=>i<=w.length,bG:=fun i=>w.length-i,bB:=fun i=>[(13,sI i)],aY:=[.ext 0 tW],refs:=[(6,0)],pd:=fun i=>(w.take i,()),keep:=[1,4,5,11,12]}),
 (2,fun st=>{X:=Nat,inv:=fun k=>k<=l.length/\∀j,j<k->wD w (nth aQ l j),bG:=fun k=>l.length-k,bB:=fun k=>[(25,sI k)],aK:=fun k=>[(aS st 6,.ext 0 tW (ia w (l.take k)))],keep:=[6,23,24],dU:=[aS st 6]})]
def ajJ(w:List (List Int))(l:List (D aQ))(hp:(fun x=>x.1.length<=100000/\∀i,i<x.1.length->(nth jh x.1 i).length<=100000000) (w,l)):(cH (gy aE [6]) [] f114 (acr w l) [tW,.slice aQ] [tW,.err] (fun x y=>y=(fun x=>kO x) x) (w,l)).holds:=by
 refine ζ (p:=let za:=gE w;let zb:=@hq (List Int)=@hq (List Int)/\True;let zc:=(!ψ&&φ)=φ;let zd:=fun(E:Nat)=>[nth (Ty.slice (Ty.int hP)) w E];let ze:=fun(E:Nat)=>(↑E:Int)+1;let zf:=gE l;let zg:=fun(F:Nat)=>(nth aQ l F).1;let zh:=([],aR.no 1)=kO (w,l);let zi:=fun(F:Nat)=>ia w (hz F l);let zj:=fun(F:Nat)=>(nth aQ l F).2.1;let zk:=fun(F:Nat)=>0<=zg F/\zg F<(↑(gE (zi F)):Int);let zl:=fun(F:Nat)=>hC (zg F)<gE (zi F);let zm:=fun(F:Nat)=>nth jh (zi F) (hC (zg F));za<=aG->(∃(x':Nat),x'<=za/\True/\(0=(↑x':Int)/\True)/\zb/\zc/\([],())=(hz x' w,()))/\∀E:Nat,E<=za->((ρ ((↑E:Int)<(↑za:Int)))=φ->(0<=(↑E:Int)/\(↑E:Int)<(↑za:Int))/\gE (nth (Ty.slice (Ty.int hP)) w E)<=1000000000/\(0<gE (zd E)/\gE (hz E w)+gE (zd E)<=1000000000)/\(aF (↑E:Int)->aF 1->aF (ze E)/\∃(x':Nat),x'<=za/\za-x'<za-E/\(ze E=(↑x':Int)/\True)/\zb/\zc/\(hz E w++zd E,())=(hz x' w,())))/\((ρ ((↑E:Int)<(↑za:Int)))=ψ->zf<=aG->(∃(x:Nat),(x<=zf/\∀(j:Nat),j<x->wD w (nth aQ l j))/\(0=(↑x:Int)/\True)/\hz E w=ia w (hz x l)/\True)/\∀F:Nat,(F<=zf/\∀(j:Nat),j<F->wD w (nth aQ l j))->((ρ ((↑F:Int)<(↑zf:Int)))=φ->(0<=(↑F:Int)/\(↑F:Int)<(↑zf:Int))/\((ρ (zg F<0))=φ->zh)/\((ρ (zg F<0))=ψ->gE (zi F)<=aG->((ρ (zg F>=(↑(gE (zi F)):Int)))=φ->zh)/\((ρ (zg F>=(↑(gE (zi F)):Int)))=ψ->((ρ (zj F<0))=φ->zh)/\((ρ (zj F<0))=ψ->zk F/\zl F/\zl F/\(gE (zm F)<=aG->((ρ (zj F>=(↑(gE (zm F)):Int)))=φ->zh)/\((ρ (zj F>=(↑(gE (zm F)):Int)))=ψ->zk F/\zl F/\(zl F/\0<=zj F/\zj F<(↑(gE (zm F)):Int))/\(zl F/\hC (zj F)<gE (zm F))/\(aF (↑F:Int)->aF 1->aF (ze F)/\∃(x':Nat),(x'<=zf/\∀(j:Nat),j<x'->wD w (nth aQ l j))/\zf-x'<zf-F/\(ze F=(↑x':Int)/\True)/\ix (zi F) (hC (zg F)) (ix (zm F) (hC (zj F)) (nth aQ l F).2.2.1)=ia w (hz x' l)/\zb)))))))/\((ρ ((↑F:Int)<(↑zf:Int)))=ψ->(zi F,aR.nil)=kO (w,l)))) κ ?_
 dsimp -iota -proj -eta only;dsimp only at hp;refine fun h0=>⟨(⟨0,ω,dT,⟨rfl,dT⟩,⟨rfl,dT⟩,rfl,rfl⟩),fun E q_0=>iL (fun h1=>⟨?a,(by have:=hp.2 E ω;show gE (nth jh w E)<=1000000000;omega),(by have:=hp.1;simp only[hA,hR,aG];omega),fun h2 h3=>⟨?b,(⟨E+1,ω,ω,⟨ω,dT⟩,⟨rfl,dT⟩,rfl,by rw[mf (t:=jh) ω]⟩)⟩⟩) (fun h1 h2=>⟨(by exact⟨0,⟨ω,fun j hj=>by omega⟩,⟨rfl,dT⟩,by rw[hT ω];rfl,dT⟩),fun F q_1=>iL (fun h3=>⟨?c,iL (fun h4 =>?d) (fun h4 h5=>iE (fun h6 =>?e) (fun h6=>iL (fun h7 =>?f) (fun h7=>⟨?g,?h,?i,fun h8=>iE (fun h9 =>?j) (fun h9=>⟨?k,?l,?m,?n,fun h10 h11=>⟨?o,?p⟩⟩)⟩)))⟩) (fun h3=>(by rw[x9 fun i hi=>q_1.2 i ω,hT ω]))⟩)⟩
 case a|c=>omega
 case b|o=>simp only[aF,aG]at*;omega
 case d|e|f|j=>
  have hr:=wE (l.take F) w (nth aQ l F).1.toNat;have hll:=tz (l.take F) w;exact(ad8 (i:=F) ω (by unfold wD;dsimp only[D]at*;omega)).symm
 case g|h|i|k|l|m|n=>
  have hr:=wE (l.take F) w (nth aQ l F).1.toNat;have hll:=tz (l.take F) w
  first|omega|(dsimp only[D]at*;omega)
 case p=>
  have hr:=wE (l.take F) w (nth aQ l F).1.toNat;have hll:=tz (l.take F) w;exact⟨F+1,⟨ω,jM q_1.2 (by unfold wD;dsimp only[D]at*;omega)⟩,ω,⟨ω,dT⟩,ZM ω,θ⟩
def acs:aL:=bP [tW,.slice aQ] [tW,.err] (fun x=>x.1.length<=100000/\∀i,i<x.1.length->(nth jh x.1 i).length<=100000000) (fun x=>kO x)
def ajK:aW prog aE.eT aH 114 φ acs:=
 aI (bO (B:=(gy aE [6])) (X:=aH) (bH.hint (l:=[6]) (bK bJ)) func114 κ (fun x=>acr x.1 x.2) (fun x hw hp=>ajJ x.1 x.2 hp))
def Rm(l:List (D aB)):cP:=[
 (0,fun st=>{X:=Nat,inv:=fun i=>i<=l.length,bG:=fun i=>l.length-i,bB:=fun i=>[(8,sI i),(3,.s (.one (.app (.int .i64) (bX (l.take i)) (aS st 3))))],aK:=fun i=>[(aS st 3,.tok (.int .i64) (bX (l.take i)))],keep:=[2,6,7],dU:=[aS st 3]})]
def acu(l:List (D aB))(hp:(fun l=>l.length<=1000) l):(cH aE [] f110 (Rm l) [.slice aB] [.slice (.int .i64)] (fun x y=>y=(fun l=>bX l) x) l).holds:=by
 refine ζ (p:=let za:=gE l;let zb:=fun(E:Nat)=>gE (nth aB l E).2.1;let zc:=fun(E:Nat)=>bX (hz E l);let zd:=fun(E:Nat)=>zc E++[(↑(zb E):Int)];za<=aG->(∃(x:Nat),x<=za/\(0=(↑x:Int)/\@hq Int=bX (hz x l)/\True)/\@hq Int=bX (hz x l)/\True)/\∀E:Nat,E<=za->((ρ ((↑E:Int)<(↑za:Int)))=φ->(0<=(↑E:Int)/\(↑E:Int)<(↑za:Int))/\(zb E<=aG->(zc E=zc E/\gE (zc E)+gE [(↑(zb E):Int)]<=1000000000)/\(aF (↑E:Int)->aF 1->aF ((↑E:Int)+1)/\∃(x':Nat),x'<=za/\za-x'<za-E/\((↑E:Int)+1=(↑x':Int)/\zd E=bX (hz x' l)/\True)/\zd E=bX (hz x' l)/\@hq Int=@hq Int/\True)))/\((ρ ((↑E:Int)<(↑za:Int)))=ψ->zc E=bX l)) κ ?_
 dsimp -iota -proj -eta only;exact fun h0=>⟨(⟨0,ω,⟨rfl,rfl,dT⟩,rfl,dT⟩),fun E q_0=>iL (fun h1=>⟨ω,fun h2=>⟨(by exact⟨rfl,by rw[qw,hR];simp only[hA];omega⟩),fun h3 h4=>⟨(by simp only[aF,aG]at*;omega),(⟨E+1,ω,ω,⟨ω,(tB ω).symm,dT⟩,(tB ω).symm,θ⟩)⟩⟩⟩) (fun h1=>(by rw[hT ω]))⟩
def L6:aL:=bP [.slice aB] [.slice (.int .i64)] (fun l=>l.length<=1000) (fun l=>bX l)
def acv:aW prog aE.eT aH 110 φ L6:=
 aI (bO (X:=aH) (bK bJ) func110 κ (fun x=>Rm x) (fun x hw hp=>acu x hp))
def Rn(l:List (D aB)):cP:=[
 (0,fun st=>{X:=Nat,inv:=fun i=>i<=l.length,bG:=fun i=>l.length-i,bB:=fun i=>[(8,sI i),(3,.s (.one (.app jh (cM (l.take i)) (aS st 3))))],aK:=fun i=>[(aS st 3,.tok jh (cM (l.take i)))],keep:=[2,6,7],dU:=[aS st 3]})]
def acw(l:List (D aB))(hp:(fun l=>l.length<=1000) l):(cH aE [] f115 (Rn l) [.slice aB] [tW] (fun x y=>y=(fun l=>cM l) x) l).holds:=by
 refine ζ (p:=let za:=gE l;let zb:=fun(E:Nat)=>cM (hz E l);let zc:=fun(E:Nat)=>zb E++[(nth aB l E).2.1];za<=aG->(∃(x:Nat),x<=za/\(0=(↑x:Int)/\@hq (List Int)=cM (hz x l)/\True)/\@hq (List Int)=cM (hz x l)/\True)/\∀E:Nat,E<=za->((ρ ((↑E:Int)<(↑za:Int)))=φ->(0<=(↑E:Int)/\(↑E:Int)<(↑za:Int))/\(zb E=zb E/\gE (zb E)+gE [(nth aB l E).2.1]<=1000000000)/\(aF (↑E:Int)->aF 1->aF ((↑E:Int)+1)/\∃(x':Nat),x'<=za/\za-x'<za-E/\((↑E:Int)+1=(↑x':Int)/\zc E=cM (hz x' l)/\True)/\zc E=cM (hz x' l)/\@hq (List Int)=@hq (List Int)/\True))/\((ρ ((↑E:Int)<(↑za:Int)))=ψ->zb E=cM l)) κ ?_
 dsimp -iota -proj -eta only;exact fun h0=>⟨(⟨0,ω,⟨rfl,rfl,dT⟩,rfl,dT⟩),fun E q_0=>iL (fun h1=>⟨ω,(by exact⟨rfl,by rw[oK,hR];simp only[hA];omega⟩),fun h2 h3=>⟨(by simp only[aF,aG]at*;omega),(⟨E+1,ω,ω,⟨ω,(D0 ω).symm,dT⟩,(D0 ω).symm,θ⟩)⟩⟩) (fun h1=>(by rw[hT ω]))⟩
def L7:aL:=bP [.slice aB] [tW] (fun l=>l.length<=1000) (fun l=>cM l)
def acx:aW prog aE.eT aH 115 φ L7:=
 aI (bO (X:=aH) (bK bJ) func115 κ (fun x=>Rn x) (fun x hw hp=>acw x hp))
def acy:List (FuncId×(Bool×aL)):=[(115,(φ,L7)),(114,(φ,acs))]
def af7:bH prog aE aH acy:=
 aM acx (aM ajK (bK bJ))
def acz(ns:List aA)(bs:List Int)(os:List (D aB))(ps:List (D aQ)):cP:=[
 (0,fun st=>{X:=Nat,inv:=fun i=>i<=os.length,bG:=fun i=>os.length-i,bB:=fun i=>[(39,sI i),(12,.s (.one (.app bS (eD ns bs (kO (cM os,ps)).1 i) (aS st 12))))],aK:=fun i=>[(aS st 12,.tok bS (eD ns bs (kO (cM os,ps)).1 i))],keep:=[0,1,8,9,10,38],dU:=[aS st 12]})]
def ajL(ns:List aA)(bs:List Int)(os:List (D aB))(ps:List (D aQ))(hp:(fun x=>x.2.2.1.length<=1000/\∀i,i<x.2.2.1.length->(nth aB x.2.2.1 i).2.1.length<=1000) (ns,bs,os,ps)):(cH aE acy f75 (acz ns bs os ps) [.slice .str,.slice (.int .i64),.slice aB,.slice aQ] [.slice bS,.err] (fun x y=>y=(fun x=>ma x.1 x.2.1 x.2.2.1 x.2.2.2) x) (ns,bs,os,ps)).holds:=by
 refine ζ (p:=let za:=gE os;let zb:=za<=aG;let zc:=(↑(gE ns):Int);let zd:=(↑za:Int);let ze:=ma ns bs os ps;let zf:=([],aR.no 3)=ze;let zg:=(↑(gE bs):Int);let zh:=cM os;let zi:=kO (zh,ps);let zj:=(kO (zh,ps)).1;let zk:=fun(E:Nat)=>(↑E:Int);let zl:=fun(E:Nat)=>0<=zk E;let zm:=fun(E:Nat)=>eD ns bs zj E;let zn:=fun(E:Nat)=>[(nth Ty.str ns E,nth (Ty.int hP) bs E,nth (Ty.slice (Ty.int hP)) zi.1 E,())];gE ns<=aG->zb->((zc != zd)=φ->zf)/\((zc != zd)=ψ->gE bs<=aG->zb->((zg != zd)=φ->zf)/\((zg != zd)=ψ->za<=1000/\(gE zh<=100000/\∀(i:Nat),i<gE zh->gE (nth jh zh i)<=100000000)/\((!aR.isNil zi.2)=φ->([],zi.2)=ze)/\((!aR.isNil zi.2)=ψ->zb->(∃(x:Nat),x<=za/\(0=(↑x:Int)/\@hq (aA×Int×List Int×Unit)=eD ns bs zj x/\True)/\@hq (aA×Int×List Int×Unit)=eD ns bs zj x/\True)/\∀E:Nat,E<=za->((ρ (zk E<zd))=φ->(zl E/\zk E<zc)/\(zl E/\zk E<zg)/\(zl E/\zk E<(↑(gE zi.1):Int))/\(zm E=zm E/\gE (zm E)+gE (zn E)<=1000000000)/\(aF (zk E)->aF 1->aF (zk E+1)/\∃(x':Nat),x'<=za/\za-x'<za-E/\(zk E+1=(↑x':Int)/\zm E++zn E=eD ns bs zj x'/\True)/\zm E++zn E=eD ns bs zj x'/\@hq (aA×Int×List Int×Unit)=@hq (aA×Int×List Int×Unit)/\True))/\((ρ (zk E<zd))=ψ->(zm E,aR.nil)=ze))))) κ ?_
 dsimp -iota -proj -eta only;dsimp only at hp;refine fun h0 h1=>iN (fun h2=>((G4 (.inl ω)).symm)) (fun h2 h3 h4=>iN (fun h5=>((G4 (.inr ω)).symm)) (fun h5=>⟨?a,(aho hp),iB (fun h6=>((aet ω ω h6).symm)) (fun h6 h7=>⟨(⟨0,ω,⟨rfl,rfl,dT⟩,rfl,dT⟩),fun E q_0=>iL (fun h8=>⟨?b,?c,(by rw[aec η,oK];omega),(by exact⟨rfl,by rw[oL];simp only[hA];omega⟩),fun h9 h10=>⟨(by simp only[aF,aG]at*;omega),(⟨E+1,ω,ω,⟨ω,(xz _ _ _ _).symm,dT⟩,(xz _ _ _ _).symm,θ⟩)⟩⟩) (fun h8=>(by rw[I6 ω ω η,show E=os.length by omega]))⟩)⟩))
 case a|b|c=>omega
def Ro:aL:=bP [.slice .str,.slice (.int .i64),.slice aB,.slice aQ] [.slice bS,.err] (fun x=>x.2.2.1.length<=1000/\∀i,i<x.2.2.1.length->(nth aB x.2.2.1 i).2.1.length<=1000) (fun x=>ma x.1 x.2.1 x.2.2.1 x.2.2.2)
def acA:aW prog aE.eT aH 75 φ Ro:=
 aI (bO (X:=aH) af7 func75 κ (fun x=>acz x.1 x.2.1 x.2.2.1 x.2.2.2) (fun x hw hp=>ajL x.1 x.2.1 x.2.2.1 x.2.2.2 hp))
def L8:List (FuncId×(Bool×aL)):=[(108,(ψ,Es)),(110,(φ,L6)),(109,(φ,Rf)),(111,(φ,acq))]
def TH:bH prog aE aH L8:=
 aM TA (aM acv (aM af2 (aM ajI (bK bJ))))
def Ig:List (Alt bZ [.obj 0,.d .str]):=[{bQ:=bZ,res:=[.d (.slice .str),.d (.slice aB),.d (.slice (.int .i64)),.d (.slice aQ),.d .err],out:=fun _ x=>x,ret:=fun a x=>((bC (aU x) a.1).1,(bC (aU x) a.1).2.1,(bC (aU x) a.1).2.2.1,(bC (aU x) a.1).2.2.2.1,aP (bC (aU x) a.1).2.2.2.2,())}]
def acB(s:aA)(f:cU)(hp:(fun _ x=>x.2.1.1.length<=6) (s,()) f):(cE aE L8 f73 [] bZ [.obj 0,.d .str] Ig (s,()) f).holds:=by
 refine ζ (p:=let za:=aX (aU f) s;let zb:=aP za.2.2;let zc:=f=f;let zd:=bC (aU f) s;let ze:=(zd.1,zd.2.1,zd.2.2.1,zd.2.2.2.1,aP zd.2.2.2.2,());let zf:=za.2.1;let zg:=cF (bX zf,[]);let zh:=eX (zf,zg.1);gE f.2.1.1<=6/\(True->((!aR.isNil zb)=φ->True/\zc/\([],[],[],[],zb,())=ze)/\((!aR.isNil zb)=ψ->gE zf<=1000/\True/\((!aR.isNil zg.2)=φ->True/\zc/\([],[],[],[],zg.2,())=ze)/\((!aR.isNil zg.2)=ψ->lX zf/\((!aR.isNil zh.2)=φ->True/\zc/\([],[],[],[],zh.2,())=ze)/\((!aR.isNil zh.2)=ψ->True/\zc/\(za.1,zf,zg.1,zh.1,aR.nil,())=ze))))) κ ?_
 dsimp -iota -proj -eta only;exact⟨θ,fun h0=>iB (fun h1=>⟨dT,rfl,by rw[vQ (fD h1)]⟩) (fun h1=>⟨(hY (Cb (lF hp) (aZ.1 η)) δ),dT,iB (fun h2=>⟨dT,rfl,by rw[vR (aZ.1 η) h2,uM (uL _)]⟩) (fun h2=>⟨(G5 (lF hp) (aZ.1 η)),iB (fun h3=>⟨dT,rfl,by rw[z1 (aZ.1 η) η h3,aev]⟩) (fun h3=>(by exact⟨dT,rfl,by rw[xy (aZ.1 η) η η];rfl⟩))⟩)⟩)⟩
def CM:aL:=bU bZ [.obj 0,.d .str] (fun _ x=>x.2.1.1.length<=6) Ig
def L9:aW prog aE.eT aH 73 ψ CM:=
 bA (X:=aH) TH func73 κ (fun(a:CD [.obj 0,.d .str]) (x:PD bZ)=>[]) (fun a x hw hp=>acB a.1 x hp)
def VD:List (FuncId×(Bool×aL)):=[(73,(ψ,CM)),(75,(φ,Ro))]
def acC:bH prog aE aH VD:=
 aM L9 (aM acA (bK bJ))
def Rp:List (Alt bZ [.obj 0,.d .str]):=[{bQ:=bZ,res:=[.d (.slice bS),.d .err],out:=fun _ x=>x,ret:=fun a x=>((cR (aU x) a.1).1,aP (cR (aU x) a.1).2,())}]
def ail(s:aA)(f:cU)(hp:(fun _ x=>x.2.1.1.length<=6) (s,()) f):(cE aE VD f56 [] bZ [.obj 0,.d .str] Rp (s,()) f).holds:=by
 refine ζ (p:=let za:=bC (aU f) s;let zb:=aP za.2.2.2.2;let zc:=cR (aU f) s;let zd:=(zc.1,aP zc.2,());let ze:=gE za.2.1;let zf:=ma za.1 za.2.2.1 za.2.1 za.2.2.2.1;gE f.2.1.1<=6/\(True->((!aR.isNil zb)=φ->True/\f=f/\([],zb,())=zd)/\((!aR.isNil zb)=ψ->(ze<=1000/\∀(i:Nat),i<ze->gE (nth aB za.2.1 i).2.1<=1000)/\True/\f=f/\(zf.1,zf.2,())=zd))) κ ?_
 dsimp -iota -proj -eta only;exact⟨θ,fun h0=>iB (fun h1=>⟨dT,rfl,by rw[vS (fD h1)]⟩) (fun h1=>⟨(Pa (lF hp) (aZ.1 η)),⟨dT,rfl,aeu (aZ.1 η)⟩⟩)⟩
def VE:aL:=bU bZ [.obj 0,.d .str] (fun _ x=>x.2.1.1.length<=6) Rp
def aim:aW prog aE.eT aH 56 ψ VE:=
 bA (X:=aH) acC func56 κ (fun(a:CD [.obj 0,.d .str]) (x:PD bZ)=>[]) (fun a x hw hp=>ail a.1 x hp)
def VF:List (FuncId×(Bool×aL)):=[(73,(ψ,CM)),(70,(ψ,ta))]
def acD:bH prog aE aH VF:=
 aM L9 (aM v8 (bK bJ))
def VG(s:aA)(f:cU):cP:=[
 (0,fun st=>{X:=Nat,inv:=fun i=>i<=gE (bI (.slice .str) st 6),bG:=fun i=>gE (bI (.slice .str) st 6)-i,bB:=fun i=>[(35,sI i)],keep:=[0,4,8,11,33,34],aK:=fun i=>[(aS st 11,.cells 48 [.d .str s,.app aJ (cT (aU f) (bI (.slice .str) st 6) (bI (.slice (.int .i64)) st 8) i) (iT st (aS st 11) 1),.d (.slice aQ) (bI (.slice aQ) st 9)]),(iT st (aS st 11) 1,.tok aJ (cT (aU f) (bI (.slice .str) st 6) (bI (.slice (.int .i64)) st 8) i))],dU:=[aS st 11,iT st (aS st 11) 1]})]
def Rq:List (Alt bZ [.obj 0,.d .str]):=[{bQ:=bZ,res:=[.d aC,.d .err],out:=fun _ x=>x,ret:=fun a x=>((dA (aU x) a.1).1,aP (dA (aU x) a.1).2,())}]
def ain(s:aA)(f:cU)(hp:(fun _ x=>x.2.1.1.length<=6) (s,()) f):(cE aE VF f36 (VG s f) bZ [.obj 0,.d .str] Rq (s,()) f).holds:=by
 refine ζ (p:=let za:=aU f;let zb:=bC za s;let zc:=aP zb.2.2.2.2;let zd:=([],[],[],());let ze:=((dA za s).1,aP (dA za s).2,());let zf:=zb.1;let zg:=gE zf;let zh:=zb.2.2.1;let zi:=zb.2.2.2.1;let zj:=zi=zi/\True;let zk:=fun(E:Nat)=>aP (aU f (nth Ty.str zf E)).2.2;let zl:=fun(E:Nat)=>cT za zf zh E;let zm:=fun(E:Nat)=>[(nth Ty.str zf E,(aU f (nth Ty.str zf E)).2.1,nth (Ty.int hP) zh E,())];let zn:=@hq (Int×Int×Int×Unit)=@hq (Int×Int×Int×Unit);let zo:=@hq (aA×Int×Int×Unit)=@hq (aA×Int×Int×Unit);gE f.2.1.1<=6/\(True->((!aR.isNil zc)=φ->True/\f=f/\(zd,zc,())=ze)/\((!aR.isNil zc)=ψ->zg<=aG->(∃(x:Nat),x<=zg/\(0=(↑x:Int)/\True)/\(s=s/\@hq (aA×Int×Int×Unit)=cT za zf zh x/\zj)/\@hq (aA×Int×Int×Unit)=cT za zf zh x/\True)/\∀E:Nat,E<=zg->((ρ ((↑E:Int)<(↑zg:Int)))=φ->(0<=(↑E:Int)/\(↑E:Int)<(↑zg:Int))/\True/\(True->((!aR.isNil (zk E))=φ->True/\f=f/\(zd,zk E,())=ze)/\((!aR.isNil (zk E))=ψ->(0<=(↑E:Int)/\(↑E:Int)<(↑(gE zh):Int))/\(zl E=zl E/\gE (zl E)+gE (zm E)<=1000000000)/\(aF (↑E:Int)->aF 1->aF ((↑E:Int)+1)/\∃(x':Nat),x'<=zg/\zg-x'<zg-E/\((↑E:Int)+1=(↑x':Int)/\True)/\(s=s/\zl E++zm E=cT za zf zh x'/\zj)/\zl E++zm E=cT za zf zh x'/\zn/\zo/\(C.fS 1=C.fS 1/\f.1.1=f.1.1/\True)/\f.2.1=f.2.1/\(@hq UInt8=@hq UInt8/\zo/\zn/\True)/\zn/\zo/\True))))/\((ρ ((↑E:Int)<(↑zg:Int)))=ψ->True/\f=f/\((s,zl E,zi,()),aR.nil,())=ze)))) κ ?_
 dsimp -iota -proj -eta only;exact⟨θ,fun h0=>iB (fun h1=>(by exact⟨dT,rfl,by rw[Fu (fD h1)];rfl⟩)) (fun h1 h2=>⟨(⟨0,hE _,⟨rfl,dT⟩,⟨rfl,rfl,rfl,dT⟩,rfl,θ⟩),fun E q_0=>iL (fun h3=>⟨ω,dT,fun h4=>iB (fun h5=>(absurd (KS (lF hp) (aZ.1 h1) ω) (fD h5))) (fun h5=>⟨(by have:=(KT (lF hp) (aZ.1 h1)).1;omega),(by exact⟨rfl,by rw[fE];have:=(KT (lF hp) (aZ.1 h1)).2;simp only[hA];omega⟩),fun h6 h7=>⟨(by simp only[aF,aG]at*;omega),(⟨E+1,ω,ω,⟨ω,dT⟩,⟨rfl,(Cg _ _ _ _).symm,rfl,dT⟩,(Cg _ _ _ _).symm,θ⟩)⟩⟩)⟩) (fun h3=>(by exact⟨dT,rfl,by rw[u6 (aZ.1 h1),show E=gE (bC (aU f) s).1 by omega];rfl⟩))⟩)⟩
def VH:aL:=bU bZ [.obj 0,.d .str] (fun _ x=>x.2.1.1.length<=6) Rq
def aio:aW prog aE.eT aH 36 ψ VH:=
 bA (X:=aH) acD func36 κ (fun(a:CD [.obj 0,.d .str]) (x:PD bZ)=>VG a.1 x) (fun a x hw hp=>ain a.1 x hp)
def Rr:List (FuncId×(Bool×aL)):=[(70,(ψ,ta))]
def YC:bH prog aE aH Rr:=
 aM v8 (bK bJ)
def Rs(e:D aC)(f:cU):cP:=[
 (0,fun st=>{X:=Nat,inv:=fun i=>i<=gE e.2.1/\∀j,j<i->gX (aU f) (nth aJ e.2.1 j)=φ,bG:=fun i=>gE e.2.1-i,bB:=fun i=>[(13,sI i)],keep:=[1,2,11,12]})]
def Ma:List (Alt bZ [.d aC,.obj 0]):=[{bQ:=bZ,res:=[.d .bool],out:=fun _ x=>x,ret:=fun a x=>(eN (aU x) a.1,())}]
def af8(e:D aC)(f:cU):(cE aE Rr f40 (Rs e f) bZ [.d aC,.obj 0] Ma (e,()) f).holds:=by
 refine ζ (p:=let za:=e.2.1;let zb:=gE za;let zc:=aU f;let zd:=fun(E:Nat)=>(aU f (nth aJ za E).1).2;let ze:=(eN zc e,());let zf:=True/\f=f/\(ψ,())=ze;zb<=aG->(∃(x:Nat),(x<=zb/\∀(j:Nat),j<x->gX zc (nth aJ za j)=φ)/\(0=(↑x:Int)/\True)/\True)/\∀E:Nat,(E<=zb/\∀(j:Nat),j<E->gX zc (nth aJ za j)=φ)->((ρ ((↑E:Int)<(↑zb:Int)))=φ->(0<=(↑E:Int)/\(↑E:Int)<(↑zb:Int))/\True/\(True->((!aR.isNil (aP (zd E).2))=φ->zf)/\((!aR.isNil (aP (zd E).2))=ψ->(((zd E).1 != (nth aJ za E).2.1)=φ->zf)/\(((zd E).1 != (nth aJ za E).2.1)=ψ->aF (↑E:Int)->aF 1->aF ((↑E:Int)+1)/\∃(x':Nat),(x'<=zb/\∀(j:Nat),j<x'->gX zc (nth aJ za j)=φ)/\zb-x'<zb-E/\((↑E:Int)+1=(↑x':Int)/\True)/\(e.1=e.1/\za=za/\e.2.2.1=e.2.2.1/\True)/\(C.fS 1=C.fS 1/\f.1.1=f.1.1/\True)/\f.2.1=f.2.1/\True))))/\((ρ ((↑E:Int)<(↑zb:Int)))=ψ->zb<=aG->True/\f=f/\(ρ ((↑zb:Int) > 0),())=ze)) κ ?_
 dsimp -iota -proj -eta only;exact fun h0=>⟨(⟨0,⟨hE _,fun j hj=>absurd hj (ih _)⟩,⟨rfl,dT⟩,dT⟩),fun E q_0=>iL (fun h1=>⟨ω,dT,fun h2=>iB (fun h3=>⟨dT,rfl,by rw[z7 (i:=E) ω (aas h3)]⟩) (fun h3=>iN (fun h4=>⟨dT,rfl,by rw[z7 (i:=E) ω (Hf h4)]⟩) (fun h4 h5 h6=>⟨(by simp only[aF,aG]at*;omega),(⟨E+1,⟨ω,jM q_0.2 (Xq η η)⟩,ω,⟨ω,dT⟩,θ⟩)⟩))⟩) (fun h1 h2=>(by exact⟨dT,rfl,by rw[Ch fun i hi=>q_0.2 i ω];simp⟩))⟩
def FT:aL:=bU bZ [.d aC,.obj 0] (fun _ _=>True) Ma
def Rt:aW prog aE.eT aH 40 ψ FT:=
 bA (X:=aH) YC func40 κ (fun(a:CD [.d aC,.obj 0]) (x:PD bZ)=>Rs a.1 x) (fun a x hw hp=>af8 a.1 x)
def acE:List (FuncId×(Bool×aL)):=[(40,(ψ,FT)),(70,(ψ,ta)),(74,(φ,w4)),(75,(φ,Ro))]
def af9:bH prog aE aH acE:=
 aM Rt (aM v8 (aM CK (aM acA (bK bJ))))
def acF(e:D aC)(f:cU):cP:=[
 (0,fun st=>{X:=Nat,inv:=fun i=>i<=gE e.2.1/\∀j,j<i->(bY (aU f (nth aJ e.2.1 j).1).1).2=0,bG:=fun i=>gE e.2.1-i,bB:=fun i=>[(23,sI i),(6,.s (.one (.app .str (il (hz i e.2.1)) (aS st 6)))),(7,.s (.one (.app (.int .i64) (im (hz i e.2.1)) (aS st 7)))),(8,.s (.one (.app aB (ie (aU f) (hz i e.2.1)) (aS st 8))))],aK:=fun i=>[(aS st 6,.tok .str (il (hz i e.2.1))),(aS st 7,.tok (.int .i64) (im (hz i e.2.1))),(aS st 8,.tok aB (ie (aU f) (hz i e.2.1)))],keep:=[1,2,21,22],dU:=[aS st 6,aS st 7,aS st 8]}),
 (300015,fun st=>{X:=Nat,inv:=fun i=>i=(bI (.int .i64) st 23).toNat+1,bG:=fun _=>0,bB:=fun i=>[(6,.s (.one (.app .str (il (hz i e.2.1)) (aS st 6)))),(7,.s (.one (.app (.int .i64) (im (hz i e.2.1)) (aS st 7)))),(8,.s (.one (.app aB (ie (aU f) (hz i e.2.1)) (aS st 8))))],aK:=fun i=>[(aS st 6,.tok .str (il (hz i e.2.1))),(aS st 7,.tok (.int .i64) (im (hz i e.2.1))),(aS st 8,.tok aB (ie (aU f) (hz i e.2.1)))],keep:=[1,2,4,5,10,11,13,14,21,22,23,24,25,26,27,28,29,30,31,32,33,34,35,36,37,38,39,40,41,42,43,44,45],dU:=[aS st 6,aS st 7,aS st 8]})]
def VI:List (Alt bZ [.d aC,.obj 0]):=[{bQ:=bZ,res:=[.d (.slice bS),.d .err],out:=fun _ x=>x,ret:=fun a x=>((mM (aU x) a.1).1,aP (mM (aU x) a.1).2,())}]
def ajM(e:D aC)(f:cU)(hp:(fun a x=>a.1.2.1.length<=1000/\x.2.1.1.length<=6) (e,()) f):(cE aE acE f38 (acF e f) bZ [.d aC,.obj 0] VI (e,()) f).holds:=by
 refine ζ (p:=let za:=aU f;let zb:=f=f;let zc:=((mM za e).1,aP (mM za e).2,());let zd:=e.2.1;let ze:=gE zd;let zf:=fun(E:Nat)=>(nth aJ zd E).1;let zg:=fun(E:Nat)=>aP (aU f (zf E)).2.2;let zh:=fun(E:Nat)=>aP (bY (aU f (zf E)).1).2;let zi:=fun(E:Nat)=>il (hz E zd);let zj:=fun(E:Nat)=>zi E=zi E/\gE (zi E)+gE [zf E]<=1000000000;let zk:=fun(E:Nat)=>im (hz E zd);let zl:=fun(E:Nat)=>(nth aJ zd E).2.2.1;let zm:=fun(E:Nat)=>ie za (hz E zd);let zn:=fun(E:Nat)=>(bY (aU f (zf E)).1).1;let zo:=C.fS 1=C.fS 1/\f.1.1=f.1.1/\True;let zp:=f.2.1=f.2.1;let zq:=e.2.2.1;let zr:=@hq (aA×Int×List Int×Unit)=@hq (aA×Int×List Int×Unit)/\(e.1=e.1/\zd=zd/\zq=zq/\True)/\True;let zs:=fun(E:Nat)=>(zk E=zk E/\gE (zk E)+gE [zl E]<=1000000000)/\(zm E=zm E/\gE (zm E)+gE [zn E]<=1000000000)/\∃(x':Nat),x'=E+1/\(zi E++[zf E]=il (hz x' zd)/\zk E++[zl E]=im (hz x' zd)/\zm E++[zn E]=ie za (hz x' zd)/\True)/\zi E++[zf E]=il (hz x' zd)/\zk E++[zl E]=im (hz x' zd)/\zm E++[zn E]=ie za (hz x' zd)/\((zn E).1=(zn E).1/\(zn E).2.1=(zn E).2.1/\(zn E).2.2.1=(zn E).2.2.1/\(zn E).2.2.2.1=(zn E).2.2.2.1/\True)/\@hq (Int×Int×Int×aA×Bool×Unit)=@hq (Int×Int×Int×aA×Bool×Unit)/\@hq (aA×Int×Bool×Unit)=@hq (aA×Int×Bool×Unit)/\@hq Int=@hq Int/\@hq aA=@hq aA/\zo/\zp/\(zf E=zf E/\(nth aJ zd E).2.1=(nth aJ zd E).2.1/\zl E=zl E/\True)/\zr;let zt:=fun(E:Nat)=>zj E/\(fun a0:Prop=>a0/\a0/\a0) (zs E)/\(fun a0:Prop=>a0/\a0) (zs E)/\zs E;let zu:=fun(E:Nat)=>zj E/\zs E;let zv:=fun(E:Nat)=>(zj E/\(fun a0:Prop=>a0/\a0/\a0) (zs E))/\(zj E/\(fun a0:Prop=>a0/\a0) (zs E))/\zu E;let zw:=fun(E:Nat)=>zj E/\(fun a0:Prop=>a0/\a0) (zs E)/\zs E;let zx:=fun(E:Nat)=>(zj E/\(fun a0:Prop=>a0/\a0) (zs E))/\zu E;let zy:=fun(E:Nat)=>(fun a0 a1 a2 a3 a4:Prop=>a0/\a1/\a2/\a3/\a4/\a4) (zt E) (zv E) (zw E) (zx E) (zu E);let zz:=fun(E:Nat)=>(fun a0 a1 a2:Prop=>a0/\a1/\a2/\a2) (zw E) (zx E) (zu E);let zaa:=fun(E:Nat)=>ma (zi E) (zk E) (zm E) zq;True/\(True->((!eN za e)=φ->True/\zb/\([],aR.no 10,())=zc)/\((!eN za e)=ψ->ze<=aG->(∃(x:Nat),(x<=ze/\∀(j:Nat),j<x->(bY (aU f (nth aJ zd j).1).1).2=0)/\(0=(↑x:Int)/\@hq aA=il (hz x zd)/\@hq Int=im (hz x zd)/\@hq (List aA×List Int×List (aA×Int×Bool×Unit)×List (Int×Int×Int×aA×Bool×Unit)×Unit)=ie za (hz x zd)/\True)/\@hq aA=il (hz x zd)/\@hq Int=im (hz x zd)/\@hq (List aA×List Int×List (aA×Int×Bool×Unit)×List (Int×Int×Int×aA×Bool×Unit)×Unit)=ie za (hz x zd)/\True)/\∀E:Nat,(E<=ze/\∀(j:Nat),j<E->(bY (aU f (nth aJ zd j).1).1).2=0)->((ρ ((↑E:Int)<(↑ze:Int)))=φ->(0<=(↑E:Int)/\(↑E:Int)<(↑ze:Int))/\True/\(True->((!aR.isNil (zg E))=φ->True/\zb/\([],zg E,())=zc)/\((!aR.isNil (zg E))=ψ->True/\((!aR.isNil (zh E))=φ->True/\zb/\([],zh E,())=zc)/\((!aR.isNil (zh E))=ψ->((fun a0 a1 a2 a3 a4:Prop=>a0/\a1/\a2/\a3/\a4/\a4/\a4) (zt E) (zy E) (zw E) (zz E) (zu E)/\(zy E/\(zv E/\zx E/\zu E)/\zz E/\(zx E/\zu E)/\(fun a0:Prop=>a0/\a0) (zu E)/\zu E)/\(fun a0 a1 a2:Prop=>a0/\a1/\a2/\a2/\a2) (zw E) (zz E) (zu E)/\(zz E/\(zx E/\zu E)/\(fun a0:Prop=>a0/\a0) (zu E)/\zu E)/\(fun a0:Prop=>a0/\a0/\a0) (zu E)/\(fun a0:Prop=>a0/\a0) (zu E)/\zu E)/\∀F:Nat,F=E+1->aF (↑E:Int)->aF 1->aF ((↑E:Int)+1)/\∃(x':Nat),(x'<=ze/\∀(j:Nat),j<x'->(bY (aU f (nth aJ zd j).1).1).2=0)/\ze-x'<ze-E/\((↑E:Int)+1=(↑x':Int)/\zi F=il (hz x' zd)/\zk F=im (hz x' zd)/\zm F=ie za (hz x' zd)/\True)/\zi F=il (hz x' zd)/\zk F=im (hz x' zd)/\zm F=ie za (hz x' zd)/\zo/\zp/\zr))))/\((ρ ((↑E:Int)<(↑ze:Int)))=ψ->(gE (zm E)<=1000/\∀(i:Nat),i<gE (zm E)->gE (nth aB (zm E) i).2.1<=1000)/\True/\zb/\((zaa E).1,(zaa E).2,())=zc)))) κ ?_
 dsimp -iota -proj -eta only;dsimp only at hp;refine⟨dT,fun h0=>iB (fun h1=>(by exact⟨dT,rfl,by rw[aam h1];rfl⟩)) (fun h1 h2=>⟨(⟨0,⟨hE _,fun j hj=>absurd hj (ih _)⟩,⟨rfl,rfl,rfl,rfl,dT⟩,θ⟩),fun E q_0=>iL (fun h3=>⟨ω,dT,fun h4=>iB (fun h5=>(absurd ((KO h1).2 E ω).1 (fD h5))) (fun h5=>⟨dT,iB (fun h6=>⟨dT,rfl,by rw[ahr h1 (Pl q_0.2 ω (fD h6)) (fD h6)]⟩) (fun h6=>⟨⟨(show ∀{a0 a1 a2 a3 a4:Prop},a0->a1->a2->a3->a4->a0/\a1/\a2/\a3/\a4/\a4/\a4 from fun g0 g1 g2 g3 g4=>⟨g0,g1,g2,g3,g4,g4,g4⟩) (⟨?a,⟨(show ∀{a0:Prop},a0->a0/\a0/\a0 from fun g0=>⟨g0,g0,g0⟩) (⟨?b,?c,?d⟩),(show ∀{a0:Prop},a0->a0/\a0 from fun g0=>⟨g0,g0⟩) (⟨?e,?f,?g⟩),⟨?h,?i,?j⟩⟩⟩) ((show ∀{a0 a1 a2 a3 a4:Prop},a0->a1->a2->a3->a4->a0/\a1/\a2/\a3/\a4/\a4 from fun g0 g1 g2 g3 g4=>⟨g0,g1,g2,g3,g4,g4⟩) (⟨?k,⟨(show ∀{a0:Prop},a0->a0/\a0/\a0 from fun g0=>⟨g0,g0,g0⟩) (⟨?l,?m,?n⟩),(show ∀{a0:Prop},a0->a0/\a0 from fun g0=>⟨g0,g0⟩) (⟨?o,?p,?q⟩),⟨?r,?s,?t⟩⟩⟩) (⟨⟨?u,(show ∀{a0:Prop},a0->a0/\a0/\a0 from fun g0=>⟨g0,g0,g0⟩) (⟨?v,?w,?x⟩)⟩,⟨?y,(show ∀{a0:Prop},a0->a0/\a0 from fun g0=>⟨g0,g0⟩) (⟨?z,?a0,?a1⟩)⟩,⟨?a2,?a3,?a4,?a5⟩⟩) (⟨?a6,⟨(show ∀{a0:Prop},a0->a0/\a0 from fun g0=>⟨g0,g0⟩) (⟨?a7,?a8,?a9⟩),⟨?aa,?ab,?ac⟩⟩⟩) (⟨⟨?ad,(show ∀{a0:Prop},a0->a0/\a0 from fun g0=>⟨g0,g0⟩) (⟨?ae,?af,?ag⟩)⟩,⟨?ah,?ai,?aj,?ak⟩⟩) (⟨?al,?am,?an,?ao⟩)) (⟨?ap,⟨(show ∀{a0:Prop},a0->a0/\a0 from fun g0=>⟨g0,g0⟩) (⟨?aq,?ar,?au⟩),⟨?av,?aw,?ax⟩⟩⟩) ((show ∀{a0 a1 a2:Prop},a0->a1->a2->a0/\a1/\a2/\a2 from fun g0 g1 g2=>⟨g0,g1,g2,g2⟩) (⟨?ay,⟨(show ∀{a0:Prop},a0->a0/\a0 from fun g0=>⟨g0,g0⟩) (⟨?az,?b0,?b1⟩),⟨?b2,?b3,?b4⟩⟩⟩) (⟨⟨?b5,(show ∀{a0:Prop},a0->a0/\a0 from fun g0=>⟨g0,g0⟩) (⟨?b6,?b7,?b8⟩)⟩,⟨?b9,?ba,?bb,?bc⟩⟩) (⟨?bd,?be,?bf,?bg⟩)) (⟨?bh,?bi,?bj,?bk⟩),⟨(show ∀{a0 a1 a2 a3 a4:Prop},a0->a1->a2->a3->a4->a0/\a1/\a2/\a3/\a4/\a4 from fun g0 g1 g2 g3 g4=>⟨g0,g1,g2,g3,g4,g4⟩) (⟨?bl,⟨(show ∀{a0:Prop},a0->a0/\a0/\a0 from fun g0=>⟨g0,g0,g0⟩) (⟨?bm,?bn,?bo⟩),(show ∀{a0:Prop},a0->a0/\a0 from fun g0=>⟨g0,g0⟩) (⟨?bp,?bq,?br⟩),⟨?bs,?bt,?bu⟩⟩⟩) (⟨⟨?bv,(show ∀{a0:Prop},a0->a0/\a0/\a0 from fun g0=>⟨g0,g0,g0⟩) (⟨?bw,?bx,?bz⟩)⟩,⟨?c0,(show ∀{a0:Prop},a0->a0/\a0 from fun g0=>⟨g0,g0⟩) (⟨?c1,?c2,?c3⟩)⟩,⟨?c4,?c5,?c6,?c7⟩⟩) (⟨?c8,⟨(show ∀{a0:Prop},a0->a0/\a0 from fun g0=>⟨g0,g0⟩) (⟨?c9,?ca,?cb⟩),⟨?cc,?cd,?ce⟩⟩⟩) (⟨⟨?cf,(show ∀{a0:Prop},a0->a0/\a0 from fun g0=>⟨g0,g0⟩) (⟨?cg,?ch,?ci⟩)⟩,⟨?cj,?ck,?cl,?cm⟩⟩) (⟨?cn,?co,?cp,?cq⟩),⟨⟨⟨?cr,(show ∀{a0:Prop},a0->a0/\a0/\a0 from fun g0=>⟨g0,g0,g0⟩) (⟨?cs,?ct,?cu⟩)⟩,⟨?cv,(show ∀{a0:Prop},a0->a0/\a0 from fun g0=>⟨g0,g0⟩) (⟨?cw,?cx,?cy⟩)⟩,⟨?cz,?d0,?d1,?d2⟩⟩,⟨⟨?d3,(show ∀{a0:Prop},a0->a0/\a0 from fun g0=>⟨g0,g0⟩) (⟨?d4,?d5,?d6⟩)⟩,⟨?d7,?d8,?d9,?da⟩⟩,⟨?db,?dc,?dd,?de⟩⟩,(show ∀{a0 a1 a2:Prop},a0->a1->a2->a0/\a1/\a2/\a2 from fun g0 g1 g2=>⟨g0,g1,g2,g2⟩) (⟨?df,⟨(show ∀{a0:Prop},a0->a0/\a0 from fun g0=>⟨g0,g0⟩) (⟨?dg,?dh,?di⟩),⟨?dj,?dk,?dl⟩⟩⟩) (⟨⟨?dm,(show ∀{a0:Prop},a0->a0/\a0 from fun g0=>⟨g0,g0⟩) (⟨?dn,?dp,?dq⟩)⟩,⟨?dr,?ds,?dt,?du⟩⟩) (⟨?dv,?dw,?dx,?dy⟩),⟨⟨⟨?dz,(show ∀{a0:Prop},a0->a0/\a0 from fun g0=>⟨g0,g0⟩) (⟨?e0,?e1,?e2⟩)⟩,⟨?e3,?e4,?e5,?e6⟩⟩,⟨?e7,?e8,?e9,?ea⟩⟩,(show ∀{a0:Prop},a0->a0/\a0 from fun g0=>⟨g0,g0⟩) (⟨?eb,?ec,?ed,?ee⟩),⟨?ef,?eg,?eh,?ei⟩⟩,(show ∀{a0 a1 a2:Prop},a0->a1->a2->a0/\a1/\a2/\a2/\a2 from fun g0 g1 g2=>⟨g0,g1,g2,g2,g2⟩) (⟨?ej,⟨(show ∀{a0:Prop},a0->a0/\a0 from fun g0=>⟨g0,g0⟩) (⟨?ek,?el,?em⟩),⟨?en,?eo,?ep⟩⟩⟩) ((show ∀{a0 a1 a2:Prop},a0->a1->a2->a0/\a1/\a2/\a2 from fun g0 g1 g2=>⟨g0,g1,g2,g2⟩) (⟨?eq,⟨(show ∀{a0:Prop},a0->a0/\a0 from fun g0=>⟨g0,g0⟩) (⟨?er,?es,?et⟩),⟨?eu,?ev,?ew⟩⟩⟩) (⟨⟨?ex,(show ∀{a0:Prop},a0->a0/\a0 from fun g0=>⟨g0,g0⟩) (⟨?ey,?ez,?f0⟩)⟩,⟨?f1,?f2,?f3,?f4⟩⟩) (⟨?f5,?f6,?f7,?f8⟩)) (⟨?f9,?fa,?fb,?fc⟩),⟨(show ∀{a0 a1 a2:Prop},a0->a1->a2->a0/\a1/\a2/\a2 from fun g0 g1 g2=>⟨g0,g1,g2,g2⟩) (⟨?fd,⟨(show ∀{a0:Prop},a0->a0/\a0 from fun g0=>⟨g0,g0⟩) (⟨?fe,?ff,?fg⟩),⟨?fh,?fi,?fj⟩⟩⟩) (⟨⟨?fk,(show ∀{a0:Prop},a0->a0/\a0 from fun g0=>⟨g0,g0⟩) (⟨?fl,?fm,?fn⟩)⟩,⟨?fo,?fp,?fq,?fr⟩⟩) (⟨?fs,?ft,?fu,?fv⟩),⟨⟨⟨?fw,(show ∀{a0:Prop},a0->a0/\a0 from fun g0=>⟨g0,g0⟩) (⟨?fx,?fy,?fz⟩)⟩,⟨?g0,?g1,?g2,?g3⟩⟩,⟨?g4,?g5,?g6,?g7⟩⟩,(show ∀{a0:Prop},a0->a0/\a0 from fun g0=>⟨g0,g0⟩) (⟨?g8,?g9,?ga,?gb⟩),⟨?gc,?gd,?ge,?gf⟩⟩,(show ∀{a0:Prop},a0->a0/\a0/\a0 from fun g0=>⟨g0,g0,g0⟩) (⟨?gg,?gh,?gi,?gj⟩),(show ∀{a0:Prop},a0->a0/\a0 from fun g0=>⟨g0,g0⟩) (⟨?gk,?gl,?gm,?gn⟩),⟨?go,?gp,?gq,?gr⟩⟩,fun F q_1 h7 h8=>⟨(by simp only[aF,aG]at*;omega),?gs⟩⟩)⟩)⟩) (fun h3=>⟨(by rw[nD ω];exact aar hp.1 fun j hj=>q_0.2 j ω),(by rw[nD ω];exact⟨dT,rfl,aeK h1 (z8 fun j hj=>q_0.2 j ω)⟩)⟩)⟩)⟩
 case a|b|c|e|f|h|i|k|l|m|o|p|r|s|u|v|w|y|z|a0|a2|a3|a4|a6|a7|a8|aa|ab|ad|ae|af|ah|ai|aj|al|am|an|ap|aq|ar|av|aw|ay|az|b0|b2|b3|b5|b6|b7|b9|ba|bb|bd|be|bf|bh|bi|bj|bl|bm|bn|bp|bq|bs|bt|bv|bw|bx|c0|c1|c2|c4|c5|c6|c8|c9|ca|cc|cd|cf|cg|ch|cj|ck|cl|cn|co|cp|cr|cs|ct|cv|cw|cx|cz|d0|d1|d3|d4|d5|d7|d8|d9|db|dc|dd|df|dg|dh|dj|dk|dm|dn|dp|dr|ds|dt|dv|dw|dx|dz|e0|e1|e3|e4|e5|e7|e8|e9|eb|ec|ed|ef|eg|eh|ej|ek|el|en|eo|eq|er|es|eu|ev|ex|ey|ez|f1|f2|f3|f5|f6|f7|f9|fa|fb|fd|fe|ff|fh|fi|fk|fl|fm|fo|fp|fq|fs|ft|fu|fw|fx|fy|g0|g1|g2|g4|g5|g6|g8|g9|ga|gc|gd|ge|gg|gh|gi|gk|gl|gm|go|gp|gq=>exact⟨rfl,by simp only[il,im,ie,hS,hR,hA];have:=hp.1;omega⟩
 case d|g|j|n|q|t|x|a1|a5|a9|ac|ag|ak|ao|au|ax|b1|b4|b8|bc|bg|bk|bo|br|bu|bz|c3|c7|cb|ce|ci|cm|cq|cu|cy|d2|d6|da|de|di|dl|dq|du|dy|e2|e6|ea|ee|ei|em|ep|et|ew|f0|f4|f8|fc|fg|fj|fn|fr|fv|fz|g3|g7|gb|gf|gj|gn|gr=>exact⟨E+1,rfl,⟨D4 ω,D5 ω,He ω,dT⟩,D4 ω,D5 ω,He ω,θ⟩
 case gs=>
  subst q_1;exact⟨E+1,⟨ω,jM q_0.2 (aZ.1 η)⟩,ω,⟨ω,rfl,rfl,rfl,dT⟩,rfl,rfl,rfl,θ⟩
def acG:aL:=bU bZ [.d aC,.obj 0] (fun a x=>a.1.2.1.length<=1000/\x.2.1.1.length<=6) VI
def ajN:aW prog aE.eT aH 38 ψ acG:=
 bA (X:=aH) af9 func38 κ (fun(a:CD [.d aC,.obj 0]) (x:PD bZ)=>acF a.1 x) (fun a x hw hp=>ajM a.1 x hp)
@[reducible] def fR:List Ob:=[.box 109 [.obj 1,.obj 3],.box 107 [.obj 2,.d (.int .i64)],.ext 1 (jY cY),.box 169 [.obj 4,.d (.int .i64),.d (.slice aC)],.box 164 [.obj 5,.obj 6,.obj 7,.d (.int .i64),.d .bool],.row φ .str,.row φ .str,.tok iJ]
@[reducible] def Ih:List Ob:=[.box 107 [.obj 1,.d (.int .i64)],.ext 1 (jY cY),.box 164 [.obj 3,.obj 4,.obj 5,.d (.int .i64),.d .bool],.row φ .str,.row φ .str,.tok iJ]
def Mb:List (FuncId×(Bool×aL)):=[(36,(ψ,VH)),(52,(ψ,QM))]
def TI:bH prog aE aH Mb:=
 aM aio (aM afB (bK bJ))
def Ii:List (Alt fR [.obj 0,.d .str]):=[{bQ:=fR,res:=[.d .err],out:=fun a x=>((),x.2.1,x.2.2.1,(jc (x.2.1,x.2.2.1,()) x.2.2.2 a.1).1),ret:=fun a x=>(aP (jc (x.2.1,x.2.2.1,()) x.2.2.2 a.1).2,())}]
def acH(s:aA)(n:Int×Unit)(m:List FE×Int×Unit)(r:Int)(o:List (D aC))(d:Dk)(hp:(fun _ x=>ji (x.2.1,x.2.2.1,())/\Cy x.2.2.2) (s,()) ((),n,m,(r,o,()),d)):(cE aE Mb f16 [] fR [.obj 0,.d .str] Ii (s,()) ((),n,m,(r,o,()),d)).holds:=by
 refine ζ (p:=let za:=dA (aU (n,m,())) s;let zb:=d.2.2.2.1=d.2.2.2.1;let zc:=((r,o,()),d);let zd:=jc (n,m,()) zc s;let ze:=((),n,m,zd.1);let zf:=(aP zd.2,());let zg:=mG zc za.1;let zh:=zg.1.2.2.2.2.1;gE m.1<=6/\(True->((!aR.isNil (aP za.2))=φ->zb/\True/\((),n,m,zc)=ze/\(aP za.2,())=zf)/\((!aR.isNil (aP za.2))=ψ->zb/\((gE za.1.2.1<=1000000/\gE za.1.2.2.1<=1000000)/\gE o<=99/\0<=r/\r<=1000000000/\dX d 1000000)/\(True->zh=zh/\True/\((),n,m,zg.1)=ze/\(aP zg.2,())=zf)))) κ ?_
 dsimp -iota -proj -eta only;dsimp only at hp;exact⟨hp.1.st.pre.1,fun h0=>iB (fun h1=>(by rw[abb (fD h1)];exact⟨rfl,dT,rfl,rfl⟩)) (fun h1=>⟨rfl,⟨XW hp.1 (aZ.1 h1),hp.2⟩,fun h2=>(by rw[XV (aZ.1 h1)];exact⟨rfl,dT,rfl,rfl⟩)⟩)⟩
def Mc:aL:=bU fR [.obj 0,.d .str] (fun _ x=>ji (x.2.1,x.2.2.1,())/\Cy x.2.2.2) Ii
def acI:aW prog aE.eT aH 16 ψ Mc:=
 bA (X:=aH) TI func16 κ (fun(a:CD [.obj 0,.d .str]) (x:PD fR)=>[]) (fun a x hw hp=>acH a.1 x.2.1 x.2.2.1 x.2.2.2.1.1 x.2.2.2.1.2.1 x.2.2.2.2 hp)
def Ru:List (FuncId×(Bool×aL)):=[(54,(ψ,Vm))]
def YD:bH prog aE aH Ru:=
 aM aib (bK bJ)
def Md:List (Alt fR [.obj 0,.d .str]):=[{bQ:=fR,res:=[.d .err],out:=fun a x=>((),x.2.1,x.2.2.1,(fM x.2.2.2 a.1).1),ret:=fun a x=>(aP (fM x.2.2.2 a.1).2,())}]
def aga(s:aA)(n:Int×Unit)(m:List FE×Int×Unit)(r:Int)(o:List (D aC))(d:Dk)(hp:(fun _ x=>Cy x.2.2.2) (s,()) ((),n,m,(r,o,()),d)):(cE aE Ru f18 [] fR [.obj 0,.d .str] Md (s,()) ((),n,m,(r,o,()),d)).holds:=by
 refine ζ (p:=let za:=fM ((r,o,()),d) s;let zb:=za.1.2.2.2.2.1;let zc:=((),n,m,za.1);let zd:=(aP za.2,());d.2.2.2.1=d.2.2.2.1/\(gE o<=100/\0<=r/\r<=1000000000/\dX d 1000000)/\(True->zb=zb/\True/\zc=zc/\zd=zd)) κ ?_
 dsimp -iota -proj -eta only;dsimp only at hp;exact⟨rfl,⟨hY hp.1 δ,hp.2⟩,fun h0=>θ⟩
def Rv:aL:=bU fR [.obj 0,.d .str] (fun _ x=>Cy x.2.2.2) Md
def agb:aW prog aE.eT aH 18 ψ Rv:=
 bA (X:=aH) YD func18 κ (fun(a:CD [.obj 0,.d .str]) (x:PD fR)=>[]) (fun a x hw hp=>aga a.1 x.2.1 x.2.2.1 x.2.2.2.1.1 x.2.2.2.1.2.1 x.2.2.2.2 hp)
def Rw:List (FuncId×(Bool×aL)):=[(55,(ψ,QN)),(40,(ψ,FT)),(38,(ψ,acG)),(56,(ψ,VE))]
def YE:bH prog aE aH Rw:=
 aM abR (aM Rt (aM ajN (aM aim (bK bJ))))
def Me:List (Alt fR [.obj 0,.d .str]):=[{bQ:=fR,res:=[.d (.slice bS),.d .bool,.d .err],out:=fun _ x=>x,ret:=fun a x=>((iy (x.2.1,x.2.2.1,()) x.2.2.2.1.2.1 a.1).1,(iy (x.2.1,x.2.2.1,()) x.2.2.2.1.2.1 a.1).2.1,aP (iy (x.2.1,x.2.2.1,()) x.2.2.2.1.2.1 a.1).2.2,())}]
def agc(s:aA)(n:Int×Unit)(m:List FE×Int×Unit)(r:Int)(o:List (D aC))(d:Dk)(hp:(fun _ x=>x.2.2.1.1.length<=6/\vW x.2.2.2.1.2.1) (s,()) ((),n,m,(r,o,()),d)):(cE aE Rw f20 [] fR [.obj 0,.d .str] Me (s,()) ((),n,m,(r,o,()),d)).holds:=by
 refine ζ (p:=let za:=d.2.2.2.1=d.2.2.2.1;let zb:=aU (n,m,());let zc:=(cN o s).1;let zd:=gE m.1<=6;let ze:=((),n,m,(r,o,()),d);let zf:=aP (mM zb zc).2;let zg:=iy (n,m,()) o s;let zh:=(zg.1,zg.2.1,aP zg.2.2,());let zi:=zd/\(True->za/\True/\ze=ze/\((cR zb s).1,ψ,aP (cR zb s).2,())=zh);za/\(∀(i:Nat),i<gE o->gE (nth aC o i).2.1<=1000000/\gE (nth aC o i).2.2.1<=1000000)/\(True->(((cN o s).2)=φ->True/\(True->((eN zb zc)=φ->(gE zc.2.1<=1000/\zd)/\(True->za/\True/\ze=ze/\((mM zb zc).1,aR.isNil zf,zf,())=zh))/\((eN zb zc)=ψ->zi)))/\(((cN o s).2)=ψ->zi))) κ ?_
 dsimp -iota -proj -eta only;dsimp only at hp;refine⟨rfl,hp.2.wide,fun h0=>⟨fun h1=>⟨dT,fun h2=>⟨fun h3=>⟨⟨abc hp.2 h1,hp.1⟩,fun h4=>(by rw[abd h1 h3,ahD];exact⟨rfl,dT,rfl,rfl⟩)⟩,fun h3=>⟨?a,fun h4=>(by rw[Lg fun z=>kc (z.2.symm.trans h3)];exact⟨rfl,dT,rfl,rfl⟩)⟩⟩⟩,fun h1=>⟨?b,fun h2=>(by rw[Lg fun z=>kc (z.1.symm.trans h1)];exact⟨rfl,dT,rfl,rfl⟩)⟩⟩⟩
 case a|b=>omega
def Rx:aL:=bU fR [.obj 0,.d .str] (fun _ x=>x.2.2.1.1.length<=6/\vW x.2.2.2.1.2.1) Me
def agd:aW prog aE.eT aH 20 ψ Rx:=
 bA (X:=aH) YE func20 κ (fun(a:CD [.obj 0,.d .str]) (x:PD fR)=>[]) (fun a x hw hp=>agc a.1 x.2.1 x.2.2.1 x.2.2.2.1.1 x.2.2.2.1.2.1 x.2.2.2.2 hp)
def Mf:List (FuncId×(Bool×aL)):=[(59,(ψ,QP))]
def TJ:bH prog aE aH Mf:=
 aM afE (bK bJ)
def Ij:List (Alt fR [.obj 0]):=[{bQ:=fR,res:=[.d (.slice .str)],out:=fun _ x=>x,ret:=fun _ x=>(eJ x.2.2.2.1.2.1,())}]
def acJ(n:Int×Unit)(m:List FE×Int×Unit)(r:Int)(o:List (D aC))(d:Dk)(hp:(fun _ x=>x.2.2.2.1.2.1.length<=1000000) () ((),n,m,(r,o,()),d)):(cE aE Mf f24 [] fR [.obj 0] Ij () ((),n,m,(r,o,()),d)).holds:=by
 refine ζ (p:=let za:=d.2.2.2.1=d.2.2.2.1;let zb:=((),n,m,(r,o,()),d);let zc:=(eJ o,());za/\gE o<=1000000/\(True->za/\True/\zb=zb/\zc=zc)) κ ?_
 dsimp -iota -proj -eta only;dsimp only at hp;refine⟨rfl,?a,fun h0 =>?b⟩
 case a|b=>trivial
def Mg:aL:=bU fR [.obj 0] (fun _ x=>x.2.2.2.1.2.1.length<=1000000) Ij
def acK:aW prog aE.eT aH 24 ψ Mg:=
 bA (X:=aH) TJ func24 κ (fun(a:CD [.obj 0]) (x:PD fR)=>[]) (fun a x hw hp=>acJ x.2.1 x.2.2.1 x.2.2.2.1.1 x.2.2.2.1.2.1 x.2.2.2.2 hp)
end Go.Proofs.YtgokjhhcfemnhabGreatDoor

namespace Go.Proofs.YtgokjhhcfemnhabGreatDoor
open Go.Proofs.Tryz
open Go.Shelf
def Eu:Go.Shelf.Ren:=⟨fun|156=>195|165=>223|166=>148|169=>151|240=>194|241=>232|276=>222|277=>233|n=>n,fun|31=>64|9=>9|3=>3|4=>4|0=>0|20=>20|72=>244|76=>183|70=>242|37=>181|75=>33|127=>282|164=>302|5=>5|80=>246|n=>n,fun|n=>n⟩
def VJ:kF prog Eu:={
 mixed:=by kernel_rfl
 f156:=func195.trans (congrArg ξ κ)
 f165:=func223.trans (congrArg ξ κ)
 f166:=func148.trans (congrArg ξ κ)
 f169:=func151.trans (congrArg ξ κ)
 f240:=func194.trans (congrArg ξ κ)
 f241:=func232.trans (congrArg ξ κ)
 f276:=func222.trans (congrArg ξ κ)
 f277:=func233.trans (congrArg ξ κ)
 t0:=underlying0
 a0:=isAgg0
 z0:=sizeOf0
 v0:=zeroValue0
 t3:=underlying3
 a3:=isAgg3
 z3:=sizeOf3
 v3:=zeroValue3
 t4:=underlying4
 a4:=isAgg4
 z4:=sizeOf4
 v4:=zeroValue4
 t9:=underlying9
 a9:=isAgg9
 z9:=sizeOf9
 v9:=zeroValue9
 t20:=underlying20
 a20:=isAgg20
 z20:=sizeOf20
 v20:=zeroValue20
 t31:=underlying64
 a31:=isAgg64
 z31:=sizeOf64
 v31:=zeroValue64
 t37:=underlying181
 a37:=isAgg181
 z37:=sizeOf181
 v37:=zeroValue181
 t70:=underlying242
 a70:=isAgg242
 z70:=sizeOf242
 v70:=zeroValue242
 t72:=underlying244
 a72:=isAgg244
 z72:=sizeOf244
 v72:=zeroValue244
 t75:=underlying33
 a75:=isAgg33
 z75:=sizeOf33
 v75:=zeroValue33
 t76:=underlying183
 a76:=isAgg183
 z76:=sizeOf183
 v76:=zeroValue183
 t127:=underlying282
 a127:=isAgg282
 z127:=sizeOf282
 v127:=zeroValue282
 t164:=underlying302
 a164:=isAgg302
 z164:=sizeOf302
 v164:=zeroValue302}
def uD:Builder.Extra prog Eu:={
 sizeBuilder:=by kernel_rfl
 liesBuilder:=by kernel_rfl
 t5:=underlying5
 a5:=isAgg5
 z5:=sizeOf5
 v5:=zeroValue5
 infoByte:=by kernel_rfl
 cellsByte:=by kernel_rfl
 sizeByte:=by kernel_rfl
 neB5:=by decide}
open Go.RowKit in
def strings_Join_none(a:Option Addr)(c:Nat)(sep:ByteArray)(w:World) :
  Calls prog 195 #[.slice a 0 c,.string sep] w fun e w'=>e=.returned (.string ⟨#[]⟩)/\w'=w:=Any.strings_Join_none VJ uD a c sep w
open Go.RowKit in
def strings_Join(bk o c:Nat)(xs:List ByteArray)(sep:ByteArray)(w:World)(hcells:∀(j:Nat) x,xs[j]?=ξ x->w.cell? ⟨bk,o+j,χ⟩=ξ (.string x))(hbk:bk<w.heap.size)(hN:xs.length<=140737488355328)(hcap:xs.length<=c)(hlen:(hM (xs.map (·.data.toList)) sep.data.toList).length<=140737488355328) :
  Calls prog 195 #[.slice (ξ ⟨bk,o,χ⟩) xs.length c,.string sep] w fun e w'=>e=.returned (.string ⟨(hM (xs.map (·.data.toList)) sep.data.toList).toArray⟩)/\Below w.heap.size w w':=Any.strings_Join VJ uD bk o c xs sep w hcells hbk hN hcap hlen
end Go.Proofs.YtgokjhhcfemnhabGreatDoor

namespace Go.Proofs.YtgokjhhcfemnhabGreatDoor
open Go.Proofs.Tryz
open Go.Vg Go.Mrl
def YF(k:Nat):List (FuncId×(Bool×aL)):=(62,(φ,bP [.int .i64] [.str] (fun x=>(fun _=>True) x/\(fun n=>mD n) x<k) (fun n=>hI n))) :: []
def YG(k:Nat)(n:Int)(hp:(fun _=>True) n/\(fun n=>mD n) n<k+1):(cH aE (YF k) f62 [] [.int .i64] [.str] (fun x y=>y=(fun n=>hI n) x) n).holds:=by
 refine ζ (p:=let za:=hI n;let zb:=(0:Int)-n;let zc:=[j1 j2 ((48:Int)+n)];let zd:=(10:Int)≠(0:Int);let ze:=fun(F:Int)=>gE [j1 j2 ((48:Int)+F)]<=aG;let zf:=fun(F:Int)=>bytesOf [j1 j2 ((48:Int)+F)];let zg:=fun(E:Int) (F:Int)=>gE (hI E)+gE (zf F)<=aG/\hI E++zf F=za;((ρ (n<(0:Int)))=φ->((n == (-9223372036854775808:Int))=φ->[(45:UInt8),57,50,50,51,51,55,50,48,51,54,56,53,52,55,55,53,56,48,56]=za)/\((n == (-9223372036854775808:Int))=ψ->aF (0:Int)->aF n->aF zb/\(True/\mD zb<k)/\gE [(45:UInt8)]+gE (hI zb)<=aG/\[(45:UInt8)]++hI zb=za))/\((ρ (n<(0:Int)))=ψ->((ρ (n<(10:Int)))=φ->aF (48:Int)->aF n->aF ((48:Int)+n)/\gE zc<=aG/\bytesOf zc=za)/\((ρ (n<(10:Int)))=ψ->zd/\∀E:Int,E=Int.tdiv n (10:Int)->aF n->aF (10:Int)->aF E/\zd/\∀F:Int,F=j4 n (10:Int)->aF (48:Int)->aF F->aF ((48:Int)+F)/\(fun a0 a1:Prop=>a0/\a0/\a1) ((True/\mD E<k)/\ze F/\zg E F) (ze F/\(True/\mD E<k)/\zg E F)))) κ ?_
 dsimp -iota -proj -eta only;dsimp only at hp;refine iL (fun h0=>iQ (fun h1=>(by rw[h1,aej])) (fun h1 h2 h3=>⟨?a,(by have:=ai2 h0;rw[j8];exact⟨dT,ω⟩),(by unfold aF at h3;have:=UC (n:=-n) ω ω;rw[j8];simp only[hK,hL,aG];omega),(by rw[j8,BZ h0])⟩)) (fun h0=>iL (fun h1 h2 h3=>⟨?b,?c,(by rw[I4 ω ω,oJ ω ω])⟩) (fun h1=>⟨?d,fun E q_0 h2 h3=>⟨(by rw[q_0,j5 h0];unfold aF at*;omega),?e,fun F q_1 h4 h5=>⟨(by rw[q_1,j6 h0];unfold aF at*;omega),(show ∀{a0 a1:Prop},a0->a1->a0/\a0/\a1 from fun g0 g1=>⟨g0,g0,g1⟩) (⟨?f,?g,?h,?i⟩) (⟨?j,?k,?l,?m⟩)⟩⟩⟩))
 case a|b=>simp only[aF,aG]at*;omega
 case c|g|j=>show 1<=aG;decide
 case d|e=>trivial
 case f|k=>rw[q_0,j5 h0];have:=ai3 h1;exact⟨dT,ω⟩
 case h|l=>rw[q_0,q_1,j5 h0,j6 h0,I4 ω ω];have:=UC (n:=n / 10) (by unfold aF at*;omega) (by unfold aF at*;omega);simp only[hK,hL,aG];omega
 case i|m=>rw[q_0,q_1,j5 h0,j6 h0,I4 ω ω,Kq h1]
def xF:∀k:Nat,jj prog aE.eT aH 62 [.int .i64] [.str] (fun x=>(fun _=>True) x/\(fun n=>mD n) x<k) (fun x y=>y=(fun n=>hI n) x)
 |0=>⟨⟨f62,func62,κ,κ⟩,fun _ _ _ _ _ _ _ hp=>absurd hp.2 (ih _)⟩
 |k+1=>bO (X:=aH) (aM (aI (xF k)) (bK bJ)) func62 κ (fun _=>[]) (fun x hw hp=>YG k x hp)
def sq:jj prog aE.eT aH 62 [.int .i64] [.str] (fun _=>True) (fun x y=>y=(fun n=>hI n) x):=
 ⟨(xF 0).1,fun O w x vs hG hO ha hp=>(xF ((fun n=>mD n) x+1)).2 O w x vs hG hO ha ⟨hp,Nat.lt_succ_self _⟩⟩
def age:jj prog aE.eT aH 195 [.slice .str,.str] [.str] (fun x=>x.1.length<=1000000/\(hM x.1 x.2).length<=140737488355328) (fun x y=>y=hM x.1 x.2):=by
 refine⟨⟨Tryz.f195,func195,κ,κ⟩,fun O w x vs hG hO ha hp =>?_⟩;obtain⟨xs,p⟩:=x;obtain⟨v,vs',rfl,hv,u,rfl,hu⟩:=ha;obtain⟨rfl,hl⟩:=pf hu;obtain⟨v',hv',hlen,hc⟩:=VR.one rfl hv;have hv':v=v':=by simpa using hv'
 subst hv';obtain⟨hn,hj⟩:=hp;have hj:(hM xs p).length<=140737488355328:=hj;have hn:xs.length<=1000000:=hn;have none_:∀(a:Option Addr) (c:Nat),xs=[]->Calls prog 195 #[.slice a 0 c,.string ⟨p.toArray⟩] w fun e w'=>∃us ys,e=.returned (xi us)/\ys=hM xs p/\nM aE.eT O w' [.str] ys us/\Vg.Below w.heap.size w w':=by
  intro a c h0;subst h0;refine(strings_Join_none a c ⟨p.toArray⟩ w).mono ?_;rintro e w' ⟨rfl,rfl⟩;exact⟨[.string ⟨#[]⟩],_,rfl,rfl,⟨_,rfl,CC (s:=[]) (hE _)⟩,Vg.Below.refl _ _⟩
 rcases hc with⟨h0,a,c,rfl⟩|⟨b,o,cap,rfl,hcap,hr⟩
 ·exact none_ a c h0
 ·by_cases h0:xs=[]
  ·have e:xs.length=0:=by rw[h0];rfl
   rw[e];exact none_ _ _ h0
  ·have hx:(xs.map fun s:aA=>(⟨s.toArray⟩:ByteArray)).map (·.data.toList)=xs:=by
    rw[List.map_map];exact(List.map_congr_left fun s _=>rfl).trans (List.map_id _)
   have hcell:∀(j:Nat) x,(xs.map fun s:aA=>(⟨s.toArray⟩:ByteArray))[j]?=ξ x->w.cell? ⟨b,o+j,χ⟩=ξ (.string x):=by
    intro j x hjx;rw[List.getElem?_map,Option.map_eq_some_iff]at hjx;obtain⟨s,hs,rfl⟩:=hjx;obtain⟨us,h1,h2⟩:=hr j s hs;obtain⟨rfl,_⟩:=h1;have:=(h2 0 _ rfl).1;simpa[Ty.size]using this
   have hpos:0<xs.length:=List.length_pos_iff.2 h0;have hb:b<w.heap.size:=by
    have:=hcell 0 _ (by rw[List.getElem?_map,List.getElem?_eq_getElem hpos];rfl);exact World.block_lt_of_cell? w _ this
   have hJ:=strings_Join b o cap (xs.map fun s:aA=>(⟨s.toArray⟩:ByteArray)) ⟨p.toArray⟩ w hcell hb (by rw[hS];omega) (by rw[hS];exact hcap) (by rw[hx];exact hj);rw[hS]at hJ;refine hJ.mono ?_;rintro e w' ⟨rfl,hw⟩;rw[hx];exact⟨[.string ⟨(hM xs p).toArray⟩],_,rfl,rfl,⟨_,rfl,CC (hY hj δ)⟩,Vg.Below.of hw⟩
def lW(n:Int):(gH n).length<=21:=by
 unfold gH;split
 ·rename_i h;exact Qv h.1 h.2
 ·exact hE _
def ui{eT:TypeId}{X:Ext}{P:Program}{f:FuncId}(h:jj P eT X f [.int .i64] [.str] (fun _=>True) (fun n y=>y=hI n)):jj P eT X f [.int .i64] [.str] (fun _=>True) (fun n y=>y=gH n):=
 ⟨h.fn,fun O w n vs hG hO ha hp=>(h.ok O w n vs hG hO ha hp).mono fun e w' ⟨us,ys,h1,h2,h3⟩=>⟨us,ys,h1,by
  obtain⟨v,_,hv⟩:=ha;have hr:=(VR.one rfl hv).2;exact h2.trans (Dl hr.1 hr.2).symm,h3⟩⟩
def spZ7:Bool×aL:=(φ,bP [.int .i64] [.str] (fun _=>True) (fun n=>gH n))
def Mh:List (FuncId×(Bool×aL)):=[(61,spZ7)]
def TK:bH prog aE aH Mh:=
 aM (aI (ui lV)) (bK bJ)
def acL(e:aR):(cH aE Mh f120 [] [.err] [.str] (fun x y=>y=(fun e=>eB e.num) x) e).holds:=by
 refine ζ (p:=let za:=[101,114,114,111,114,32];True/\gE za+gE (gH (aR.num e))<=aG/\za++gH (aR.num e)=eB (aR.num e)) κ ?_
 dsimp -iota -proj -eta only;exact⟨dT,(by have:=lW e.num;simp only[hK,hL,aG];omega),(by rfl)⟩
def qb:aL:=bP [.err] [.str] (fun _=>True) (fun e=>eB e.num)
def rD:aW prog aE.eT aH 120 φ qb:=
 aI (bO (X:=aH) TK func120 κ (fun _=>[]) (fun x hw hp=>acL x))
def Ry:List (FuncId×(Bool×aL)):=[(120,(φ,qb))]
def YH:bH prog aE aH Ry:=
 aM rD (bK bJ)
def agf(e:aR):(cH aE Ry f153 [] [.err] [.str] (fun x y=>y=(fun e=>lN e) x) e).holds:=by
 refine ζ (p:=((!aR.isNil e)=φ->True/\eB (aR.num e)=lN e)/\((!aR.isNil e)=ψ->[111,107]=lN e)) κ ?_
 refine iB (fun h0=>⟨dT,?a⟩) (fun h0 =>?b)
 case a|b=>unfold lN;rw[h0]
def FU:aL:=bP [.err] [.str] (fun _=>True) (fun e=>lN e)
def Rz:aW prog aE.eT aH 153 φ FU:=
 aI (bO (X:=aH) YH func153 κ (fun _=>[]) (fun x hw hp=>agf x))
def Ik:List (FuncId×(Bool×aL)):=[(195,(φ,bP [.slice .str,.str] [.str] (fun x=>x.1.length<=1000000/\(hM x.1 x.2).length<=140737488355328) (fun x=>hM x.1 x.2)))]
def RA:bH prog aE aH Ik:=
 aM (aI age) (bK bJ)
def YI(s:aA)(l:List aA)(hp:(fun x=>x.2.length<=1000000/\(hM x.2 x.1).length<=140737488355328) (s,l)):(cH aE Ik f152 [] [.str,.slice .str] [.str] (fun x y=>y=(fun x=>kX x.2 x.1) x) (s,l)).holds:=by
 refine ζ (p:=let za:=gE l;za<=aG->(((↑za:Int) == 0)=φ->[45]=kX l s)/\(((↑za:Int) == 0)=ψ->(za<=1000000/\gE (hM l s)<=140737488355328)/\hM l s=kX l s)) κ ?_
 dsimp -iota -proj -eta only;dsimp only at hp;exact fun h0=>iQ (fun h1=>((π (kh ω)).symm)) (fun h1=>⟨θ,((ε (by intro e;subst e;simp at*)).symm)⟩)
def Ax:aL:=bP [.str,.slice .str] [.str] (fun x=>x.2.length<=1000000/\(hM x.2 x.1).length<=140737488355328) (fun x=>kX x.2 x.1)
def Il:aW prog aE.eT aH 152 φ Ax:=
 aI (bO (X:=aH) RA func152 κ (fun _=>[]) (fun x hw hp=>YI x.1 x.2 hp))
def Mi:List (FuncId×(Bool×aL)):=[(62,spZ7)]
def TL:bH prog aE aH Mi:=
 aM (aI (ui sq)) (bK bJ)
def YJ(n:Int):(cH aE Mi f79 [] [.int .i64] [.str] (fun x y=>y=(fun n=>eB n) x) n).holds:=by
 refine ζ (p:=let za:=[101,114,114,111,114,32];True/\gE za+gE (gH n)<=aG/\za++gH n=eB n) κ ?_
 dsimp -iota -proj -eta only;exact⟨dT,(by have:=lW n;simp only[hK,hL,aG];omega),(by rfl)⟩
def Ay:aL:=bP [.int .i64] [.str] (fun _=>True) (fun n=>eB n)
def Im:aW prog aE.eT aH 79 φ Ay:=
 aI (bO (X:=aH) TL func79 κ (fun _=>[]) (fun x hw hp=>YJ x))
def RB:List (FuncId×(Bool×aL)):=[(79,(φ,Ay))]
def YK:bH prog aE aH RB:=
 aM Im (bK bJ)
def acM(n:Int):(cH aE RB f81 [] [.int .i64] [.str] (fun x y=>y=(fun n=>nQ n) x) n).holds:=by
 refine ζ (p:=((ρ (n > 0))=φ->True/\eB n=nQ n)/\((ρ (n > 0))=ψ->[111,107]=nQ n)) κ ?_
 exact iL (fun h0=>⟨dT,((π h0).symm)⟩) (fun h0=>((ε ω).symm))
def Mj:aL:=bP [.int .i64] [.str] (fun _=>True) (fun n=>nQ n)
def acN:aW prog aE.eT aH 81 φ Mj:=
 aI (bO (X:=aH) YK func81 κ (fun _=>[]) (fun x hw hp=>acM x))
def Io(l:List aA)(s:aA):cP:=[
 (0,fun st=>{X:=Nat,inv:=fun i=>i<=l.length,bG:=fun i=>l.length-i,bB:=fun i=>[(6,sI i),(5,sS (ku l s i))],keep:=[0,1,4]})]
def TM(l:List aA)(s:aA)(hp:(fun x=>x.1.length<=1000000/\(hM x.1 x.2).length<=140737488355328) (l,s)):(cH aE [] f80 (Io l s) [.slice .str,.str] [.str] (fun x y=>y=(fun x=>kX x.1 x.2) x) (l,s)).holds:=by
 refine ζ (p:=let za:=gE l;let zb:=fun(E:Nat)=>ku l s E;let zc:=fun(E:Nat)=>0<=(↑E:Int)/\(↑E:Int)<(↑za:Int);let zd:=fun(E:Nat)=>(↑E:Int)+1;(∃(x:Nat),x<=za/\(0=(↑x:Int)/\@hq UInt8=ku l s x/\True)/\True)/\∀E:Nat,E<=za->za<=aG->((ρ ((↑E:Int)<(↑za:Int)))=φ->((ρ ((↑E:Int) > 0))=φ->gE (zb E)+gE s<=aG/\zc E/\gE (zb E++s)+gE (nth Ty.str l E)<=aG/\(aF (↑E:Int)->aF 1->aF (zd E)/\∃(x':Nat),x'<=za/\za-x'<za-E/\(zd E=(↑x':Int)/\zb E++s++nth Ty.str l E=ku l s x'/\True)/\True))/\((ρ ((↑E:Int) > 0))=ψ->zc E/\gE (zb E)+gE (nth Ty.str l E)<=aG/\(aF (↑E:Int)->aF 1->aF (zd E)/\∃(x':Nat),x'<=za/\za-x'<za-E/\(zd E=(↑x':Int)/\zb E++nth Ty.str l E=ku l s x'/\True)/\True)))/\((ρ ((↑E:Int)<(↑za:Int)))=ψ->za<=aG->(((↑za:Int) == 0)=φ->[45]=kX l s)/\(((↑za:Int) == 0)=ψ->zb E=kX l s))) κ ?_
 dsimp -iota -proj -eta only;dsimp only at hp;refine⟨(⟨0,hE _,⟨rfl,rfl,dT⟩,dT⟩),fun E q_0 h0=>iL (fun h1=>iL (fun h2=>⟨(by have:=HJ (s:=s) (l:=l) (i:=E) ω ω;have:=hp.2;simp only[aG];omega),?a,(by have:=HJ (s:=s) (l:=l) (i:=E) ω ω;have:=hp.2;simp only[hD,aG];omega),fun h3 h4=>⟨?b,(⟨E+1,ω,ω,⟨ω,Lh ω,dT⟩,θ⟩)⟩⟩) (fun h2=>⟨?c,(by have:=XZ (s:=s) (l:=l) (i:=E) ω ω;have:=hp.2;simp only[aG];omega),fun h3 h4=>⟨?d,(⟨E+1,ω,ω,⟨ω,HI ω,dT⟩,θ⟩)⟩⟩)) (fun h1 h2=>iQ (fun h3=>((π (kh ω)).symm)) (fun h3=>(by rw[show E=l.length by omega,abf (by intro e;subst e;simp at*)])))⟩
 case a|c=>omega
 case b|d=>simp only[aF,aG]at*;omega
def xG:aL:=bP [.slice .str,.str] [.str] (fun x=>x.1.length<=1000000/\(hM x.1 x.2).length<=140737488355328) (fun x=>kX x.1 x.2)
def Ev:aW prog aE.eT aH 80 φ xG:=
 aI (bO (X:=aH) (bK bJ) func80 κ (fun x=>Io x.1 x.2) (fun x hw hp=>TM x.1 x.2 hp))
def w5(ws:List Int):∀i,(oR ws i).length<=22*i
 |0=>hE _
 |i+1=>by
  have:=w5 ws i;have:=lW (nth (.int .i64) ws i);simp only[oR,hD,hK,hL];omega
def YL(p:D bS):(Cz p).length<=p.1.length+23:=by
 have:=lW p.2.1;simp only[Cz,hD,hK,hL];omega
def gD.join{l:List (D bS)}(h:gD l):(l.map wX).length<=1000000/\(hM (l.map wX) [59,32]).length<=140737488355328:=by
 have h1:=h.1;have hb:∀x∈l.map wX,x.length<=22001023:=by
  intro x hx;obtain⟨p,hp,rfl⟩:=List.mem_map.1 hx;obtain⟨i,hi,rfl⟩:=gO (t:=bS) hp;have a:=h.2 i hi;have b:=YL (nth bS l i);have c:=w5 (nth bS l i).2.2.1 (nth bS l i).2.2.1.length;unfold wX;rw[hD];have:=a.1;have:=a.2;omega
 have hj:=HK (s:=[59,32]) hb;rw[hS]at hj ⊢;refine⟨ω,hY hj ?_⟩;have:=Nat.mul_le_mul_right (22001023+ [59,32].length) h1;exact hY this δ
def gD.told{l:List (D bS)}(h:gD l):(lH l).length+5<=aG:=by
 have:=(gD.join h).2;unfold lH kX;split
 ·decide
 ·unfold aG;omega
def Mk:List (FuncId×(Bool×aL)):=[(152,(φ,Ax)),(61,spZ7)]
def TN:bH prog aE aH Mk:=
 aM Il (aM (aI (ui lV)) (bK bJ))
def Ml(l:List (D bS)):cP:=[
 (0,fun st=>{X:=Nat,inv:=fun i=>i<=l.length,bG:=fun i=>l.length-i,bB:=fun i=>[(11,sI i),(3,.s (.one (.app .str (jA l i) (aS st 3))))],aK:=fun i=>[(aS st 3,.tok .str (jA l i))],keep:=[2,9,10],dU:=[aS st 3]}),
 (2,fun st=>{X:=Nat,inv:=fun k=>k<=(bI (.slice (.int .i64)) st 24).length,bG:=fun k=>(bI (.slice (.int .i64)) st 24).length-k,bB:=fun k=>[(26,sI k),(6,sS (bI .str st 6++oR (bI (.slice (.int .i64)) st 24) k))],keep:=[2,3,5,9,10,11,12,13,14,15,16,17,18,19,20,21,22,23,24,25]})]
def acO(l:List (D bS))(hp:(fun l=>gD l) l):(cH (gy aE [39]) Mk f196 (Ml l) [.slice bS] [.str] (fun x y=>y=(fun l=>lH l) x) l).holds:=by
 refine ζ (p:=let za:=gE l;let zb:=fun(E:Nat)=>(nth bS l E).1;let zc:=gE [(32:UInt8)];let zd:=fun(E:Nat)=>(nth bS l E).2.1;let ze:=fun(E:Nat)=>zb E++[(32:UInt8)]++gH (zd E);let zf:=fun(E:Nat)=>(nth bS l E).2.2.1;let zg:=fun(E:Nat)=>gE (zf E);let zh:=fun(E:Nat)=>ze E++[(58:UInt8)];let zi:=fun(E F:Nat)=>zh E++oR (zf E) F;let zj:=fun(E F:Nat)=>[(32:UInt8)]++gH (nth (Ty.int hP) (zf E) F);let zk:=fun(F:Nat)=>(↑F:Int)+1;let zl:=fun(E:Nat)=>jA l E;let zm:=[(59:UInt8),32];za<=aG->(∃(x:Nat),x<=za/\(0=(↑x:Int)/\@hq aA=jA l x/\True)/\@hq aA=jA l x/\True)/\∀E:Nat,E<=za->((ρ ((↑E:Int)<(↑za:Int)))=φ->(0<=(↑E:Int)/\(↑E:Int)<(↑za:Int))/\gE (zb E)+zc<=aG/\True/\gE (zb E++[(32:UInt8)])+gE (gH (zd E))<=aG/\gE (ze E)+gE [(58:UInt8)]<=aG/\(zg E<=aG->(∃(x:Nat),x<=zg E/\(0=(↑x:Int)/\zh E=zh E++oR (zf E) x/\True)/\True)/\∀F:Nat,F<=zg E->((ρ ((↑F:Int)<(↑(zg E):Int)))=φ->(0<=(↑F:Int)/\(↑F:Int)<(↑(zg E):Int))/\True/\zc+gE (gH (nth (Ty.int hP) (zf E) F))<=aG/\gE (zi E F)+gE (zj E F)<=aG/\(aF (↑F:Int)->aF 1->aF (zk F)/\∃(x':Nat),x'<=zg E/\zg E-x'<zg E-F/\(zk F=(↑x':Int)/\zi E F++zj E F=zh E++oR (zf E) x'/\True)/\(zb E=zb E/\zd E=zd E/\zf E=zf E/\True)/\@hq Int=@hq Int/\zl E=zl E/\True))/\((ρ ((↑F:Int)<(↑(zg E):Int)))=ψ->(zl E=zl E/\gE (zl E)+gE [zi E F]<=1000000000)/\(aF (↑E:Int)->aF 1->aF (zk E)/\∃(x':Nat),x'<=za/\za-x'<za-E/\(zk E=(↑x':Int)/\zl E++[zi E F]=jA l x'/\True)/\zl E++[zi E F]=jA l x'/\True))))/\((ρ ((↑E:Int)<(↑za:Int)))=ψ->(gE (zl E)<=1000000/\gE (hM (zl E) zm)<=140737488355328)/\kX (zl E) zm=lH l)) κ ?_
 dsimp -iota -proj -eta only;refine fun h0=>⟨(⟨0,hE _,⟨rfl,rfl,dT⟩,rfl,dT⟩),fun E q_0=>iL (fun h1=>⟨?a,?b,dT,?c,?d,fun h2=>⟨(⟨0,hE _,⟨rfl,(kk _).symm,dT⟩,dT⟩),fun F q_1=>iL (fun h3=>⟨?e,dT,?f,?g,fun h4 h5=>⟨?h,(⟨F+1,ω,ω,⟨ω,by simp only[oR,kl],dT⟩,θ⟩)⟩⟩) (fun h3=>⟨(by have:=hp.1;exact⟨rfl,by rw[HM ω,hA];omega⟩),fun h4 h5=>⟨?i,?j⟩⟩)⟩⟩) (fun h1=>⟨(by rw[show E=l.length by omega,uT];exact gD.join hp),(by rw[show E=l.length by omega,uT];rfl)⟩)⟩
 case a|e=>omega
 case b|c|d=>have a:=hp.2 E ω;have b:=lW (nth bS l E).2.1;simp only[hD,hK,hL,aG];omega
 case f|g=>have a:=hp.2 E ω;have b:=lW (nth bS l E).2.1;have c:=w5 (nth bS l E).2.2.1 F;have d:=lW (nth (.int .i64) (nth bS l E).2.2.1 F);simp only[hD,hK,hL,aG];omega
 case h|i=>simp only[aF,aG]at*;omega
 case j=>
  have e:F=(nth bS l E).2.2.1.length:=ω;subst e;exact⟨E+1,ω,ω,⟨ω,tH ω,dT⟩,tH ω,θ⟩
def w6:aL:=bP [.slice bS] [.str] (fun l=>gD l) (fun l=>lH l)
def acP:aW prog aE.eT aH 196 φ w6:=
 aI (bO (B:=(gy aE [39])) (X:=aH) (bH.hint (l:=[39]) TN) func196 κ (fun x=>Ml x) (fun x hw hp=>acO x hp))
def Mm:List (FuncId×(Bool×aL)):=[(80,(φ,xG)),(62,spZ7)]
def TO:bH prog aE aH Mm:=
 aM Ev (aM (aI (ui sq)) (bK bJ))
def Mn(l:List (D bS)):cP:=[
 (0,fun st=>{X:=Nat,inv:=fun i=>i<=l.length,bG:=fun i=>l.length-i,bB:=fun i=>[(4,sI i),(3,.s (.one (.app .str (jA l i) (aS st 3))))],aK:=fun i=>[(aS st 3,.tok .str (jA l i))],keep:=[0,2],dU:=[aS st 3]}),
 (2,fun st=>{X:=Nat,inv:=fun k=>k<=(nth bS l (bI (.int .i64) st 4).toNat).2.2.1.length,bG:=fun k=>(nth bS l (bI (.int .i64) st 4).toNat).2.2.1.length-k,bB:=fun k=>[(6,sI k),(5,sS (bI .str st 5++oR (nth bS l (bI (.int .i64) st 4).toNat).2.2.1 k))],keep:=[0,2,3,4,7,8,9,10,13,14,15,16,17,18,19,20,21,22,23,24,25,26]})]
def YM(l:List (D bS))(hp:(fun l=>gD l) l):(cH (gy aE [52]) Mm f82 (Mn l) [.slice bS] [.str] (fun x y=>y=(fun l=>lH l) x) l).holds:=by
 refine ζ (p:=let za:=gE l;let zb:=fun(E:Nat)=>0<=(↑E:Int)/\(↑E:Int)<(↑za:Int);let zc:=gE [(32:UInt8)];let zd:=fun(E:Nat)=>(nth bS l E).1++[(32:UInt8)];let ze:=fun(E:Nat)=>zd E++gH (nth bS l E).2.1;let zf:=fun(E:Nat)=>(nth bS l E).2.2.1;let zg:=fun(E:Nat)=>gE (zf E);let zh:=fun(E:Nat)=>ze E++[(58:UInt8)];let zi:=fun(E F:Nat)=>zh E++oR (zf E) F;let zj:=fun(F:Nat)=>(↑F:Int)+1;let zk:=fun(E:Nat)=>jA l E;let zl:=[(59:UInt8),32];(∃(x:Nat),x<=za/\(0=(↑x:Int)/\@hq aA=jA l x/\True)/\@hq aA=jA l x/\True)/\∀E:Nat,E<=za->za<=aG->((ρ ((↑E:Int)<(↑za:Int)))=φ->zb E/\gE (nth bS l E).1+zc<=aG/\zb E/\True/\gE (zd E)+gE (gH (nth bS l E).2.1)<=aG/\gE (ze E)+gE [(58:UInt8)]<=aG/\(∃(x:Nat),x<=zg E/\(0=(↑x:Int)/\zh E=zh E++oR (zf E) x/\True)/\True)/\∀F:Nat,F<=zg E->zb E/\(zg E<=aG->((ρ ((↑F:Int)<(↑(zg E):Int)))=φ->gE (zi E F)+zc<=aG/\zb E/\(0<=(↑F:Int)/\(↑F:Int)<(↑(zg E):Int))/\True/\gE (zi E F++[(32:UInt8)])+gE (gH (nth (Ty.int hP) (zf E) F))<=aG/\(aF (↑F:Int)->aF 1->aF (zj F)/\∃(x':Nat),x'<=zg E/\zg E-x'<zg E-F/\(zj F=(↑x':Int)/\zi E F++[(32:UInt8)]++gH (nth (Ty.int hP) (zf E) F)=zh E++oR (zf E) x'/\True)/\zk E=zk E/\True))/\((ρ ((↑F:Int)<(↑(zg E):Int)))=ψ->(zk E=zk E/\gE (zk E)+gE [zi E F]<=1000000000)/\(aF (↑E:Int)->aF 1->aF (zj E)/\∃(x':Nat),x'<=za/\za-x'<za-E/\(zj E=(↑x':Int)/\zk E++[zi E F]=jA l x'/\True)/\zk E++[zi E F]=jA l x'/\True))))/\((ρ ((↑E:Int)<(↑za:Int)))=ψ->(gE (zk E)<=1000000/\gE (hM (zk E) zl)<=140737488355328)/\kX (zk E) zl=lH l)) κ ?_
 dsimp -iota -proj -eta only;refine⟨(⟨0,hE _,⟨rfl,rfl,dT⟩,rfl,dT⟩),fun E q_0 h0=>iL (fun h1=>⟨?a,?b,?c,dT,?d,?e,(⟨0,hE _,⟨rfl,(kk _).symm,dT⟩,dT⟩),fun F q_1=>⟨?f,fun h2=>iL (fun h3=>⟨?g,?h,?i,dT,?j,fun h4 h5=>⟨?k,(⟨F+1,ω,ω,⟨ω,by simp only[oR,kl],dT⟩,θ⟩)⟩⟩) (fun h3=>⟨(by have:=hp.1;exact⟨rfl,by rw[HM ω,hA];omega⟩),fun h4 h5=>⟨?l,?m⟩⟩)⟩⟩) (fun h1=>⟨(by rw[show E=l.length by omega,uT];exact gD.join hp),(by rw[show E=l.length by omega,uT];rfl)⟩)⟩
 case a|c|f|h|i=>omega
 case b|d|e=>have a:=hp.2 E ω;have b:=lW (nth bS l E).2.1;simp only[hD,hK,hL,aG];omega
 case g|j=>have a:=hp.2 E ω;have b:=lW (nth bS l E).2.1;have c:=w5 (nth bS l E).2.2.1 F;have d:=lW (nth (.int .i64) (nth bS l E).2.2.1 F);simp only[hD,hK,hL,aG];omega
 case k|l=>simp only[aF,aG]at*;omega
 case m=>
  have e:F=(nth bS l E).2.2.1.length:=ω;subst e;exact⟨E+1,ω,ω,⟨ω,tH ω,dT⟩,tH ω,θ⟩
def YN:aW prog aE.eT aH 82 φ w6:=
 aI (bO (B:=(gy aE [52])) (X:=aH) (bH.hint (l:=[52]) TO) func82 κ (fun x=>Mn x) (fun x hw hp=>YM x hp))
@[reducible] def eI:List Ob:=[.box 156 [.obj 2,.obj 5,.obj 1,.d .str],.box 109 [.obj 2,.obj 4],.box 107 [.obj 3,.d (.int .i64)],.ext 1 (jY cY),.box 169 [.obj 5,.d (.int .i64),.d (.slice aC)],.box 164 [.obj 6,.obj 7,.obj 8,.d (.int .i64),.d .bool],.row φ .str,.row φ .str,.tok iJ]
def RC:List (FuncId×(Bool×aL)):=[(20,(ψ,Rx)),(120,(φ,qb)),(196,(φ,w6))]
def YO:bH prog aE aH RC:=
 aM agd (aM rD (aM acP (bK bJ)))
def Mo:List (Alt eI [.obj 0,.d .str]):=[{bQ:=eI,res:=[.d .str],out:=fun _ x=>x,ret:=fun a x=>(loadT (iy (x.2.2.1,x.2.2.2.1,()) x.2.2.2.2.1.2.1 a.1),())}]
def agh(s:aA)(t:aA)(n:Int×Unit)(m:List FE×Int×Unit)(r:Int)(o:List (D aC))(d:Dk)(hp:(fun a x=>(x.2.2.2.1.1.length<=6/\vW x.2.2.2.2.1.2.1)/\gD (iy (x.2.2.1,x.2.2.2.1,()) x.2.2.2.2.1.2.1 a.1).1) (s,()) ((t,()),(),n,m,(r,o,()),d)):(cE aE RC f154 [] eI [.obj 0,.d .str] Mo (s,()) ((t,()),(),n,m,(r,o,()),d)).holds:=by
 refine ζ (p:=let za:=d.2.2.2.1=d.2.2.2.1;let zb:=iy (n,m,()) o s;let zc:=aP zb.2.2;let zd:=((t,()),(),n,m,(r,o,()),d);let ze:=zd=zd;let zf:=(loadT zb,());let zg:=[107,101,112,116,32];let zh:=lH zb.1;let zi:=[110,101,119,32];za/\(gE m.1<=6/\vW o)/\(True->((!aR.isNil zc)=φ->True/\za/\True/\ze/\(eB (aR.num zc),())=zf)/\((!aR.isNil zc)=ψ->((zb.2.1)=φ->gD zb.1/\gE zg+gE zh<=aG/\za/\True/\ze/\(zg++zh,())=zf)/\((zb.2.1)=ψ->gD zb.1/\gE zi+gE zh<=aG/\za/\True/\ze/\(zi++zh,())=zf)))) κ ?_
 dsimp -iota -proj -eta only;dsimp only at hp;refine⟨rfl,?a,fun h0=>iB (fun h1=>⟨dT,⟨rfl,dT,rfl,congrArg (fun z=>(z,())) (by unfold loadT;rw[h1,ym])⟩⟩) (fun h1=>⟨fun h2=>⟨?b,?c,?d⟩,fun h2=>⟨?e,?f,?g⟩⟩)⟩
 case a|b|e=>simp_all
 case c|f=>have:=gD.told hp.2;simp only[hK,hL];omega
 case d|g=>exact⟨rfl,dT,rfl,congrArg (fun z=>(z,())) (by unfold loadT;simp only[*])⟩
def RD:aL:=bU eI [.obj 0,.d .str] (fun a x=>(x.2.2.2.1.1.length<=6/\vW x.2.2.2.2.1.2.1)/\gD (iy (x.2.2.1,x.2.2.2.1,()) x.2.2.2.2.1.2.1 a.1).1) Mo
def agi:aW prog aE.eT aH 154 ψ RD:=
 bA (X:=aH) YO func154 κ (fun(a:CD [.obj 0,.d .str]) (x:PD eI)=>[]) (fun a x hw hp=>agh a.1 x.1.1 x.2.2.1 x.2.2.2.1 x.2.2.2.2.1.1 x.2.2.2.2.1.2.1 x.2.2.2.2.2 hp)
def Mp:List (FuncId×(Bool×aL)):=[(48,(ψ,Jt)),(55,(ψ,QN)),(29,(φ,At)),(120,(φ,qb)),(64,spZ4)]
def TP:bH prog aE aH Mp:=
 aM Vk (aM abR (aM FN (aM rD (aM (aI mT) (bK bJ)))))
def Ip:List (Alt eI [.obj 0,.d .str]):=[{bQ:=eI,res:=[.d .str],out:=fun _ x=>x,ret:=fun a x=>(xD (cW x.2.2.2.2.2) a.1,())}]
def acQ(s:aA)(t:aA)(n:Int×Unit)(m:List FE×Int×Unit)(r:Int)(o:List (D aC))(d:Dk)(hp:(fun _ x=>(dX x.2.2.2.2.2 1000000/\∀i,i<x.2.2.2.2.2.2.2.1.length->(nth .str x.2.2.2.2.2.2.2.1 i).length=64)/\∀i,i<(cW x.2.2.2.2.2).1.2.length->(nth aC (cW x.2.2.2.2.2).1.2 i).2.1.length<=1000000/\(nth aC (cW x.2.2.2.2.2).1.2 i).2.2.1.length<=1000000) (s,()) ((t,()),(),n,m,(r,o,()),d)):(cE aE Mp f155 [] eI [.obj 0,.d .str] Ip (s,()) ((t,()),(),n,m,(r,o,()),d)).holds:=by
 refine ζ (p:=let za:=d.2.2.2.1=d.2.2.2.1;let zb:=cW d;let zc:=((t,()),(),n,m,(r,o,()),d);let zd:=zc=zc;let ze:=(xD zb s,());let zf:=zb.1.2;let zg:=dM (cN zf s).1;za/\(dX d 1000000/\∀(i:Nat),i<gE d.2.2.1->gE (nth Ty.str d.2.2.1 i)=64)/\(zb.2≠0->((!aR.isNil (aP zb.2))=φ->True/\za/\True/\zd/\(eB (aR.num (aP zb.2)),())=ze)/\((!aR.isNil (aP zb.2))=ψ->False))/\(zb.2=0->((!aR.isNil aR.nil)=φ->True/\za/\True/\zd/\(eB (aR.num aR.nil),())=ze)/\((!aR.isNil aR.nil)=ψ->za/\(∀(i:Nat),i<gE zf->gE (nth aC zf i).2.1<=1000000/\gE (nth aC zf i).2.2.1<=1000000)/\(True->((!(cN zf s).2)=φ->True/\za/\True/\zd/\(eB (aR.num (aR.no 5)),())=ze)/\((!(cN zf s).2)=ψ->True/\((!aR.isNil zg.2)=φ->True/\za/\True/\zd/\(eB (aR.num zg.2),())=ze)/\((!aR.isNil zg.2)=ψ->True/\za/\True/\zd/\(Lib.trimSuffix zg.1 [10],())=ze)))))) κ ?_
 dsimp -iota -proj -eta only;dsimp only at hp;refine⟨rfl,?a,⟨fun h0=>iB (fun h1=>⟨dT,⟨rfl,dT,rfl,congrArg (fun z=>(z,())) (by unfold xD;rw[h1,ym])⟩⟩) (fun h1=>(absurd (aZ.1 h1) η)),fun h0=>⟨fun h1=>absurd (show ψ=φ from h1) δ,fun h1=>⟨rfl,?b,fun h2=>iB (fun h3=>⟨dT,?c⟩) (fun h3=>⟨dT,iB (fun h4=>⟨dT,?d⟩) (fun h4=>⟨dT,?e⟩)⟩)⟩⟩⟩⟩
 case a|b=>simp_all
 case c=>
  have e:(aP (cW d).2).isNil=φ:=aZ.2 η;exact⟨rfl,dT,rfl,congrArg (fun z=>(z,())) (by unfold xD;rw[e,h3];rfl)⟩
 case d|e=>
  have e:(aP (cW d).2).isNil=φ:=aZ.2 η;exact⟨rfl,dT,rfl,congrArg (fun z=>(z,())) (by unfold xD;simp only[*];rfl)⟩
def Mq:aL:=bU eI [.obj 0,.d .str] (fun _ x=>(dX x.2.2.2.2.2 1000000/\∀i,i<x.2.2.2.2.2.2.2.1.length->(nth .str x.2.2.2.2.2.2.2.1 i).length=64)/\∀i,i<(cW x.2.2.2.2.2).1.2.length->(nth aC (cW x.2.2.2.2.2).1.2 i).2.1.length<=1000000/\(nth aC (cW x.2.2.2.2.2).1.2 i).2.2.1.length<=1000000) Ip
def acR:aW prog aE.eT aH 155 ψ Mq:=
 bA (X:=aH) TP func155 κ (fun(a:CD [.obj 0,.d .str]) (x:PD eI)=>[]) (fun a x hw hp=>acQ a.1 x.1.1 x.2.2.1 x.2.2.2.1 x.2.2.2.2.1.1 x.2.2.2.2.1.2.1 x.2.2.2.2.2 hp)
def Mr:List (FuncId×(Bool×aL)):=[(71,(ψ,QX)),(24,(ψ,Mg)),(152,(φ,Ax)),(74,(φ,w4)),(120,(φ,qb)),(61,spZ7)]
def TQ:bH prog aE aH Mr:=
 aM afP (aM acK (aM Il (aM CK (aM rD (aM (aI (ui lV)) (bK bJ))))))
def Iq:List (Alt eI [.obj 0,.d .str]):=[{bQ:=eI,res:=[.d .str,.d .bool],out:=fun a x=>((la a.1 x.1.1,()),x.2),ret:=fun a x=>((nt a.1 x.1.1 (x.2.2.1,x.2.2.2.1,()) x.2.2.2.2.1.2.1).1,(nt a.1 x.1.1 (x.2.2.1,x.2.2.2.1,()) x.2.2.2.2.1.2.1).2,())}]
def acS(s:aA)(t:aA)(n:Int×Unit)(m:List FE×Int×Unit)(r:Int)(o:List (D aC))(d:Dk)(hp:(fun _ x=>(x.2.2.2.1.1.length<=6/\(x.2.2.2.1.1.map dE).Nodup)/\x.2.2.2.2.1.2.1.length<=1000000/\kE (nZ (x.2.2.1,x.2.2.2.1,()))/\kE (eJ x.2.2.2.2.1.2.1)) (s,()) ((t,()),(),n,m,(r,o,()),d)):(cE aE Mr f118 [] eI [.obj 0,.d .str] Iq (s,()) ((t,()),(),n,m,(r,o,()),d)).holds:=by
 refine ζ (p:=let za:=d.2.2.2.1=d.2.2.2.1;let zb:=((),n,m,(r,o,()),d);let zc:=((la s t,()),zb);let zd:=(φ,());let ze:=nt s t (n,m,()) o;let zf:=(ze.1,ze.2,());let zg:=nZ (n,m,());let zh:=[32];let zi:=((t,()),zb)=zc;let zj:=eJ o;let zk:=aP (bY t).2;let zl:=gE (bY t).1.2.1;let zm:=gH (↑zl:Int);let zn:=[32,119,111,114,100,115];((s == [99,108,101,97,114])=φ->za/\True/\(([],()),zb)=zc/\([111,107],zd)=zf)/\((s == [99,108,101,97,114])=ψ->((s == [108,105,115,116])=φ->(gE m.1<=6/\List.Nodup (hW dE m.1))/\(True->(gE zg<=1000000/\gE (hM zg zh)<=140737488355328)/\za/\True/\zi/\(kX zg zh,zd)=zf))/\((s == [108,105,115,116])=ψ->((s == [114,111,111,116,115])=φ->za/\gE o<=1000000/\(True->(gE zj<=1000000/\gE (hM zj zh)<=140737488355328)/\za/\True/\zi/\(kX zj zh,zd)=zf))/\((s == [114,111,111,116,115])=ψ->((s == [111,98,106,101,99,116])=φ->True/\((!aR.isNil zk)=φ->True/\za/\True/\zi/\(eB (aR.num zk),zd)=zf)/\((!aR.isNil zk)=ψ->zl<=aG->True/\gE zm+gE zn<=aG/\za/\True/\zi/\(zm++zn,zd)=zf))/\((s == [111,98,106,101,99,116])=ψ->za/\True/\zi/\([],ψ,())=zf))))) κ ?_
 dsimp -iota -proj -eta only;dsimp only at hp;refine iQ (fun h0=>(by subst h0;exact⟨rfl,dT,by simp[la],by simp[nt]⟩)) (fun h0=>iQ (fun h1=>⟨(by simp_all),fun h2=>⟨(kE.join hp.2.2.1),(by subst h1;exact⟨rfl,dT,by simp[la],by simp[nt]⟩)⟩⟩) (fun h1=>iQ (fun h2=>⟨rfl,ω,fun h3=>⟨(kE.join hp.2.2.2),(by subst h2;exact⟨rfl,dT,by simp[la],by simp[nt]⟩)⟩⟩) (fun h2=>iQ (fun h3=>⟨dT,iB (fun h4=>⟨dT,?a⟩) (fun h4 h5=>⟨dT,(by have:=lW ((bY t).1.2.1.length:Int);simp only[hK,hL,aG];omega),?b⟩)⟩) (fun h3=>⟨rfl,dT,by simp[la, *],by simp[nt, *]⟩))))
 case a=>
  have e:FH (bY t)=eB (aP (bY t).2).num:=by unfold FH;rw[h4,ym]
  subst s;exact⟨rfl,dT,by simp[la],by simp[nt,e]⟩
 case b=>
  have e:FH (bY t)=gH ((bY t).1.2.1.length:Int)++[32,119,111,114,100,115]:=by unfold FH;rw[h4]
  subst s;exact⟨rfl,dT,by simp[la],by simp[nt,e]⟩
def Ms:aL:=bU eI [.obj 0,.d .str] (fun _ x=>(x.2.2.2.1.1.length<=6/\(x.2.2.2.1.1.map dE).Nodup)/\x.2.2.2.2.1.2.1.length<=1000000/\kE (nZ (x.2.2.1,x.2.2.2.1,()))/\kE (eJ x.2.2.2.2.1.2.1)) Iq
def acT:aW prog aE.eT aH 118 ψ Ms:=
 bA (X:=aH) TQ func118 κ (fun(a:CD [.obj 0,.d .str]) (x:PD eI)=>[]) (fun a x hw hp=>acS a.1 x.1.1 x.2.2.1 x.2.2.2.1 x.2.2.2.2.1.1 x.2.2.2.2.1.2.1 x.2.2.2.2.2 hp)
def sr:List (Alt cG [.obj 0,.d (.int .u64)]):=[{bQ:=cG,res:=[],out:=fun a x=>lU x a.1,ret:=fun _ _=>()}]
def Ni:sr=tI:=by
 unfold sr tI;simp only[Ej]
def RE:aW prog aE.eT aH 198 ψ (bU cG [.obj 0,.d (.int .u64)] (fun _ x=>x.2.1.length=x.2.2.1.length/\∀i,i<x.2.2.2.1.length->0<=((nth iJ x.2.2.2.1 i).1:Int)/\((nth iJ x.2.2.2.1 i).1:Int)<x.2.2.1.length) sr):=by
 rw[Ni];exact Th
def RG:List (FuncId×(Bool×aL)):=[(48,(ψ,Jt))]
def YP:bH prog aE aH RG:=
 aM Vk (bK bJ)
def Mt:List (Alt Ih [.obj 0,.obj 2]):=[
 {bQ:=Ih++[.box 109 [.obj 0,.obj 7],.box 169 [.obj 2,.d (.int .i64),.d (.slice aC)]],res:=[.obj 6,.d .err],out:=fun _ x=>(x.1,x.2.1,x.2.2.1,x.2.2.2.1,x.2.2.2.2.1,x.2.2.2.2.2.1,(),((cW x.2.2).1.1,(cW x.2.2).1.2,()),()),ret:=fun _ _=>(aR.nil,())}]
def agj(n:Int×Unit)(m:List FE×Int×Unit)(d:Dk)(hp:(fun _ x=>(dX x.2.2 1000000/\∀i,i<x.2.2.2.2.1.length->(nth .str x.2.2.2.2.1 i).length=64)/\(cW x.2.2).2=0) () (n,m,d)):(cE aE RG f10 [] Ih [.obj 0,.obj 2] Mt () (n,m,d)).holds:=by
 refine ζ (p:=let za:=d.2.2.2.1;let zb:=d.2.2.1;let zc:=(cW d).2;let zd:=(n,m,d.1,d.2.1,zb,za,(),((cW d).1.1,(cW d).1.2,()),());za=za/\(dX d 1000000/\∀(i:Nat),i<gE zb->gE (nth Ty.str zb i)=64)/\(zc≠0->((!aR.isNil (aP zc))=φ->False)/\((!aR.isNil (aP zc))=ψ->False))/\(zc=0->((!aR.isNil aR.nil)=φ->False)/\((!aR.isNil aR.nil)=ψ->za=za/\True/\zd=zd/\(aR.nil,())=(aR.nil,())))) κ ?_
 dsimp -iota -proj -eta only;dsimp only at hp;refine⟨rfl,(by simp_all),⟨fun h0=>iB (fun h1 =>?a) (fun h1 =>?b),fun h0=>⟨fun h1=>absurd (show ψ=φ from h1) δ,fun h1=>θ⟩⟩⟩
 case a|b=>omega
def RH:aL:=bU Ih [.obj 0,.obj 2] (fun _ x=>(dX x.2.2 1000000/\∀i,i<x.2.2.2.2.1.length->(nth .str x.2.2.2.2.1 i).length=64)/\(cW x.2.2).2=0) Mt
def agk:aW prog aE.eT aH 10 ψ RH:=
 bA (X:=aH) YP func10 κ (fun(a:CD [.obj 0,.obj 2]) (x:PD Ih)=>[]) (fun a x hw hp=>agj x.1 x.2.1 x.2.2 hp)
def RI:List (FuncId×(Bool×aL)):=[(10,(ψ,RH))]
def Ir:bH prog aE aH RI:=
 aM agk (bK bJ)
def spZ8:Bool×aL:=(ψ,iI aE RI f77 [])
def RJ:List (FuncId×(Bool×aL)):=[(198,(ψ,bU cG [.obj 0,.d (.int .u64)] (fun _ x=>x.2.1.length=x.2.2.1.length/\∀i,i<x.2.2.2.1.length->0<=((nth iJ x.2.2.2.1 i).1:Int)/\((nth iJ x.2.2.2.1 i).1:Int)<x.2.2.1.length) sr)),(197,(ψ,U8)),(77,spZ8),(153,(φ,FU)),(61,spZ7),(106,spZ2)]
def YQ:bH prog aE aH RJ:=
 aM RE (aM ahY (aM (fF Ir func77 κ []) (aM Rz (aM (aI (ui lV)) (aM (aI s7) (bK bJ))))))
@[reducible] def FV:List Ob:=[.box 156 [.obj 2,.obj 5,.obj 9,.d .str],.box 109 [.obj 2,.obj 4],.box 107 [.obj 3,.d (.int .i64)],.ext 1 (jY cY),.box 169 [.obj 5,.d (.int .i64),.d (.slice aC)],.box 164 [.obj 6,.obj 7,.obj 8,.d (.int .i64),.d .bool],.row φ .str,.row φ .str,.tok iJ,.box 109 [.obj 2,.obj 10],.box 169 [.obj 5,.d (.int .i64),.d (.slice aC)]]
def Mu:List (Alt eI [.obj 0,.d .str,.d .str]):=[
 {bQ:=eI,res:=[.d .str,.d .bool],ok:=fun a _=>iO a.1 a.2.1=ψ,out:=fun _ x=>x,ret:=fun _ _=>([],ψ,())},
 {bQ:=FV,res:=[.d .str,.d .bool],ok:=fun a _=>iO a.1 a.2.1=φ,out:=fun _ x=>(x.1,(),x.2.2.1,x.2.2.2.1,x.2.2.2.2.1,x.2.2.2.2.2.1,x.2.2.2.2.2.2.1,x.2.2.2.2.2.2.2.1,x.2.2.2.2.2.2.2.2.1,(),x.2.2.2.2.1,()),ret:=fun _ _=>([111,107],φ,())}]
def TR(k:aA)(s:aA)(t:aA)(n:Int×Unit)(m:List FE×Int×Unit)(r:Int)(o:List (D aC))(d:Dk)(hp:(fun a x=>(a.2.1.length<=1000/\¬a.1=CA)/\lI x.1.1 (x.2.2.1,x.2.2.2.1,()) x.2.2.2.2) (k,s,()) ((t,()),(),n,m,(r,o,()),d)):(cE aE RJ f157 [] eI [.obj 0,.d .str,.d .str] Mu (k,s,()) ((t,()),(),n,m,(r,o,()),d)).holds:=by
 refine ζ (p:=let za:=d.2.2.2.1;let zb:=za=za;let zc:=iO k s=ψ;let zd:=(t,());let ze:=(r,o,());let zf:=(zd,(),n,m,ze,d);let zg:=([],ψ,());let zh:=zb/\zc/\zf=zf/\zg=zg;let zi:=(dG s).1;let zj:=([111,107],φ,());let zk:=gE d.2.2.1;let zl:=lU d (j1 IntKind.u64 zi);let zm:=zl.2.2.2.1;let zn:=zm=zm;let zo:=zl.2.2.1;let zp:=(lN aR.nil,φ,());gE s<=281474976710656/\((!aR.isNil (dG s).2)=φ->zh)/\((!aR.isNil (dG s).2)=ψ->True/\((!gH zi == s)=φ->zh)/\((!gH zi == s)=ψ->((ρ (zi<0))=φ->zh)/\((ρ (zi<0))=ψ->((ρ (zi > 999))=φ->zh)/\((ρ (zi > 999))=ψ->((k == [97,114,109])=φ->zb/\True/\(True->zb/\zc/\(zd,(),n,m,ze,(if(-1:Int) > zi then(-1:Int)else zi,d.1.2),d.2)=zf/\zj=zg))/\((k == [97,114,109])=ψ->((k == [114,101,115,116,97,114,116])=φ->zb/\(gE d.2.1=zk/\∀(i:Nat),i<gE za->0<=(nth iJ za i).1/\(nth iJ za i).1<(↑zk:Int))/\(True->zn/\((dX zl 1000000/\∀(i:Nat),i<gE zo->gE (nth Ty.str zo i)=64)/\(cW zl).2=0)/\(True->((aR.isNil aR.nil)=φ->True/\zn/\iO k s=φ/\(zd,(),n,m,ze,zl.1,zl.2.1,zo,zm,(),((cW zl).1.1,(cW zl).1.2,()),())=(zd,(),n,m,ze,d.1,d.2.1,d.2.2.1,za,(),ze,())/\zp=zj)/\((aR.isNil aR.nil)=ψ->True/\zn/\zc/\(zd,(),n,m,ze,zl)=zf/\zp=zg))))/\((k == [114,101,115,116,97,114,116])=ψ->zh))))))) κ ?_
 dsimp -iota -proj -eta only;dsimp only at hp;refine⟨ω,iB (fun h0=>⟨rfl,by simp[iO,wY, *],rfl,rfl⟩) (fun h0=>⟨dT,⟨fun h1 =>?a,fun h1=>iL (fun h2 =>?b) (fun h2=>iL (fun h3 =>?c) (fun h3=>iQ (fun h4=>⟨rfl,dT,fun h5 =>?d⟩) (fun h4=>iQ (fun h5=>⟨rfl,?e,fun h6=>⟨rfl,?f,fun h7=>⟨fun h8=>⟨dT,?g⟩,fun h8=>absurd (show φ=ψ from h8) δ⟩⟩⟩) (fun h5 =>?h))))⟩⟩)⟩
 case a=>
  simp only[bl,reduceCtorEq]at h1;exact⟨rfl,by simp[iO,wY, *],rfl,rfl⟩
 case b=>
  simp only[bl,reduceCtorEq]at h1;exact⟨rfl,by unfold iO wY;rw[decide_eq_false (p:=0<=(dG s).1) ω];simp,rfl,rfl⟩
 case c=>
  simp only[bl,reduceCtorEq]at h1;exact⟨rfl,by unfold iO wY;rw[decide_eq_false (p:=(dG s).1<=999) ω];simp,rfl,rfl⟩
 case d=>
  simp only[bl,reduceCtorEq]at h1;exact absurd h4 hp.1.2
 case e=>
  simp only[bl,reduceCtorEq]at h1;exact hp.2.akw
 case f=>
  simp only[bl,reduceCtorEq]at h1;exact⟨hp.2.aj1 _,hp.2.aj2 _⟩
 case g=>
  simp only[bl,reduceCtorEq]at h1;exact⟨rfl,by unfold iO wY;rw[decide_eq_true (p:=0<=(dG s).1) ω,decide_eq_true (p:=(dG s).1<=999) ω];simp[kv, *],hp.2.again _ fun R S=>(_,(),_,_,_,R.1,R.2.1,R.2.2.1,R.2.2.2.1,(),S,()),rfl⟩
 case h=>
  simp only[bl,reduceCtorEq]at h1;exact⟨rfl,by simp[iO,kv, *],rfl,rfl⟩
def Ew:aL:=bU eI [.obj 0,.d .str,.d .str] (fun a x=>(a.2.1.length<=1000/\¬a.1=CA)/\lI x.1.1 (x.2.2.1,x.2.2.2.1,()) x.2.2.2.2) Mu
def TS:aW prog aE.eT aH 157 ψ Ew:=
 bA (X:=aH) YQ func157 κ (fun(a:CD [.obj 0,.d .str,.d .str]) (x:PD eI)=>[]) (fun a x hw hp=>TR a.1 a.2.1 x.1.1 x.2.2.1 x.2.2.2.1 x.2.2.2.2.1.1 x.2.2.2.2.1.2.1 x.2.2.2.2.2 hp)
def VK:List (FuncId×(Bool×aL)):=[(12,(ψ,LL)),(14,(ψ,H8)),(70,(ψ,ta)),(16,(ψ,Mc)),(18,(ψ,Rv)),(154,(ψ,RD)),(155,(ψ,Mq)),(156,(φ,kG)),(157,(ψ,Ew)),(153,(φ,FU)),(120,(φ,qb)),(61,spZ7)]
def acU:bH prog aE aH VK:=
 aM ab6 (aM Yo (aM v8 (aM acI (aM agb (aM agi (aM acR (aM lj (aM TS (aM Rz (aM rD (aM (aI (ui lV)) (bK bJ))))))))))))
def RL:List (Alt eI [.obj 0,.d .str,.d .str]):=[
 {bQ:=eI,res:=[.d .str,.d .bool],ok:=fun a _=>iO a.1 a.2.1=ψ,out:=fun a x=>(x.1,(),(lh a.1 a.2.1 x.1.1 (x.2.2.1,x.2.2.2.1,()) x.2.2.2.2).2.1.1,(lh a.1 a.2.1 x.1.1 (x.2.2.1,x.2.2.2.1,()) x.2.2.2.2).2.1.2.1,(lh a.1 a.2.1 x.1.1 (x.2.2.1,x.2.2.2.1,()) x.2.2.2.2).2.2),ret:=fun a x=>((lh a.1 a.2.1 x.1.1 (x.2.2.1,x.2.2.2.1,()) x.2.2.2.2).1.1,(lh a.1 a.2.1 x.1.1 (x.2.2.1,x.2.2.2.1,()) x.2.2.2.2).1.2,())},
 {bQ:=FV,res:=[.d .str,.d .bool],ok:=fun a _=>iO a.1 a.2.1=φ,out:=fun _ x=>(x.1,(),x.2.2.1,x.2.2.2.1,x.2.2.2.2.1,x.2.2.2.2.2.1,x.2.2.2.2.2.2.1,x.2.2.2.2.2.2.2.1,x.2.2.2.2.2.2.2.2.1,(),x.2.2.2.2.1,()),ret:=fun _ _=>([111,107],φ,())}]
def aip(k:aA)(s:aA)(t:aA)(n:Int×Unit)(m:List FE×Int×Unit)(r:Int)(o:List (D aC))(d:Dk)(hp:(fun a x=>(a.2.1.length<=1000/\¬a.1=CA)/\lI x.1.1 (x.2.2.1,x.2.2.2.1,()) x.2.2.2.2) (k,s,()) ((t,()),(),n,m,(r,o,()),d)):(cE aE VK f119 [] eI [.obj 0,.d .str,.d .str] RL (k,s,()) ((t,()),(),n,m,(r,o,()),d)).holds:=by
 refine ζ (p:=let za:=gE m.1<=6;let zb:=d.2.2.2.1;let zc:=zb=zb;let zd:=iO k s=ψ;let ze:=(t,());let zf:=(n,m,());let zg:=cZ zf s t;let zh:=(r,o,());let zi:=(zh,d);let zj:=(n,m,());let zk:=lh k s t zj zi;let zl:=(ze,(),zk.2.1.1,zk.2.1.2.1,zk.2.2);let zm:=(φ,());let zn:=(zk.1.1,zk.1.2,());let zo:=fA zf s;let zp:=(aU zf s).2;let zq:=(ze,(),n,m,zi)=zl;let zr:=jc zj zi s;let zs:=zr.1.2.2.2.2.1;let zt:=(fM zi s).1;let zu:=zt.2.2.2.2.1;let zv:=iy zj o s;let zw:=d.2.2.1;let zx:=(cW d).1.2;let zy:=iO k s=φ;let zz:=(ze,(),n,m,zh,d.1,d.2.1,zw,zb,(),zh,());let zaa:=([(111:UInt8),107],zm);((k == [(119:UInt8),114,105,116,101])=φ->(za/\0<=n.1/\n.1<=1000000)/\(True->True/\zc/\zd/\(ze,(),zg.1.1,zg.1.2.1,zi)=zl/\(lN (aP zg.2),zm)=zn))/\((k == [(119:UInt8),114,105,116,101])=ψ->((k == [(114:UInt8),101,109,111,118,101])=φ->True/\(True->True/\zc/\zd/\(ze,(),zo.1.1,zo.1.2.1,zi)=zl/\(lN (aP zo.2),zm)=zn))/\((k == [(114:UInt8),101,109,111,118,101])=ψ->((k == [(115:UInt8),116,97,109,112])=φ->True/\(True->((!aR.isNil (aP zp.2))=φ->True/\zc/\zd/\zq/\(eB (aR.num (aP zp.2)),zm)=zn)/\((!aR.isNil (aP zp.2))=ψ->True/\zc/\zd/\zq/\(gH zp.1,zm)=zn)))/\((k == [(115:UInt8),116,97,109,112])=ψ->((k == [(98:UInt8),117,105,108,100])=φ->zc/\(ji zj/\Cy zi)/\(True->True/\zs=zs/\zd/\(ze,(),n,m,zr.1)=zl/\(lN (aP zr.2),zm)=zn))/\((k == [(98:UInt8),117,105,108,100])=ψ->((k == [(100:UInt8),114,111,112])=φ->zc/\Cy zi/\(True->True/\zu=zu/\zd/\(ze,(),n,m,zt)=zl/\(lN (aP (fM zi s).2),zm)=zn))/\((k == [(100:UInt8),114,111,112])=ψ->((k == [(108:UInt8),111,97,100])=φ->zc/\((za/\vW o)/\gD zv.1)/\(True->zc/\zd/\zq/\(loadT zv,zm)=zn))/\((k == [(108:UInt8),111,97,100])=ψ->((k == [(101:UInt8),110,116,114,121])=φ->zc/\((dX d 1000000/\∀(i:Nat),i<gE zw->gE (nth Ty.str zw i)=64)/\∀(i:Nat),i<gE zx->gE (nth aC zx i).2.1<=1000000/\gE (nth aC zx i).2.2.1<=1000000)/\(True->zc/\zd/\zq/\(xD (cW d) s,zm)=zn))/\((k == [(101:UInt8),110,116,114,121])=ψ->((k == [(104:UInt8),97,115,104])=φ->True/\True/\zc/\zd/\zq/\(gH (↑(jt s):Int),zm)=zn)/\((k == [(104:UInt8),97,115,104])=ψ->zc/\((gE s<=1000/\¬k=CA)/\lI t zj zi)/\(zd->zc/\zd/\zq/\([],ψ,())=zn)/\(zy->zc/\zy/\zz=zz/\zaa=zaa)))))))))) κ ?_
 dsimp -iota -proj -eta only;dsimp only at hp;refine iQ (fun h0=>⟨hp.2.files.2,fun h1=>⟨dT,(by subst h0;rw[abk];exact⟨rfl,nH δ,rfl,rfl⟩)⟩⟩) (fun h0=>iQ (fun h1=>⟨dT,fun h2=>⟨dT,(by subst h1;rw[X5];exact⟨rfl,nH δ,rfl,rfl⟩)⟩⟩) (fun h1=>iQ (fun h2=>⟨dT,fun h3=>iB (fun h4=>⟨dT,(by subst k;rw[Ln,X6 h4];exact⟨rfl,nH δ,rfl,rfl⟩)⟩) (fun h4=>⟨dT,(by subst k;rw[Ln,abn h4];exact⟨rfl,nH δ,rfl,rfl⟩)⟩)⟩) (fun h2=>iQ (fun h3=>⟨rfl,⟨hp.2.files.1,hp.2.XX⟩,fun h4=>⟨dT,(by subst h3;rw[abl];exact⟨rfl,nH δ,rfl,rfl⟩)⟩⟩) (fun h3=>iQ (fun h4=>⟨rfl,hp.2.XX,fun h5=>⟨dT,(by subst h4;rw[afj];exact⟨rfl,nH δ,rfl,rfl⟩)⟩⟩) (fun h4=>iQ (fun h5=>⟨rfl,(⟨⟨hp.2.files.2.1,hp.2.ae8⟩,hp.2.v7 _⟩),fun h6=>(by subst h5;rw[afk];exact⟨rfl,nH δ,rfl,rfl⟩)⟩) (fun h5=>iQ (fun h6=>⟨rfl,⟨hp.2.p8,hp.2.XS⟩,fun h7=>(by subst h6;rw[abm];exact⟨rfl,nH δ,rfl,rfl⟩)⟩) (fun h6=>iQ (fun h7=>⟨dT,dT,(by subst h7;rw[afl];exact⟨rfl,nH δ,rfl,rfl⟩)⟩) (fun h7=>⟨rfl,?a,⟨fun h8=>(by rw[afm η η η η η η η η η];exact⟨rfl,by assumption,rfl,rfl⟩),fun h8 =>?b⟩⟩))))))))
 case a|b=>trivial
def VL:aL:=bU eI [.obj 0,.d .str,.d .str] (fun a x=>(a.2.1.length<=1000/\¬a.1=CA)/\lI x.1.1 (x.2.2.1,x.2.2.2.1,()) x.2.2.2.2) RL
def aiq:aW prog aE.eT aH 119 ψ VL:=
 bA (X:=aH) acU func119 κ (fun(a:CD [.obj 0,.d .str,.d .str]) (x:PD eI)=>[]) (fun a x hw hp=>aip a.1 a.2.1 x.1.1 x.2.2.1 x.2.2.2.1 x.2.2.2.2.1.1 x.2.2.2.2.1.2.1 x.2.2.2.2.2 hp)
def VM:List (FuncId×(Bool×aL)):=[(63,spZ5),(120,(φ,qb)),(118,(ψ,Ms)),(119,(ψ,VL))]
def acV:bH prog aE aH VM:=
 aM (aI s9) (aM rD (aM acT (aM aiq (bK bJ))))
def RM:List (Alt eI [.obj 0,.d .str]):=[
 {bQ:=eI,res:=[.d .str],ok:=fun a _=>qD a.1=ψ,out:=fun a x=>(((jW a.1 x.1.1 (x.2.2.1,x.2.2.2.1,()) x.2.2.2.2).2.1,()),(),(jW a.1 x.1.1 (x.2.2.1,x.2.2.2.1,()) x.2.2.2.2).2.2.1.1,(jW a.1 x.1.1 (x.2.2.1,x.2.2.2.1,()) x.2.2.2.2).2.2.1.2.1,(jW a.1 x.1.1 (x.2.2.1,x.2.2.2.1,()) x.2.2.2.2).2.2.2),ret:=fun a x=>((jW a.1 x.1.1 (x.2.2.1,x.2.2.2.1,()) x.2.2.2.2).1,())},
 {bQ:=FV,res:=[.d .str],ok:=fun a _=>qD a.1=φ,out:=fun _ x=>(x.1,(),x.2.2.1,x.2.2.2.1,x.2.2.2.2.1,x.2.2.2.2.2.1,x.2.2.2.2.2.2.1,x.2.2.2.2.2.2.2.1,x.2.2.2.2.2.2.2.2.1,(),x.2.2.2.2.1,()),ret:=fun _ _=>([111,107],())}]
def VN(s:aA)(_:aA)(_:Int×Unit)(_:List FE×Int×Unit)(_:Int)(_:List (D aC))(_:Dk):cP:=[(300004,fun st=>{X:=Bool,inv:=fun c=>c=φ↔pC s,bG:=fun _=>0,bB:=fun c=>[(14,sB c)],keep:=[0,1,4,5,6,7]})]
def air(s:aA)(t:aA)(n:Int×Unit)(m:List FE×Int×Unit)(r:Int)(o:List (D aC))(d:Dk)(hp:(fun a x=>(a.1.length<=100/\¬sk a.1)/\lI x.1.1 (x.2.2.1,x.2.2.2.1,()) x.2.2.2.2) (s,()) ((t,()),(),n,m,(r,o,()),d)):(cE aE VM f78 (VN s t n m r o d) eI [.obj 0,.d .str] RM (s,()) ((t,()),(),n,m,(r,o,()),d)).holds:=by
 refine ζ (p:=let za:=gE s;let zb:=(↑za:Int);let zc:=d.2.2.2.1;let zd:=zc=zc;let ze:=qD s=ψ;let zf:=(r,o,());let zg:=(zf,d);let zh:=((),n,m,zg);let zi:=(n,m,());let zj:=jW s t zi zg;let zk:=((zj.2.1,()),(),zj.2.2.1.1,zj.2.2.1.2.1,zj.2.2.2);let zl:=(eB (aR.num (aR.no (4:Int))),());let zm:=(zj.1,());let zn:=zl=zm;let zo:=True/\zd/\ze/\((t,()),zh)=zk/\zn;let zp:=parts (32:UInt8) s;let zq:=gE zp<=aG;let zr:=(↑(gE zp):Int);let zs:=(0:Int)<=(0:Int)/\(0:Int)<zr;let zt:=pC s;let zu:=nth Ty.str zp 0;let zv:=C.ref 2 0;let zw:=C.ref 5 0;let zx:=C.ref 1 0;let zy:=C.ref 4 0;let zz:=d.2.2.1;let zaa:=(zv=zv/\zw=zw/\zx=zx/\t=t/\True)/\(zv=zv/\zy=zy/\True)/\(C.fS 3=C.fS 3/\n.1=n.1/\True)/\m=m/\(zw=zw/\r=r/\o=o/\True)/\(C.bD 6=C.bD 6/\C.bD 7=C.bD 7/\zd/\d.1.1=d.1.1/\d.1.2.1=d.1.2.1/\True)/\d.2.1=d.2.1/\zz=zz/\zd/\True;let zab:=hB 5 (hz za s);let zac:=zab++[(10:UInt8)];let zad:=([(111:UInt8),107],());let zae:=nt s t zi o;let zaf:=((la s t,()),zh)=zk;let zag:=nth Ty.str zp 1;let zah:=lh zu zag t zi zg;let zai:=zah.2.2.2.2.2.2.1;let zaj:=((t,()),(),zah.2.1.1,zah.2.1.2.1,zah.2.2)=zk;let zak:=qD s=φ;let zal:=((t,()),(),n,m,zf,d.1,d.2.1,zz,zc,(),zf,());(za<4294967281/\gE [(32:UInt8)]=1)/\(za<=aG->((ρ (zb > (60:Int)))=φ->zo)/\((ρ (zb > (60:Int)))=ψ->(zq->((ρ (zr > (1:Int)))=φ->zs/\∃(x':Bool),(x'=φ↔zt)/\((zu == [(108:UInt8),105,110,101])=x'/\True)/\zaa)/\((ρ (zr > (1:Int)))=ψ->∃(x':Bool),(x'=φ↔zt)/\(ψ=x'/\True)/\zaa))/\∀E:Bool,(E=φ↔zt)->(E=φ->((0:Int)<=(5:Int)/\(5:Int)<=zb/\zb<=zb)/\gE zab+gE [(10:UInt8)]<=aG/\gE t+gE zac<=aG/\zd/\ze/\((t++zac,()),zh)=zk/\zad=zm)/\(E=ψ->zq->((zr == (1:Int))=φ->zd/\((gE m.1<=6/\List.Nodup (hW dE m.1))/\gE o<=1000000/\kE (nZ zi)/\kE (eJ o))/\(True->((!zae.2)=φ->True/\zd/\ze/\zaf/\zn)/\((!zae.2)=ψ->zd/\ze/\zaf/\(zae.1,())=zm)))/\((zr == (1:Int))=ψ->zq->((zr == (2:Int))=φ->zs/\((0:Int)<=(1:Int)/\(1:Int)<zr)/\zd/\((gE zag<=1000/\¬zu=CA)/\lI t zi zg)/\(iO zu zag=ψ->((!zah.1.2)=φ->True/\zai=zai/\ze/\zaj/\zn)/\((!zah.1.2)=ψ->zai=zai/\ze/\zaj/\(zah.1.1,())=zm))/\(iO zu zag=φ->((!φ)=φ->True/\zd/\zak/\zal=zal/\zl=zad)/\((!φ)=ψ->zd/\zak/\zal=zal/\zad=zad)))/\((zr == (2:Int))=ψ->zo)))))) κ ?_
 dsimp -iota -proj -eta only;dsimp only at hp;refine⟨(by exact⟨by have:=hp.1.1;omega,rfl⟩),fun h0=>iL (fun h1=>⟨dT,(by rw[abr ω];exact⟨rfl,s6 (.inl ω),rfl,rfl⟩)⟩) (fun h1=>⟨fun h2=>iL (fun h3=>⟨?a,(⟨_,Qk ω,⟨rfl,dT⟩,θ⟩)⟩) (fun h3=>(⟨_,Ql ω,⟨rfl,dT⟩,θ⟩)),fun E q_0=>⟨fun h2=>⟨(by have hl:=q_0.1 η;have:=Ll hl.1 hl.2;omega),?b,?c,(by rw[abt ω (q_0.1 η),kp];exact⟨rfl,s6 (.inr (.inr (nH (by rw[(q_0.1 η).2];decide)))),rfl,rfl⟩)⟩,fun h2 h3=>iQ (fun h4=>⟨rfl,⟨hp.2.aeh,hp.2.akv,hp.2.yp,hp.2.yq⟩,fun h5=>iB (fun h6=>⟨dT,(by rw[Qj ω ω,agW h6];exact⟨rfl,s6 (.inr (.inl ω)),rfl,rfl⟩)⟩) (fun h6=>(by rw[Qj ω ω,agX h6];exact⟨rfl,s6 (.inr (.inl ω)),rfl,rfl⟩))⟩) (fun h4 h5=>iQ (fun h6=>⟨?d,?e,rfl,(⟨⟨hY (ahJ s 1) (by have:=hp.1.1;omega),ajr hp.1.2 ω⟩,hp.2⟩),⟨fun h7=>iB (fun h8=>⟨dT,(by rw[FL ω (eH q_0 η) ω,agW h8];exact⟨rfl,s6 (.inr (.inr η)),rfl,rfl⟩)⟩) (fun h8=>(by rw[FL ω (eH q_0 η) ω,agX h8];exact⟨rfl,s6 (.inr (.inr η)),rfl,rfl⟩)),fun h7=>⟨fun h8=>absurd (show ψ=φ from h8) δ,fun h8=>⟨rfl,ahI ω ω η,rfl,rfl⟩⟩⟩⟩) (fun h6=>⟨dT,(by rw[abu ω (eH q_0 η) ω ω];exact⟨rfl,s6 (.inr (.inl ω)),rfl,rfl⟩)⟩))⟩⟩)⟩
 case a|d|e=>omega
 case b|c=>have:=hp.1.1;have:=hp.2.text;simp only[hD,List.length_drop,hR,hK,hL,aG];omega
def VO:aL:=bU eI [.obj 0,.d .str] (fun a x=>(a.1.length<=100/\¬sk a.1)/\lI x.1.1 (x.2.2.1,x.2.2.2.1,()) x.2.2.2.2) RM
def ais:aW prog aE.eT aH 78 ψ VO:=
 bA (X:=aH) acV func78 κ (fun(a:CD [.obj 0,.d .str]) (x:PD eI)=>VN a.1 x.1.1 x.2.2.1 x.2.2.2.1 x.2.2.2.2.1.1 x.2.2.2.2.1.2.1 x.2.2.2.2.2) (fun a x hw hp=>air a.1 x.1.1 x.2.2.1 x.2.2.2.1 x.2.2.2.2.1.1 x.2.2.2.2.1.2.1 x.2.2.2.2.2 hp)
def acW:List (FuncId×(Bool×aL)):=[(9,(ψ,Vt)),(46,(ψ,U9)),(47,(ψ,LJ)),(77,spZ8),(78,(ψ,VO))]
def agl:bH prog aE aH acW:=
 aM aii (aM ah0 (aM abV (aM (fF Ir func77 κ []) (aM ais (bK bJ)))))
def acX(l:List aA):cP:=[
 (200000,fun st=>{X:=Nat×aA×cU×Sh×List aA,inv:=fun x=>x.1<=gE l/\jQ l x.1 x.2.1 x.2.2.1 x.2.2.2.1 x.2.2.2.2,bG:=fun x=>gE l-x.1,bB:=fun x=>[(37,sI x.1),(7,.s (.one (.app .str x.2.2.2.2 (aS st 7))))],aK:=fun x=>[(aS st 7,.tok .str x.2.2.2.2)],dU:=[aS st 7],keep:=[2,3,6,35,36],aY:=eI,refs:=[(6,0)],pd:=fun x=>((x.2.1,()),(),x.2.2.1.1,x.2.2.1.2.1,x.2.2.2.1)})]
def ajO(l:List aA)(hp:(fun l=>l.length<=70/\∀i,i<l.length->(nth .str l i).length<=100/\¬sk (nth .str l i)) l):(cH (gy aE [46]) acW f43 (acX l) [.slice .str] [.slice .str,.err] (fun x y=>y=(fun l=>nv l) x) l).holds:=by
 refine ζ (p:=let za:=gE l;let zb:=za<=aG;let zc:=nv l;let zd:=!aR.isNil aR.nil;let ze:=([],aR.nil)=zc;let zf:=ks 120 (fU (@hq UInt8));let zg:=(((-1:Int),ψ,()),zf,zf,[],());let zh:=aP (lM zg).2;let zi:=(lM zg).1;let zj:=zi.2.2.2.1=zi.2.2.2.1;let zk:=zi.2.2.1;let zl:=Nat×aA×cU×Sh×List aA;let zm:=@hq aA=@hq aA/\True;let zn:=!ψ;let zo:=zn&&(zn&&φ);let zp:=zo=φ;let zq:=([],(0:Int),());let zr:=(cW zi).1.1;let zs:=(cW zi).1.2;let zt:=fun(E:Nat×aA×cU×Sh×List aA)=>E.2.2.2.2;let zu:=fun(E:Nat×aA×cU×Sh×List aA)=>E.1<=za/\jQ l E.1 E.2.1 E.2.2.1 E.2.2.2.1 (zt E);let zv:=fun(E:Nat×aA×cU×Sh×List aA)=>(↑E.1:Int)<(↑za:Int);let zw:=fun(E:Nat×aA×cU×Sh×List aA)=>(0:Int)<=(↑E.1:Int)/\zv E;let zx:=fun(E:Nat×aA×cU×Sh×List aA)=>E.2.2.2.1.2.2.2.2.1=E.2.2.2.1.2.2.2.2.1;let zy:=fun(E:Nat×aA×cU×Sh×List aA)=>nth Ty.str l E.1;let zz:=fun(E:Nat×aA×cU×Sh×List aA)=>(gE (zy E)<=100/\¬sk (zy E))/\lI E.2.1 E.2.2.1 E.2.2.2.1;let zaa:=fun(E:Nat×aA×cU×Sh×List aA)=>jW (zy E) E.2.1 E.2.2.1 E.2.2.2.1;let zab:=fun(E:Nat×aA×cU×Sh×List aA)=>zt E=zt E/\gE (zt E)+gE [(zaa E).1]<=1000000000;let zac:=fun(E:Nat×aA×cU×Sh×List aA)=>aF (↑E.1:Int);let zad:=aF (1:Int);let zae:=fun(E:Nat×aA×cU×Sh×List aA)=>(↑E.1:Int)+(1:Int);let zaf:=fun(E:Nat×aA×cU×Sh×List aA)=>(zaa E).2.2.2.2.2.2.2.1=(zaa E).2.2.2.2.2.2.2.1;let zag:=fun(E:Nat×aA×cU×Sh×List aA)=>zt E++[(zaa E).1];let zah:=fun(E:Nat×aA×cU×Sh×List aA)=>(((zaa E).2.1,()),(),(zaa E).2.2.1.1,(zaa E).2.2.1.2.1,(zaa E).2.2.2);let zai:=[[(111:UInt8),107]];let zaj:=fun(E:Nat×aA×cU×Sh×List aA)=>zt E=zt E/\gE (zt E)+gE zai<=1000000000;let zak:=fun(E:Nat×aA×cU×Sh×List aA)=>zt E++zai;let zal:=fun(E:Nat×aA×cU×Sh×List aA)=>((E.2.1,()),(),E.2.2.1.1,E.2.2.1.2.1,E.2.2.2.1);let zam:=1+gE cG+gE cG;let zan:=C.fS (zam+1);let zao:=C.ref zam 0;let zap:=C.ref (zam+gE bZ+1+1+1) 0;let zaq:=C.ref 1 0;let zar:=(zan=zan/\(0:Int)=(0:Int)/\True)/\zq=zq/\(C.bD 2=C.bD 2/\C.bD 3=C.bD 3/\zj/\zi.1.1=zi.1.1/\zi.1.2.1=zi.1.2.1/\True)/\zi.2.1=zi.2.1/\zk=zk/\zj/\(zao=zao/\zap=zap/\True)/\(zaq=zaq/\zr=zr/\zs=zs/\True)/\(zao=zao/\zaq=zaq/\C.any=C.any/\@hq UInt8=@hq UInt8/\True)/\zm;let zas:=(zn&&(zn&&(zn&&(zn&&(zn&&(zn&&(zn&&(zn&&(zn&&zo)))))))))=φ;zb->((ρ ((↑za:Int) > (60:Int)))=φ->([],aR.no (2:Int))=zc)/\((ρ ((↑za:Int) > (60:Int)))=ψ->True/\(((120:Int)<(1:Int)\/(120:Int)<(120:Int))->((!aR.isNil (aR.no (1:Int)))=φ->([],aR.no (1:Int))=zc)/\((!aR.isNil (aR.no (1:Int)))=ψ->False))/\((1:Int)<=(120:Int)/\(120:Int)<=(120:Int)->(zd=φ->ze)/\(zd=ψ->(@hq (Int×aA×Unit)=@hq (Int×aA×Unit))/\dX zg 1000000/\(True->((!aR.isNil zh)=φ->([],zh)=zc)/\((!aR.isNil zh)=ψ->True/\(True->zj/\((dX zi 1000000/\∀(i:Nat),i<gE zk->gE (nth Ty.str zk i)=64)/\(cW zi).2=(0:Int))/\(True->((aR.isNil aR.nil)=φ->(zd=φ->ze)/\(zd=ψ->zb->(zj/\∃(x':zl),(hg x'<=za/\jQ l (hg x') (gN x').1 (gN x').2.1 (gN x').2.2.1 (gN x').2.2.2)/\True/\((0:Int)=(↑(hg x'):Int)/\@hq aA=(gN x').2.2.2/\True)/\(@hq aA=(gN x').2.2.2/\zm)/\zp/\(([],()),(),((0:Int),()),zq,(zr,zs,()),zi)=(((gN x').1,()),(),(gN x').2.1.1,(gN x').2.1.2.1,(gN x').2.2.1))/\∀E:Nat×aA×cU×Sh×List aA,zu E->((ρ (zv E))=φ->zw E/\zx E/\zz E/\(qD (zy E)=ψ->zab E/\(zac E->zad->aF (zae E)/\zaf E/\∃(x':zl),(hg x'<=za/\jQ l (hg x') (gN x').1 (gN x').2.1 (gN x').2.2.1 (gN x').2.2.2)/\za-hg x'<za-E.1/\(zae E=(↑(hg x'):Int)/\zag E=(gN x').2.2.2/\True)/\(zag E=(gN x').2.2.2/\zm)/\zp/\zah E=(((gN x').1,()),(),(gN x').2.1.1,(gN x').2.1.2.1,(gN x').2.2.1)))/\(qD (zy E)=φ->zaj E/\(zac E->zad->aF (zae E)/\zx E/\∃(x':zl),(hg x'<=za/\jQ l (hg x') (gN x').1 (gN x').2.1 (gN x').2.2.1 (gN x').2.2.2)/\za-hg x'<za-E.1/\(zae E=(↑(hg x'):Int)/\zak E=(gN x').2.2.2/\True)/\(zak E=(gN x').2.2.2/\zm)/\zp/\zal E=(((gN x').1,()),(),(gN x').2.1.1,(gN x').2.1.2.1,(gN x').2.2.1))))/\((ρ (zv E))=ψ->(zt E,aR.nil)=zc)))/\((aR.isNil aR.nil)=ψ->(zd=φ->ze)/\(zd=ψ->zb->False/\∀E:Nat×aA×cU×Sh×List aA,zu E->((ρ (zv E))=φ->zw E/\zx E/\zz E/\(qD (zy E)=ψ->zab E/\(zac E->zad->aF (zae E)/\zaf E/\∃(x':zl),(hg x'<=za/\jQ l (hg x') (gN x').1 (gN x').2.1 (gN x').2.2.1 (gN x').2.2.2)/\za-hg x'<za-E.1/\(zae E=(↑(hg x'):Int)/\zag E=(gN x').2.2.2/\True)/\(zag E=(gN x').2.2.2/\zar)/\zas/\zah E=(((gN x').1,()),(),(gN x').2.1.1,(gN x').2.1.2.1,(gN x').2.2.1)))/\(qD (zy E)=φ->zaj E/\(zac E->zad->aF (zae E)/\zx E/\∃(x':zl),(hg x'<=za/\jQ l (hg x') (gN x').1 (gN x').2.1 (gN x').2.2.1 (gN x').2.2.2)/\za-hg x'<za-E.1/\(zae E=(↑(hg x'):Int)/\zak E=(gN x').2.2.2/\True)/\(zak E=(gN x').2.2.2/\zar)/\zas/\zal E=(((gN x').1,()),(),(gN x').2.1.1,(gN x').2.1.2.1,(gN x').2.2.1))))/\((ρ (zv E))=ψ->(zt E,aR.nil)=zc))))))))))) κ ?_
 dsimp -iota -proj -eta only;refine fun h0=>iL (fun h1=>((Ap ω).symm)) (fun h1=>⟨dT,⟨fun h2=>⟨fun h3=>θ,fun h3=>absurd (show φ=ψ from h3) δ⟩,fun h2=>⟨fun h3=>absurd (show ψ=φ from h3) δ,fun h3=>⟨rfl,⟨Int.le_refl _,hE _,rfl⟩,fun h4=>iB (fun h5=>(absurd (Cv (FD (n:=120) δ)).1 (fD h5))) (fun h5=>⟨dT,fun h6=>⟨rfl,(⟨⟨qz.Dj,qz.sec⟩,qz.Jn⟩),fun h7=>⟨fun h8=>⟨fun h9=>absurd (show ψ=φ from h9) δ,fun h9 h10=>⟨(⟨rfl,(0,[],qo,HP,[]),⟨hE _,jQ.new l⟩,dT,⟨rfl,rfl,dT⟩,⟨rfl,θ⟩,rfl,congrArg (fun z=>((([]:aA),()),(),qo.1,qo.2.1,z,HP.2)) qz.again⟩),fun E q_0=>iL (fun h11=>⟨ω,rfl,(by have:=hp.1;exact⟨hp.2 _ ω,q_0.2.akt ω⟩),⟨fun h12=>⟨?a,fun h13 h14=>⟨?b,?c⟩⟩,fun h12=>⟨?d,fun h13 h14=>⟨?e,?f⟩⟩⟩⟩) (fun h11=>(by rw[uV ω,q_0.2.out,show E.1=l.length by omega]))⟩⟩,fun h8=>absurd (show φ=ψ from h8) δ⟩⟩⟩)⟩⟩⟩⟩)
 case a|d=>have:=hp.1;have e:=q_0.2.len;exact⟨rfl,by simp only[hA];omega⟩
 case b|e=>simp only[aF,aG]at*;omega
 case c=>
  have:=hp.1;exact⟨rfl,(E.1+1,_,_,_,_),⟨by simp only;omega,q_0.2.say ω⟩,by simp only;omega,⟨by simp only;omega,rfl,dT⟩,⟨rfl,θ⟩,rfl,rfl⟩
 case f=>
  have:=hp.1;exact⟨rfl,(E.1+1,_,_,_,_),⟨by simp only;omega,q_0.2.rst ω η⟩,by simp only;omega,⟨by simp only;omega,rfl,dT⟩,⟨rfl,θ⟩,rfl,rfl⟩
def RN:aL:=bP [.slice .str] [.slice .str,.err] (fun l=>l.length<=70/\∀i,i<l.length->(nth .str l i).length<=100/\¬sk (nth .str l i)) (fun l=>nv l)
def acY:aW prog aE.eT aH 43 φ RN:=
 aI (bO (B:=(gy aE [46])) (X:=aH) (bH.hint (l:=[46]) agl) func43 κ (fun x=>acX x) (fun x hw hp=>ajO x hp))
def Mv(s:aA):cP:=[(0,fun st=>{X:=Nat×List aA×aA,inv:=fun x=>kA 32 s x.1 x.2.1 x.2.2,bG:=fun x=>s.length-x.1,bB:=fun x=>[(5,sI x.1),(3,.s (.one (.app .str x.2.1 (aS st 3)))),(4,sS x.2.2)],aK:=fun x=>[(aS st 3,.tok .str x.2.1)],keep:=[0,2],dU:=[aS st 3]})]
def acZ(s:aA)(hp:(fun s=>s.length<=1000000) s):(cH aE [] f67 (Mv s) [.str] [.slice .str] (fun x y=>y=(fun s=>parts 32 s) x) s).holds:=by
 refine ζ (p:=let za:=Nat×List aA×aA;let zb:=gE s;let zc:=fun(E:Nat×List aA×aA)=>(↑E.1:Int);let zd:=fun(E:Nat×List aA×aA)=>E.2.1=E.2.1/\gE E.2.1+gE [E.2.2]<=1000000000;let ze:=aF 1;let zf:=fun(E:Nat×List aA×aA)=>zc E+1;let zg:=fun(E:Nat×List aA×aA)=>E.2.1++[E.2.2];let zh:=@hq aA=@hq aA/\True;let zi:=fun(E:Nat×List aA×aA)=>hB E.1 (hz (hC (zf E)) s);(∃(x:za),kA 32 s (hg x) (gN x).1 (gN x).2/\(0=(↑(hg x):Int)/\@hq aA=(gN x).1/\@hq UInt8=(gN x).2/\True)/\@hq aA=(gN x).1/\True)/\∀E:Nat×List aA×aA,kA 32 s E.1 E.2.1 E.2.2->zb<=aG->((ρ (zc E<(↑zb:Int)))=φ->(0<=zc E/\zc E<(↑zb:Int))/\(((↑(hV (bV s E.1)):Int) == 32)=φ->zd E/\(aF (zc E)->ze->aF (zf E)/\∃(x':za),kA 32 s (hg x') (gN x').1 (gN x').2/\zb-hg x'<zb-E.1/\(zf E=(↑(hg x'):Int)/\zg E=(gN x').1/\@hq UInt8=(gN x').2/\True)/\zg E=(gN x').1/\zh))/\(((↑(hV (bV s E.1)):Int) == 32)=ψ->aF (zc E)->ze->aF (zf E)/\(0<=zc E/\zc E<=zf E/\zf E<=(↑zb:Int))/\gE E.2.2+gE (zi E)<=aG/\(aF (zc E)->ze->aF (zf E)/\∃(x':za),kA 32 s (hg x') (gN x').1 (gN x').2/\zb-hg x'<zb-E.1/\(zf E=(↑(hg x'):Int)/\E.2.1=(gN x').1/\E.2.2++zi E=(gN x').2/\True)/\E.2.1=(gN x').1/\zh)))/\((ρ (zc E<(↑zb:Int)))=ψ->zd E/\zg E=parts 32 s)) κ ?_
 dsimp -iota -proj -eta only;refine⟨(⟨(0,[],[]),kA.zero _ _,⟨rfl,rfl,rfl,dT⟩,rfl,dT⟩),fun E q_0 h0=>iL (fun h1=>⟨?a,iQ (fun h2=>⟨?b,fun h3 h4=>⟨?c,(by exact⟨(E.1+1,_,_),q_0.cut ω (UL (n:=32) h2 rfl),by simp only;omega,⟨by simp only;omega,rfl,rfl,dT⟩,rfl,θ⟩)⟩⟩) (fun h2 h3 h4=>⟨?d,?e,(by have:=q_0.lx;have:=q_0.le;rw[Hb ω];simp only[hA,aG];omega),fun h5 h6=>⟨?f,(by rw[Hb ω];exact⟨(E.1+1,E.2.1,E.2.2++[bV s E.1]),q_0.more ω (UM (n:=32) h2 rfl),by simp only;omega,⟨by simp only;omega,rfl,rfl,dT⟩,rfl,θ⟩)⟩⟩)⟩) (fun h1=>⟨?g,(q_0.done ω)⟩)⟩
 case a|e=>omega
 case b|g=>have:=q_0.len;have:=q_0.le;exact⟨rfl,by simp only[hA];omega⟩
 case c|d|f=>simp only[aF,aG]at*;omega
def CN:aL:=bP [.str] [.slice .str] (fun s=>s.length<=1000000) (fun s=>parts 32 s)
def Mw:aW prog aE.eT aH 67 φ CN:=
 aI (bO (X:=aH) (bK bJ) func67 κ (fun x=>Mv x) (fun x hw hp=>acZ x hp))
def Mx(s:aA):cP:=[(0,fun st=>{X:=Nat×List aA×Nat,inv:=fun x=>kB 10 s x.1 x.2.1 x.2.2,bG:=fun x=>s.length-x.1,bB:=fun x=>[(6,sI x.1),(4,.s (.one (.app .str x.2.1 (aS st 4)))),(5,sI x.2.2)],aK:=fun x=>[(aS st 4,.tok .str x.2.1)],keep:=[0,2,3],dU:=[aS st 4]})]
def ac0(s:aA)(hp:(fun s=>s.length<=1000000) s):(cH aE [] f66 (Mx s) [.str] [.slice .str,.bool] (fun x y=>y=(fun s=>(pn s,Ft s)) x) s).holds:=by
 refine ζ (p:=let za:=Nat×List aA×Nat;let zb:=gE s;let zc:=fun(E:Nat×List aA×Nat)=>(↑E.1:Int);let zd:=(↑zb:Int);let ze:=fun(E:Nat×List aA×Nat)=>(↑E.2.2:Int);let zf:=fun(E:Nat×List aA×Nat)=>[hB E.2.2 (hz E.1 s)];let zg:=aF 1;let zh:=fun(E:Nat×List aA×Nat)=>zc E+1;let zi:=@hq aA=@hq aA/\True;(∃(x:za),kB 10 s (hg x) (gN x).1 (gN x).2/\(0=(↑(hg x):Int)/\@hq aA=(gN x).1/\0=(↑(gN x).2:Int)/\True)/\@hq aA=(gN x).1/\True)/\∀E:Nat×List aA×Nat,kB 10 s E.1 E.2.1 E.2.2->zb<=aG->((ρ (zc E<zd))=φ->(0<=zc E/\zc E<zd)/\(((↑(hV (bV s E.1)):Int) == 10)=φ->(0<=ze E/\ze E<=zc E/\zc E<=zd)/\(E.2.1=E.2.1/\gE E.2.1+gE (zf E)<=1000000000)/\(aF (zc E)->zg->aF (zh E)/\(aF (zc E)->zg->aF (zh E)/\∃(x':za),kB 10 s (hg x') (gN x').1 (gN x').2/\zb-hg x'<zb-E.1/\(zh E=(↑(hg x'):Int)/\E.2.1++zf E=(gN x').1/\zh E=(↑(gN x').2:Int)/\True)/\E.2.1++zf E=(gN x').1/\zi)))/\(((↑(hV (bV s E.1)):Int) == 10)=ψ->aF (zc E)->zg->aF (zh E)/\∃(x':za),kB 10 s (hg x') (gN x').1 (gN x').2/\zb-hg x'<zb-E.1/\(zh E=(↑(hg x'):Int)/\E.2.1=(gN x').1/\ze E=(↑(gN x').2:Int)/\True)/\E.2.1=(gN x').1/\zi))/\((ρ (zc E<zd))=ψ->zb<=aG->(E.2.1,ze E == zd)=(pn s,Ft s))) κ ?_
 dsimp -iota -proj -eta only;refine⟨(⟨(0,[],0),kB.zero _ _,⟨rfl,rfl,rfl,dT⟩,rfl,dT⟩),fun E q_0 h0=>iL (fun h1=>⟨ω,iQ (fun h2=>⟨(by have:=q_0.fi;omega),(by have:=q_0.len;have:=q_0.le;exact⟨rfl,by simp only[hA];omega⟩),fun h3 h4=>⟨?a,fun h5 h6=>⟨?b,(by exact⟨(E.1+1,_,E.1+1),q_0.cut ω (UL (n:=10) h2 rfl),by simp only;omega,⟨by simp only;omega,rfl,by simp only;omega,dT⟩,rfl,θ⟩)⟩⟩⟩) (fun h2 h3 h4=>⟨?c,(by exact⟨(E.1+1,E.2.1,E.2.2),q_0.more ω (UM (n:=10) h2 rfl),by simp only;omega,⟨by simp only;omega,rfl,rfl,dT⟩,rfl,θ⟩)⟩)⟩) (fun h1 h2=>(by rw[show(pn s,Ft s)=xu s from rfl,<-q_0.done ω];congr 1;rw[j7];simp;omega))⟩
 case a|b|c=>simp only[aF,aG]at*;omega
def My:aL:=bP [.str] [.slice .str,.bool] (fun s=>s.length<=1000000) (fun s=>(pn s,Ft s))
def ac1:aW prog aE.eT aH 66 φ My:=
 aI (bO (X:=aH) (bK bJ) func66 κ (fun x=>Mx x) (fun x hw hp=>ac0 x hp))
def VP(s:aA):cP:=[(0,fun st=>{X:=Nat,inv:=fun i=>i<=(dH s).length/\∀j,j<i->lD (bV (dH s) j)=φ,bG:=fun i=>(dH s).length-i,bB:=fun i=>[(6,sI i),(5,sI (jU ((dH s).take i)))],keep:=[0,4]})]
def YR(s:aA):(cH aE [] f68 (VP s) [.str] [.int .i64,.bool] (fun x y=>y=(fun s=>(jV s,mL s)) x) s).holds:=by
 refine ζ (p:=let za:=gE s;let zb:=za<=aG;let zc:=(↑za:Int);let zd:=(0:Int)<=(0:Int);let ze:=zd/\(0:Int)<zc;let zf:=(↑(hV (bV s 0)):Int);let zg:=hB 1 (hz za s);let zh:=gE zg<=aG;let zi:=(↑(gE zg):Int);let zj:=(jV s,mL s);let zk:=((0:Int),ψ)=zj;let zl:=ρ (zc > (1:Int));let zm:=dH s;let zn:=gE zm;let zo:=∃(x:Nat),(x<=zn/\∀(j:Nat),j<x->lD (bV zm j)=φ)/\((0:Int)=(↑x:Int)/\(0:Int)=(↑(jU (hz x zm)):Int)/\True)/\True;let zp:=fun(E:Nat)=>E<=zn/\∀(j:Nat),j<E->lD (bV zm j)=φ;let zq:=fun(E:Nat)=>(0:Int)<=(↑E:Int)/\(↑E:Int)<zi;let zr:=fun(E:Nat)=>(↑(hV (bV zg E)):Int);let zs:=fun(E:Nat)=>(↑(jU (hz E zm)):Int);let zt:=fun(F:Int) (G:Int) (E:Nat)=>aF F->aF G->aF (F+G)/\(aF (↑E:Int)->aF (1:Int)->aF ((↑E:Int)+(1:Int))/\∃(x':Nat),(x'<=zn/\∀(j:Nat),j<x'->lD (bV zm j)=φ)/\zn-x'<zn-E/\((↑E:Int)+(1:Int)=(↑x':Int)/\F+G=(↑(jU (hz x' zm)):Int)/\True)/\True);let zu:=fun(E:Nat)=>aF (0:Int)->aF (zs E)->aF ((0:Int)-zs E)/\((0:Int)-zs E,φ)=zj;let zv:=zo/\∀E:Nat,zp E->zh->((ρ ((↑E:Int)<zi))=φ->zq E/\((ρ (zr E<(48:Int)))=φ->zk)/\((ρ (zr E<(48:Int)))=ψ->zq E/\((ρ (zr E > (57:Int)))=φ->zk)/\((ρ (zr E > (57:Int)))=ψ->∀F:Int,F=(10:Int)*zs E->aF (10:Int)->aF (zs E)->aF F/\zq E/\∀G:Int,G=j1 j2 (zr E-(48:Int))->zt F G E)))/\((ρ ((↑E:Int)<zi))=ψ->zh->zb->((ρ (zi<zc))=φ->zu E)/\((ρ (zi<zc))=ψ->(zs E,φ)=zj));let zw:=fun(E:Nat)=>(0:Int)<=(↑E:Int)/\(↑E:Int)<zc;let zx:=fun(E:Nat)=>(↑(hV (bV s E)):Int);let zy:=zo/\∀E:Nat,zp E->zb->((ρ ((↑E:Int)<zc))=φ->zw E/\((ρ (zx E<(48:Int)))=φ->zk)/\((ρ (zx E<(48:Int)))=ψ->zw E/\((ρ (zx E > (57:Int)))=φ->zk)/\((ρ (zx E > (57:Int)))=ψ->∀F:Int,F=(10:Int)*zs E->aF (10:Int)->aF (zs E)->aF F/\zw E/\∀G:Int,G=j1 j2 (zx E-(48:Int))->zt F G E)))/\((ρ ((↑E:Int)<zc))=ψ->zb->zb->((ρ (zc<zc))=φ->zu E)/\((ρ (zc<zc))=ψ->(zs E,φ)=zj));let zz:=zb->((ρ (zc<(1:Int)))=φ->zk)/\((ρ (zc<(1:Int)))=ψ->zb->((ρ (zc > (18:Int)))=φ->zk)/\((ρ (zc > (18:Int)))=ψ->ze/\((zf == (48:Int))=φ->zb->(zl=φ->zk)/\(zl=ψ->zy))/\((zf == (48:Int))=ψ->zy)));zb->((ρ (zc > (0:Int)))=φ->ze/\((zf == (45:Int))=φ->((0:Int)<=(1:Int)/\(1:Int)<=zc/\zc<=zc)/\(zh->((ρ (zi<(1:Int)))=φ->zk)/\((ρ (zi<(1:Int)))=ψ->zh->((ρ (zi > (18:Int)))=φ->zk)/\((ρ (zi > (18:Int)))=ψ->(zd/\(0:Int)<zi)/\(((↑(hV (bV zg 0)):Int) == (48:Int))=φ->zb->(zl=φ->zk)/\(zl=ψ->zv))/\(((↑(hV (bV zg 0)):Int) == (48:Int))=ψ->zv)))))/\((zf == (45:Int))=ψ->zz))/\((ρ (zc > (0:Int)))=ψ->zz)) κ ?_
 dsimp -iota -proj -eta only;refine fun h0=>iL (fun h1=>⟨?a,iQ (fun h2=>⟨?b,fun h3=>iL (fun h4 =>?c) (fun h4 h5=>iL (fun h6 =>?d) (fun h6=>⟨?e,iQ (fun h7 h8=>iL (fun h9 =>?f) (fun h9=>⟨?g,fun E q_0 h10=>iL (fun h11=>⟨?h,iL (fun h12 =>?i) (fun h12=>⟨?j,iL (fun h13 =>?k) (fun h13 F q_1 h14 h15=>⟨?l,?m,fun G q_2 h16 h17=>⟨?n,fun h18 h19=>⟨?o,?p⟩⟩⟩)⟩)⟩) (fun h11 h12 h13=>iL (fun h14 h15 h16=>⟨?q,?r⟩) (fun h14 =>?s))⟩)) (fun h7=>⟨?t,fun E q_0 h8=>iL (fun h9=>⟨?u,iL (fun h10 =>?v) (fun h10=>⟨?w,iL (fun h11 =>?x) (fun h11 F q_1 h12 h13=>⟨?y,?z,fun G q_2 h14 h15=>⟨?a0,fun h16 h17=>⟨?a1,?a2⟩⟩⟩)⟩)⟩) (fun h9 h10 h11=>iL (fun h12 h13 h14=>⟨?a3,?a4⟩) (fun h12 =>?a5))⟩)⟩))⟩) (fun h2 h3=>iL (fun h4 =>?a6) (fun h4 h5=>iL (fun h6 =>?a7) (fun h6=>⟨?a8,iQ (fun h7 h8=>iL (fun h9 =>?a9) (fun h9=>⟨?aa,fun E q_0 h10=>iL (fun h11=>⟨?ab,iL (fun h12 =>?ac) (fun h12=>⟨?ad,iL (fun h13 =>?ae) (fun h13 F q_1 h14 h15=>⟨?af,?ag,fun G q_2 h16 h17=>⟨?ah,fun h18 h19=>⟨?ai,?aj⟩⟩⟩)⟩)⟩) (fun h11 h12 h13=>iL (fun h14 h15 h16=>⟨?ak,?al⟩) (fun h14 =>?am))⟩)) (fun h7=>⟨?an,fun E q_0 h8=>iL (fun h9=>⟨?ao,iL (fun h10 =>?ap) (fun h10=>⟨?aq,iL (fun h11 =>?ar) (fun h11 F q_1 h12 h13=>⟨?au,?av,fun G q_2 h14 h15=>⟨?aw,fun h16 h17=>⟨?ax,?ay⟩⟩⟩)⟩)⟩) (fun h9 h10 h11=>iL (fun h12 h13 h14=>⟨?az,?b0⟩) (fun h12 =>?b1))⟩)⟩)))⟩) (fun h1 h2=>iL (fun h3 =>?b2) (fun h3 h4=>iL (fun h5 =>?b3) (fun h5=>⟨?b4,iQ (fun h6 h7=>iL (fun h8 =>?b5) (fun h8=>⟨?b6,fun E q_0 h9=>iL (fun h10=>⟨?b7,iL (fun h11 =>?b8) (fun h11=>⟨?b9,iL (fun h12 =>?ba) (fun h12 F q_1 h13 h14=>⟨?bb,?bc,fun G q_2 h15 h16=>⟨?bd,fun h17 h18=>⟨?be,?bf⟩⟩⟩)⟩)⟩) (fun h10 h11 h12=>iL (fun h13 h14 h15=>⟨?bg,?bh⟩) (fun h13 =>?bi))⟩)) (fun h6=>⟨?bj,fun E q_0 h7=>iL (fun h8=>⟨?bk,iL (fun h9 =>?bl) (fun h9=>⟨?bm,iL (fun h10 =>?bn) (fun h10 F q_1 h11 h12=>⟨?bo,?bp,fun G q_2 h13 h14=>⟨?bq,fun h15 h16=>⟨?br,?bs⟩⟩⟩)⟩)⟩) (fun h8 h9 h10=>iL (fun h11 h12 h13=>⟨?bt,?bu⟩) (fun h11 =>?bv))⟩)⟩)))
 case a|e|a8|b4=>trivial
 case b|h|j|m|u|w|z|ab|ad|ag|ao|aq|av|b7|b9|bc|bk|bm|bp=>omega
 case c|d|f|i|k|v|x|a6|a7|a9|ac|ae|ap|ar|b2|b3|b5|b8|ba|bl|bn=>(first|have hm:=G8 h1 h2|have hm:=G9 h2|have hm:=Ha h1);first|exact aez hm ω|exact aah hm ω η ω|exact aeA hm (i:=E) ω ω
 case g|t|aa|an|b6|bj=>exact⟨0,⟨ω,fun j hj=>by omega⟩,⟨rfl,rfl,dT⟩,dT⟩
 case l|y|af|au|bb|bo=>(first|have hm:=G8 h1 h2|have hm:=G9 h2|have hm:=Ha h1);have hi:E<(dH s).length:=(by rw[hm];omega);have hs:=D1 (s:=dH s) (i:=E) hi (by rw[hm];omega) q_0.2;simp only[aF];omega
 case n|a0|ah|aw|bd|bq=>(first|have hm:=G8 h1 h2|have hm:=G9 h2|have hm:=Ha h1);have hi:E<(dH s).length:=(by rw[hm];omega);have hs:=D1 (s:=dH s) (i:=E) hi (by rw[hm];omega) q_0.2;have hn:=Pf hm (i:=E) ω η η q_1 q_2;simp only[aF];omega
 case o|q|a1|a3|ai|ak|ax|az|be|bg|br|bt=>simp only[aF]at*;omega
 case p|a2|aj|ay|bf|bs=>
  (first|have hm:=G8 h1 h2|have hm:=G9 h2|have hm:=Ha h1)
  have hi:E<(dH s).length:=(by rw[hm];omega);exact⟨E+1,⟨ω,jM q_0.2 (by rw[hm];exact aeB η η)⟩,ω,⟨ω,(Pf hm (i:=E) ω η η q_1 q_2).1,dT⟩,θ⟩
 case r|s|a4|a5|al|am|b0|b1|bh|bi|bu|bv=>(first|have hm:=G8 h1 h2|have hm:=G9 h2|have hm:=Ha h1);first|exact aeC hm ω ω (by first|(intro;omega)|(intro h;exact absurd h η)) (i:=E) ω q_0.2 ω|exact aeD hm ω ω (by first|(intro;omega)|(intro h;exact absurd h η)) (i:=E) ω q_0.2 ω
def Az:aL:=bP [.str] [.int .i64,.bool] (fun _=>True) (fun s=>(jV s,mL s))
def Is:aW prog aE.eT aH 68 φ Az:=
 aI (bO (X:=aH) (bK bJ) func68 κ (fun x=>VP x) (fun x hw hp=>YR x))
def TT(n:Int):(cH aE [] f60 [] [.int .i64] [.bool] (fun x y=>y=(fun n=>eW n) x) n).holds:=by
 refine ζ (p:=((ρ (n>=(-2147483648:Int)))=φ->ρ (n<=2147483647)=eW n)/\((ρ (n>=(-2147483648:Int)))=ψ->ψ=eW n)) κ ?_
 refine iE (fun h0 =>?a) (fun h0 =>?b)
 case a|b=>unfold eW;rw[j7];simp;omega
def TU:aW prog aE.eT aH 60 φ rp:=
 aI (bO (X:=aH) (bK bJ) func60 κ (fun _=>[]) (fun x hw hp=>TT x))
def It:List (FuncId×(Bool×aL)):=[(49,(φ,jD)),(50,(φ,fO)),(156,(φ,kG)),(83,(φ,jq)),(11,(φ,lk)),(60,(φ,rp))]
def RO:bH prog aE aH It:=
 aM kx (aM gA (aM lj (aM jE (aM lO (aM TU (bK bJ))))))
def Iu(e:D aC):cP:=[
 (0,fun st=>{X:=Nat,inv:=fun i=>i<=gE e.2.1/\∀j,j<i->eO (nth aJ e.2.1 j)=0,bG:=fun i=>gE e.2.1-i,bB:=fun i=>[(4,sI i)],keep:=[1]}),
 (2,fun st=>{X:=Nat,inv:=fun i=>i<=gE e.2.2.1/\∀j,j<i->dY e.2.1.length (nth aQ e.2.2.1 j)=0,bG:=fun i=>gE e.2.2.1-i,bB:=fun i=>[(7,sI i)],keep:=[1]})]
def Ju(e:D aC):(cH aE It f28 (Iu e) [aC] [.int .i64] (fun x y=>y=(fun e=>bF e) x) e).holds:=by
 refine ζ (p:=let za:=aN e.1;let zb:=bF e;let zc:=e.2.1;let zd:=gE zc;let ze:=zd<=aG;let zf:=(↑zd:Int);let zg:=(2:Int)=zb;let zh:=e.2.2.1;let zi:=gE zh;let zj:=fun(E:Nat)=>aN (nth aJ zc E).1;let zk:=(1:Int)=zb;let zl:=fun(E:Nat)=>(nth aJ zc E).2.2.1;let zm:=fun(E:Nat)=>(↑E:Int)+(1:Int);let zn:=(e.1=e.1/\zc=zc/\zh=zh/\True)/\True;True/\((ρ (za > (0:Int)))=φ->za=zb)/\((ρ (za > (0:Int)))=ψ->ze->((ρ (zf<(1:Int)))=φ->zg)/\((ρ (zf<(1:Int)))=ψ->ze->((ρ (zf > (6:Int)))=φ->zg)/\((ρ (zf > (6:Int)))=ψ->zi<=aG->((ρ ((↑zi:Int) > (36:Int)))=φ->zg)/\((ρ ((↑zi:Int) > (36:Int)))=ψ->(∃(x:Nat),(x<=zd/\∀(j:Nat),j<x->eO (nth aJ zc j)=(0:Int))/\((0:Int)=(↑x:Int)/\True)/\True)/\∀E:Nat,(E<=zd/\∀(j:Nat),j<E->eO (nth aJ zc j)=(0:Int))->ze->((ρ ((↑E:Int)<zf))=φ->((0:Int)<=(↑E:Int)/\(↑E:Int)<zf)/\True/\((ρ (zj E > (0:Int)))=φ->zj E=zb)/\((ρ (zj E > (0:Int)))=ψ->((ρ ((nth aJ zc E).2.1<(1:Int)))=φ->zk)/\((ρ ((nth aJ zc E).2.1<(1:Int)))=ψ->((ρ ((nth aJ zc E).2.1 > (1000000:Int)))=φ->zk)/\((ρ ((nth aJ zc E).2.1 > (1000000:Int)))=ψ->((ρ (zl E<(0:Int)))=φ->zk)/\((ρ (zl E<(0:Int)))=ψ->((ρ (zl E > (255:Int)))=φ->zk)/\((ρ (zl E > (255:Int)))=ψ->(16:Int)≠(0:Int)/\∀F:Int,F=j4 (zl E) (16:Int)->((ρ (F > (0:Int)))=φ->zk)/\((ρ (F > (0:Int)))=ψ->aF (↑E:Int)->aF (1:Int)->aF (zm E)/\∃(x':Nat),(x'<=zd/\∀(j:Nat),j<x'->eO (nth aJ zc j)=(0:Int))/\zd-x'<zd-E/\(zm E=(↑x':Int)/\True)/\zn)))))))/\((ρ ((↑E:Int)<zf))=ψ->(∃(x:Nat),(x<=zi/\∀(j:Nat),j<x->dY zd (nth aQ zh j)=(0:Int))/\((0:Int)=(↑x:Int)/\True)/\True)/\∀F:Nat,(F<=zi/\∀(j:Nat),j<F->dY zd (nth aQ zh j)=(0:Int))->zi<=aG->((ρ ((↑F:Int)<(↑zi:Int)))=φ->((0:Int)<=(↑F:Int)/\(↑F:Int)<(↑zi:Int))/\True/\((ρ ((nth aQ zh F).1<(0:Int)))=φ->zk)/\((ρ ((nth aQ zh F).1<(0:Int)))=ψ->ze->((ρ ((nth aQ zh F).1>=zf))=φ->zk)/\((ρ ((nth aQ zh F).1>=zf))=ψ->((ρ ((nth aQ zh F).2.1<(0:Int)))=φ->zk)/\((ρ ((nth aQ zh F).2.1<(0:Int)))=ψ->((ρ ((nth aQ zh F).2.1 > (39:Int)))=φ->zk)/\((ρ ((nth aQ zh F).2.1 > (39:Int)))=ψ->((!eW (nth aQ zh F).2.2.1)=φ->zk)/\((!eW (nth aQ zh F).2.2.1)=ψ->aF (↑F:Int)->aF (1:Int)->aF (zm F)/\∃(x':Nat),(x'<=zi/\∀(j:Nat),j<x'->dY zd (nth aQ zh j)=(0:Int))/\zi-x'<zi-F/\(zm F=(↑x':Int)/\True)/\zn))))))/\((ρ ((↑F:Int)<(↑zi:Int)))=ψ->(0:Int)=zb))))))) κ ?_
 dsimp -iota -proj -eta only;refine⟨dT,iL (fun h0=>((xA h0).symm)) (fun h0 h1=>iL (fun h2=>((nF (by assumption:aN e.1<=0) (.inl ω)).symm)) (fun h2 h3=>iL (fun h4=>((nF (by assumption:aN e.1<=0) (.inr (.inl ω))).symm)) (fun h4 h5=>iL (fun h6=>((nF (by assumption:aN e.1<=0) (.inr (.inr ω))).symm)) (fun h6=>⟨?a,fun E q_0 h7=>iL (fun h8=>⟨?b,dT,iL (fun h9=>(((gz (by assumption:aN e.1<=0) (eP ω ω ω) q_0.2 ω (Hg h9) ω)).symm)) (fun h9=>iL (fun h10=>(((gz (by assumption:aN e.1<=0) (eP ω ω ω) q_0.2 ω (mi h9 (.inl η)) δ)).symm)) (fun h10=>iL (fun h11=>(((gz (by assumption:aN e.1<=0) (eP ω ω ω) q_0.2 ω (mi h9 (.inr (.inl η))) δ)).symm)) (fun h11=>iL (fun h12=>(((gz (by assumption:aN e.1<=0) (eP ω ω ω) q_0.2 ω (mi h9 (.inr (.inr (.inl η)))) δ)).symm)) (fun h12=>iL (fun h13=>(((gz (by assumption:aN e.1<=0) (eP ω ω ω) q_0.2 ω (mi h9 (.inr (.inr (.inr (.inl η))))) δ)).symm)) (fun h13=>⟨θ,fun F q_1=>iL (fun h14=>(by have hb:=Aa h12 q_1;exact((gz (by assumption:aN e.1<=0) (eP ω ω ω) q_0.2 ω (mi h9 (.inr (.inr (.inr (.inr (by rw[hb]at h14;exact h14)))))) δ)).symm)) (fun h14 h15 h16=>⟨?c,(by have hb:=Aa h12 q_1;exact⟨E+1,⟨ω,jM q_0.2 (Fv h9 h10 h11 h12 h13 (by rw[hb]at h14;exact hQ h14 (Int.emod_nonneg _ δ)))⟩,ω,⟨ω,dT⟩,θ⟩)⟩)⟩)))))⟩) (fun h8=>⟨?d,fun F q_1 h9=>iL (fun h10=>⟨?e,dT,iL (fun h11=>(((gP (by assumption:aN e.1<=0) (eP ω ω ω) (fun j hj=>q_0.2 j ω) q_1.2 ω (mj (.inl η)))).symm)) (fun h11 h12=>iE (fun h13=>(((gP (by assumption:aN e.1<=0) (eP ω ω ω) (fun j hj=>q_0.2 j ω) q_1.2 ω (mj (.inr (.inl η))))).symm)) (fun h13=>iL (fun h14=>(((gP (by assumption:aN e.1<=0) (eP ω ω ω) (fun j hj=>q_0.2 j ω) q_1.2 ω (mj (.inr (.inr (.inl η)))))).symm)) (fun h14=>iL (fun h15=>(((gP (by assumption:aN e.1<=0) (eP ω ω ω) (fun j hj=>q_0.2 j ω) q_1.2 ω (mj (.inr (.inr (.inr (.inl η))))))).symm)) (fun h15=>iB (fun h16=>(((gP (by assumption:aN e.1<=0) (eP ω ω ω) (fun j hj=>q_0.2 j ω) q_1.2 ω (XC h16))).symm)) (fun h16 h17 h18=>⟨?f,(⟨F+1,⟨ω,jM q_1.2 (SW η η η η h16)⟩,ω,⟨ω,dT⟩,θ⟩)⟩)))))⟩) (fun h10=>((Ci (by assumption:aN e.1<=0) (eP ω ω ω) (fun j hj=>q_0.2 j ω) (fun j hj=>q_1.2 j ω)).symm))⟩)⟩))))⟩
 case a|d=>exact⟨0,⟨hE _,fun j hj=>absurd hj (ih _)⟩,⟨rfl,dT⟩,dT⟩
 case b|e=>omega
 case c|f=>simp only[aF,aG]at*;omega
def yw:aL:=bP [aC] [.int .i64] (fun _=>True) (fun e=>bF e)
def Jv:aW prog aE.eT aH 28 φ yw:=
 aI (bO (X:=aH) RO func28 κ (fun x=>Iu x) (fun x hw hp=>Ju x))
def Mz:List (FuncId×(Bool×aL)):=[(62,spZ0)]
def TV:bH prog aE aH Mz:=
 aM (aI sq) (bK bJ)
def MA(e:D aC):cP:=[
 (0,fun st=>{X:=Nat,inv:=fun i=>i<=gE e.2.1,bG:=fun i=>gE e.2.1-i,bB:=fun i=>[(4,sI i),(3,sS (iw e i))],keep:=[1,2]}),
 (2,fun st=>{X:=Nat,inv:=fun i=>i<=gE e.2.2.1,bG:=fun i=>gE e.2.2.1-i,bB:=fun i=>[(5,sI i),(3,sS (gT e i))],keep:=[1,2]})]
def Nj(e:D aC)(hp:(fun e=>bF e=0) e):(cH aE Mz f31 (MA e) [aC] [.str] (fun x y=>y=(fun e=>dQ e) x) e).holds:=by
 refine ζ (p:=let za:=[(32:UInt8)];let zb:=gE za;let zc:=e.2.1;let zd:=gE zc;let ze:=e.2.2.1;let zf:=gE ze;let zg:=hI (↑zd:Int);let zh:=e.1++za++zg;let zi:=hI (↑zf:Int);let zj:=fun(E:Nat)=>0<=(↑E:Int)/\(↑E:Int)<(↑zd:Int);let zk:=fun(E:Nat)=>iw e E++za++(nth aJ zc E).1;let zl:=fun(E:Nat)=>hI (nth aJ zc E).2.1;let zm:=fun(E:Nat)=>zk E++za++zl E++za;let zn:=fun(E:Nat)=>hI (nth aJ zc E).2.2.1;let zo:=fun(E:Nat)=>(↑E:Int)+1;let zp:=(e.1=e.1/\zc=zc/\ze=ze/\True)/\True;let zq:=fun(F:Nat)=>0<=(↑F:Int)/\(↑F:Int)<(↑zf:Int);let zr:=fun(F:Nat)=>gT e F++za++hI (nth aQ ze F).1;let zs:=fun(F:Nat)=>zr F++za++hI (nth aQ ze F).2.1;let zt:=fun(F:Nat)=>hI (nth aQ ze F).2.2.1;gE e.1+zb<=aG/\(zd<=aG->zf<=aG->True/\gE (e.1++za)+gE zg<=aG/\gE zh+zb<=aG/\True/\gE (zh++za)+gE zi<=aG/\(∃(x:Nat),x<=zd/\(0=(↑x:Int)/\zh++za++zi=iw e x/\True)/\True)/\∀E:Nat,E<=zd->zd<=aG->((ρ ((↑E:Int)<(↑zd:Int)))=φ->gE (iw e E)+zb<=aG/\zj E/\gE (iw e E++za)+gE (nth aJ zc E).1<=aG/\gE (zk E)+zb<=aG/\zj E/\zj E/\True/\gE (zk E++za)+gE (zl E)<=aG/\gE (zk E++za++zl E)+zb<=aG/\True/\gE (zm E)+gE (zn E)<=aG/\(aF (↑E:Int)->aF 1->aF (zo E)/\∃(x':Nat),x'<=zd/\zd-x'<zd-E/\(zo E=(↑x':Int)/\zm E++zn E=iw e x'/\True)/\zp))/\((ρ ((↑E:Int)<(↑zd:Int)))=ψ->(∃(x:Nat),x<=zf/\(0=(↑x:Int)/\iw e E=gT e x/\True)/\True)/\∀F:Nat,F<=zf->zf<=aG->((ρ ((↑F:Int)<(↑zf:Int)))=φ->gE (gT e F)+zb<=aG/\zq F/\zq F/\zq F/\True/\gE (gT e F++za)+gE (hI (nth aQ ze F).1)<=aG/\gE (zr F)+zb<=aG/\True/\gE (zr F++za)+gE (hI (nth aQ ze F).2.1)<=aG/\gE (zs F)+zb<=aG/\True/\gE (zs F++za)+gE (zt F)<=aG/\(aF (↑F:Int)->aF 1->aF (zo F)/\∃(x':Nat),x'<=zf/\zf-x'<zf-F/\(zo F=(↑x':Int)/\zs F++za++zt F=gT e x'/\True)/\zp))/\((ρ ((↑F:Int)<(↑zf:Int)))=ψ->gE (gT e F)+gE [(10:UInt8)]<=aG/\gT e F++[(10:UInt8)]=dQ e)))) κ ?_
 dsimp -iota -proj -eta only;refine⟨?a,fun h0 h1=>⟨dT,?b,?c,dT,?d,(⟨0,ω,⟨rfl,(Hi e).symm,dT⟩,dT⟩),fun E q_0 h2=>iL (fun h3=>⟨?e,?f,?g,?h,?i,?j,dT,?k,?l,dT,?m,fun h4 h5=>⟨?n,(⟨E+1,ω,ω,⟨ω,aji ω,dT⟩,θ⟩)⟩⟩) (fun h3=>⟨(⟨0,ω,⟨rfl,by rw[Hj,show E=e.2.1.length by omega],dT⟩,dT⟩),fun F q_1 h4=>iL (fun h5=>⟨?o,?p,?q,?r,dT,?s,?t,dT,?u,?v,dT,?w,fun h6 h7=>⟨?x,(⟨F+1,ω,ω,⟨ω,ajj ω,dT⟩,θ⟩)⟩⟩) (fun h5=>⟨(by have a:=(kZ hp).B3 F;simp only[hD,hK,hL,aG];omega),(by rw[show F=e.2.2.1.length by omega];rfl)⟩)⟩)⟩⟩
 case a|b|c|d=>have a:=(kZ hp).lens;simp only[hD,hK,hL,aG];omega
 case e|g|h|k|l|m=>have a:=(kZ hp).agI (i:=E) ω;simp only[hD,hK,hL,aG];omega
 case f|i|j|p|q|r=>omega
 case n|x=>simp only[aF,aG]at*;omega
 case o|s|t|u|v|w=>have a:=(kZ hp).agJ (i:=F) ω;simp only[hD,hK,hL,aG];omega
def AV:aL:=bP [aC] [.str] (fun e=>bF e=0) (fun e=>dQ e)
def Nk:aW prog aE.eT aH 31 φ AV:=
 aI (bO (X:=aH) TV func31 κ (fun x=>MA x) (fun x hw hp=>Nj x hp))
@[reducible] def jK:List Ob:=[.box 43 [.d (.slice aC)]]
def VQ:List (FuncId×(Bool×aL)):=[(28,(φ,yw))]
def ac2:bH prog aE aH VQ:=
 aM Jv (bK bJ)
def VS(e:D aC)(o:List (D aC)):cP:=[
 (0,fun st=>{X:=Nat,inv:=fun i=>i<=o.length/\∀j,j<i->(nth aC o j).1≠e.1,bG:=fun i=>o.length-i,bB:=fun i=>[(7,sI i)],keep:=[0,3,6]})]
def RP:List (Alt jK [.obj 0,.d aC]):=[{bQ:=jK,res:=[.d (.int .i64)],out:=fun a x=>(((lT x.1.1 a.1).1,()),()),ret:=fun a x=>((lT x.1.1 a.1).2,())}]
def ait(e:D aC)(o:List (D aC))(hp:(fun _ x=>x.1.1.length<=1000000) (e,()) ((o,()),())):(cE (gy aE [5000000]) VQ f53 (VS e o) jK [.obj 0,.d aC] RP (e,()) ((o,()),())).holds:=by
 refine ζ (p:=let za:=(((lT o e).1,()),());let zb:=((o,()),())=za;let zc:=((lT o e).2,());let zd:=gE o;let ze:=fun(E:Nat)=>0<=(↑E:Int)/\(↑E:Int)<(↑zd:Int);let zf:=(0,())=zc;True/\((ρ (bF e > 0))=φ->True/\zb/\(bF e,())=zc)/\((ρ (bF e > 0))=ψ->zd<=1000000000/\(∃(x:Nat),(x<=zd/\∀(j:Nat),j<x->(nth aC o j).1≠e.1)/\(0=(↑x:Int)/\True)/\True)/\∀E:Nat,(E<=zd/\∀(j:Nat),j<E->(nth aC o j).1≠e.1)->zd<=aG->((ρ ((↑E:Int)<(↑zd:Int)))=φ->ze E/\E<zd/\(((nth aC o E).1 == e.1)=φ->ze E/\E<zd/\True/\((ix o E e,()),())=za/\zf)/\(((nth aC o E).1 == e.1)=ψ->aF (↑E:Int)->aF 1->aF ((↑E:Int)+1)/\∃(x':Nat),(x'<=zd/\∀(j:Nat),j<x'->(nth aC o j).1≠e.1)/\zd-x'<zd-E/\((↑E:Int)+1=(↑x':Int)/\True)/\o=o/\(e.1=e.1/\e.2.1=e.2.1/\e.2.2.1=e.2.2.1/\True)/\(o=o/\True)/\True))/\((ρ ((↑E:Int)<(↑zd:Int)))=ψ->zd<=aG->(((↑zd:Int) == 3)=φ->True/\zb/\(2,())=zc)/\(((↑zd:Int) == 3)=ψ->(o=o/\zd+gE [e]<=1000000000)/\True/\((o++[e],()),())=za/\zf)))) κ ?_
 dsimp -iota -proj -eta only;dsimp only at hp;refine⟨dT,iL (fun h0=>(by rw[Hx h0];exact⟨dT,rfl,rfl⟩)) (fun h0=>⟨?a,(⟨0,⟨hE _,fun j hj=>absurd hj (ih _)⟩,⟨rfl,dT⟩,dT⟩),fun E q_0 h1=>iL (fun h2=>⟨?b,?c,iQ (fun h3=>⟨?d,?e,(by rw[P1 ω ω q_0.2 h3];exact⟨dT,rfl,rfl⟩)⟩) (fun h3 h4 h5=>⟨(by simp only[aF,aG]at*;omega),(⟨E+1,⟨ω,jM q_0.2 h3⟩,ω,⟨ω,dT⟩,θ⟩)⟩)⟩) (fun h2 h3=>iQ (fun h4=>(by rw[K7 ω (fun j hj=>q_0.2 j ω) h4];exact⟨dT,rfl,rfl⟩)) (fun h4=>⟨(by have:o.length<=1000000:=hp;exact⟨rfl,by rw[hA];omega⟩),(by rw[FB ω (fun j hj=>q_0.2 j ω) h4];exact⟨dT,rfl,rfl⟩)⟩))⟩)⟩
 case a|b|c|d|e=>omega
def VT:aL:=bU jK [.obj 0,.d aC] (fun _ x=>x.1.1.length<=1000000) RP
def aiu:aW prog aE.eT aH 53 ψ VT:=
 bA (B:=(gy aE [5000000])) (X:=aH) (bH.hint (l:=[5000000]) ac2) func53 κ (fun(a:CD [.obj 0,.d aC]) (x:PD jK)=>VS a.1 x.1.1) (fun a x hw hp=>ait a.1 x.1.1 hp)
def RQ(s:aA)(o:List (D aC)):cP:=[
 (0,fun st=>{X:=Nat,inv:=fun i=>i<=o.length,bG:=fun i=>o.length-i,bB:=fun i=>[(6,sI i),(5,.s (.one (.app aC (jw (o.take i) s) (aS st 5))))],aK:=fun i=>[(aS st 5,.tok aC (jw (o.take i) s))],keep:=[0,1,4],dU:=[aS st 5]})]
def MB:List (Alt jK [.obj 0,.d .str]):=[{bQ:=jK,res:=[.d (.int .i64)],out:=fun a x=>(((ij x.1.1 a.1).1,()),()),ret:=fun a x=>((ij x.1.1 a.1).2,())}]
def agm(s:aA)(o:List (D aC))(hp:(fun _ x=>x.1.1.length<=1000000) (s,()) ((o,()),())):(cE (gy aE [35]) [] f19 (RQ s o) jK [.obj 0,.d .str] MB (s,()) ((o,()),())).holds:=by
 refine ζ (p:=let za:=gE o;let zb:=fun(E:Nat)=>0<=(↑E:Int)/\(↑E:Int)<(↑za:Int);let zc:=fun(E:Nat)=>jw (hz E o) s;let zd:=fun(E:Nat)=>(↑E:Int)+1;let ze:=fun(E:Nat)=>zc E++[nth aC o E];let zf:=(o=o/\True)/\True;let zg:=(((ij o s).1,()),());let zh:=((ij o s).2,());(∃(x:Nat),x<=za/\(0=(↑x:Int)/\@hq (aA×List (aA×Int×Int×Unit)×List (Int×Int×Int×Unit)×Unit)=jw (hz x o) s/\True)/\@hq (aA×List (aA×Int×Int×Unit)×List (Int×Int×Int×Unit)×Unit)=jw (hz x o) s/\True)/\∀E:Nat,E<=za->za<=aG->((ρ ((↑E:Int)<(↑za:Int)))=φ->zb E/\((!(nth aC o E).1 == s)=φ->zb E/\(zc E=zc E/\gE (zc E)+gE [nth aC o E]<=1000000000)/\(aF (↑E:Int)->aF 1->aF (zd E)/\∃(x':Nat),x'<=za/\za-x'<za-E/\(zd E=(↑x':Int)/\ze E=jw (hz x' o) s/\True)/\ze E=jw (hz x' o) s/\zf))/\((!(nth aC o E).1 == s)=ψ->aF (↑E:Int)->aF 1->aF (zd E)/\∃(x':Nat),x'<=za/\za-x'<za-E/\(zd E=(↑x':Int)/\zc E=jw (hz x' o) s/\True)/\zc E=jw (hz x' o) s/\zf))/\((ρ ((↑E:Int)<(↑za:Int)))=ψ->gE (zc E)<=aG->za<=aG->(((↑(gE (zc E)):Int) == (↑za:Int))=φ->True/\((o,()),())=zg/\(5,())=zh)/\(((↑(gE (zc E)):Int) == (↑za:Int))=ψ->True/\((zc E,()),())=zg/\(0,())=zh))) κ ?_
 dsimp -iota -proj -eta only;dsimp only at hp;refine⟨(⟨0,hE _,⟨rfl,rfl,dT⟩,rfl,dT⟩),fun E q_0 h0=>iL (fun h1=>⟨ω,⟨fun h2=>⟨?a,?b,fun h3 h4=>⟨?c,?d⟩⟩,fun h2 h3 h4=>⟨?e,?f⟩⟩⟩) (fun h1 h2 h3=>iQ (fun h4=>(by rw[hT ω]at h4;rw[XJ h4];exact⟨dT,rfl,rfl⟩)) (fun h4=>(by rw[hT ω]at*;rw[XK h4];exact⟨dT,rfl,rfl⟩)))⟩
 case a=>
  simp only[bl,reduceCtorEq]at h2;omega
 case b=>
  simp only[bl,reduceCtorEq]at h2;refine⟨rfl,?_⟩;have h1:=aaW (o.take E) s;rw[hR]at h1;rw[hA];have:o.length<=1000000:=hp;omega
 case c|e=>
  simp only[bl,reduceCtorEq]at h2;simp only[aF,aG]at*;omega
 case d=>
  simp only[bl,reduceCtorEq]at h2;exact⟨E+1,ω,ω,⟨ω,(Hy ω h2).symm,dT⟩,(Hy ω h2).symm,θ⟩
 case f=>
  simp only[bl,reduceCtorEq]at h2;exact⟨E+1,ω,ω,⟨ω,(Hz ω h2).symm,dT⟩,(Hz ω h2).symm,θ⟩
def RR:aL:=bU jK [.obj 0,.d .str] (fun _ x=>x.1.1.length<=1000000) MB
def agn:aW prog aE.eT aH 19 ψ RR:=
 bA (B:=(gy aE [35])) (X:=aH) (bH.hint (l:=[35]) (bK bJ)) func19 κ (fun(a:CD [.obj 0,.d .str]) (x:PD jK)=>RQ a.1 x.1.1) (fun a x hw hp=>agm a.1 x.1.1 hp)
def VU(s:aA)(o:List (D aC)):cP:=[
 (0,fun st=>{X:=Nat,inv:=fun i=>i<=o.length/\∀j,j<i->(nth aC o j).1≠s,bG:=fun i=>o.length-i,bB:=fun i=>[(6,sI i)],keep:=[0,1,4]})]
def RT:List (Alt jK [.obj 0,.d .str]):=[{bQ:=jK,res:=[.d aC,.d .bool],out:=fun _ x=>x,ret:=fun a x=>((cN x.1.1 a.1).1,(cN x.1.1 a.1).2,())}]
def aiv(s:aA)(o:List (D aC)):(cE aE [] f57 (VU s o) jK [.obj 0,.d .str] RT (s,()) ((o,()),())).holds:=by
 refine ζ (p:=let za:=gE o;let zb:=fun(E:Nat)=>0<=(↑E:Int)/\(↑E:Int)<(↑za:Int);let zc:=((o,()),());let zd:=((cN o s).1,(cN o s).2,());let ze:=@hq (aA×Int×Int×Unit)=@hq (aA×Int×Int×Unit);let zf:=@hq (Int×Int×Int×Unit)=@hq (Int×Int×Int×Unit);(∃(x:Nat),(x<=za/\∀(j:Nat),j<x->(nth aC o j).1≠s)/\(0=(↑x:Int)/\True)/\True)/\∀E:Nat,(E<=za/\∀(j:Nat),j<E->(nth aC o j).1≠s)->za<=aG->((ρ ((↑E:Int)<(↑za:Int)))=φ->zb E/\(((nth aC o E).1 == s)=φ->zb E/\True/\zc=zc/\(nth aC o E,φ,())=zd)/\(((nth aC o E).1 == s)=ψ->aF (↑E:Int)->aF 1->aF ((↑E:Int)+1)/\∃(x':Nat),(x'<=za/\∀(j:Nat),j<x'->(nth aC o j).1≠s)/\za-x'<za-E/\((↑E:Int)+1=(↑x':Int)/\True)/\(@hq UInt8=@hq UInt8/\ze/\zf/\True)/\zf/\ze/\(o=o/\True)/\True))/\((ρ ((↑E:Int)<(↑za:Int)))=ψ->True/\zc=zc/\(([],[],[],()),ψ,())=zd)) κ ?_
 dsimp -iota -proj -eta only;refine⟨(⟨0,⟨hE _,fun j hj=>absurd hj (ih _)⟩,⟨rfl,dT⟩,dT⟩),fun E q_0 h0=>iL (fun h1=>⟨?a,iQ (fun h2=>⟨?b,?c⟩) (fun h2 h3 h4=>⟨(by simp only[aF,aG]at*;omega),(⟨E+1,⟨ω,jM q_0.2 h2⟩,ω,⟨ω,dT⟩,θ⟩)⟩)⟩) (fun h1=>(by rw[P0 (by rw[si fun j hj=>q_0.2 j ω];decide)];exact⟨dT,rfl,rfl⟩))⟩
 case a|b=>omega
 case c=>
  have hf:=Ag ω q_0.2 h2;rw[Jj (by rw[hf];omega),hf];exact⟨dT,rfl,rfl⟩
def Jw:aL:=bU jK [.obj 0,.d .str] (fun _ _=>True) RT
def VV:aW prog aE.eT aH 57 ψ Jw:=
 bA (X:=aH) (bK bJ) func57 κ (fun(a:CD [.obj 0,.d .str]) (x:PD jK)=>VU a.1 x.1.1) (fun a x hw hp=>aiv a.1 x.1.1)
def MC(o:List (D aC)):cP:=[
 (0,fun st=>{X:=Nat,inv:=fun i=>i<=o.length,bG:=fun i=>o.length-i,bB:=fun i=>[(4,sI i),(3,.s (.one (.app .str (eJ (o.take i)) (aS st 3))))],aK:=fun i=>[(aS st 3,.tok .str (eJ (o.take i)))],keep:=[0,2],dU:=[aS st 3]})]
def Iv:List (Alt jK [.obj 0]):=[{bQ:=jK,res:=[.d (.slice .str)],out:=fun _ x=>x,ret:=fun _ x=>(eJ x.1.1,())}]
def ac3(o:List (D aC))(hp:(fun _ x=>x.1.1.length<=1000000) () ((o,()),())):(cE (gy aE [24]) [] f25 (MC o) jK [.obj 0] Iv () ((o,()),())).holds:=by
 refine ζ (p:=let za:=gE o;let zb:=fun(E:Nat)=>eJ (hz E o);let zc:=fun(E:Nat)=>zb E++[(nth aC o E).1];let zd:=((o,()),());(∃(x:Nat),x<=za/\(0=(↑x:Int)/\@hq aA=eJ (hz x o)/\True)/\@hq aA=eJ (hz x o)/\True)/\∀E:Nat,E<=za->za<=aG->((ρ ((↑E:Int)<(↑za:Int)))=φ->(0<=(↑E:Int)/\(↑E:Int)<(↑za:Int))/\(zb E=zb E/\gE (zb E)+gE [(nth aC o E).1]<=1000000000)/\(aF (↑E:Int)->aF 1->aF ((↑E:Int)+1)/\∃(x':Nat),x'<=za/\za-x'<za-E/\((↑E:Int)+1=(↑x':Int)/\zc E=eJ (hz x' o)/\True)/\zc E=eJ (hz x' o)/\@hq aA=@hq aA/\(o=o/\True)/\True))/\((ρ ((↑E:Int)<(↑za:Int)))=ψ->True/\zd=zd/\(zb E,())=(eJ o,()))) κ ?_
 dsimp -iota -proj -eta only;dsimp only at hp;refine⟨(⟨0,hE _,⟨rfl,rfl,dT⟩,rfl,dT⟩),fun E q_0 h0=>iL (fun h1=>⟨ω,?a,fun h2 h3=>⟨(by simp only[aF,aG]at*;omega),(⟨E+1,ω,ω,⟨ω,tG ω,dT⟩,tG ω,θ⟩)⟩⟩) (fun h1=>(by rw[hT ω];exact⟨dT,rfl,rfl⟩))⟩
 case a=>refine⟨rfl,?_⟩;rw[Hw,hR,hA];have:o.length<=1000000:=hp;omega
def MD:aL:=bU jK [.obj 0] (fun _ x=>x.1.1.length<=1000000) Iv
def ac4:aW prog aE.eT aH 25 ψ MD:=
 bA (B:=(gy aE [24])) (X:=aH) (bH.hint (l:=[24]) (bK bJ)) func25 κ (fun(a:CD [.obj 0]) (x:PD jK)=>MC x.1.1) (fun a x hw hp=>ac3 x.1.1 hp)
@[reducible] def cI:List Ob:=[.box 39 [.d (.slice dD),.d (.int .i64)]]
def RU(s:aA)(f:RS):cP:=[(0,fun st=>{X:=Nat,inv:=fun i=>i<=f.1.length/\∀j,j<i->¬(nth dD f.1 j).1=s,bG:=fun i=>f.1.length-i,bB:=fun i=>[(7,sI i)],keep:=[0,1]})]
def ME:List (Alt cI [.obj 0,.d .str]):=[{bQ:=cI,res:=[.d .str,.d (.int .i64),.d (.int .i64)],out:=fun _ x=>x,ret:=fun a x=>((bM x.1.1 a.1).1,(bM x.1.1 a.1).2.1,(bM x.1.1 a.1).2.2,())}]
def ago(s:aA)(f:RS):(cE aE [] f51 (RU s f) cI [.obj 0,.d .str] ME (s,()) (f,())).holds:=by
 refine ζ (p:=let za:=gE f.1;let zb:=fun(E:Nat)=>(↑E:Int)<(↑(gE f.1):Int);let zc:=fun(E:Nat)=>0<=(↑E:Int)/\zb E;let zd:=(f,())=(f,());let ze:=bM f.1 s;let zf:=(ze.1,ze.2.1,ze.2.2,());(∃(x:Nat),(x<=za/\∀(j:Nat),j<x->¬(nth dD f.1 j).1=s)/\(0=(↑x:Int)/\True)/\True)/\∀E:Nat,(E<=za/\∀(j:Nat),j<E->¬(nth dD f.1 j).1=s)->gE f.1<=aG->((ρ (zb E))=φ->zc E/\(((nth dD f.1 E).1 == s)=φ->zc E/\zc E/\True/\zd/\((nth dD f.1 E).2.1,(nth dD f.1 E).2.2.1,0,())=zf)/\(((nth dD f.1 E).1 == s)=ψ->aF (↑E:Int)->aF 1->aF ((↑E:Int)+1)/\∃(x':Nat),(x'<=za/\∀(j:Nat),j<x'->¬(nth dD f.1 j).1=s)/\za-x'<za-E/\((↑E:Int)+1=(↑x':Int)/\True)/\(f.1=f.1/\f.2.1=f.2.1/\True)/\True))/\((ρ (zb E))=ψ->True/\zd/\([],0,5,())=zf)) κ ?_
 dsimp -iota -proj -eta only;refine⟨(⟨0,⟨ω,fun j hj=>by omega⟩,⟨rfl,dT⟩,dT⟩),fun E q_0 h0=>iL (fun h1=>⟨?a,iQ (fun h2=>⟨?b,?c,(by rw[OT q_0.2 ω h2];exact⟨dT,rfl,rfl⟩)⟩) (fun h2 h3 h4=>⟨(by simp only[aF,aG]at*;omega),(⟨E+1,⟨ω,Kb q_0.2 h2⟩,ω,⟨ω,dT⟩,θ⟩)⟩)⟩) (fun h1=>(by rw[ZW fun j hj=>q_0.2 j ω];exact⟨dT,rfl,rfl⟩))⟩
 case a|b|c=>omega
def tc:aL:=bU cI [.obj 0,.d .str] (fun _ _=>True) ME
def wc:aW prog aE.eT aH 51 ψ tc:=
 bA (X:=aH) (bK bJ) func51 κ (fun(a:CD [.obj 0,.d .str]) (x:PD cI)=>RU a.1 x.1) (fun a x hw hp=>ago a.1 x.1)
def RV:List (FuncId×(Bool×aL)):=[(49,(φ,jD)),(50,(φ,fO)),(156,(φ,kG)),(83,(φ,jq)),(11,(φ,lk)),(51,(ψ,tc))]
def YS:bH prog aE aH RV:=
 aM kx (aM gA (aM lj (aM jE (aM lO (aM wc (bK bJ))))))
def MF(s:aA)(t:aA)(f:RS):cP:=[(0,fun st=>{X:=Nat×Bool×List (D dD),inv:=fun x=>x.1<=f.1.length/\dN f.1 s (s,t,f.2.1+1,()) x.1 x.2.1 x.2.2,bG:=fun x=>f.1.length-x.1,bB:=fun x=>[(13,sI x.1),(12,sB x.2.1),(11,.s (.one (.app dD x.2.2 (aS st 11))))],aK:=fun x=>[(aS st 11,.tok dD x.2.2)],keep:=[0,1,2,6],dU:=[aS st 11]})]
def Iw:List (Alt cI [.obj 0,.d .str,.d .str]):=[{bQ:=cI,res:=[.d (.int .i64)],out:=fun a x=>((jk x.1 a.1 a.2.1).1,()),ret:=fun a x=>((jk x.1 a.1 a.2.1).2,())}]
def ac5(s:aA)(t:aA)(f:RS)(hp:(fun _ x=>x.1.1.length<=6/\0<=x.1.2.1/\x.1.2.1<=1000000) (s,t,()) (f,())):(cE aE RV f13 (MF s t f) cI [.obj 0,.d .str,.d .str] Iw (s,t,()) (f,())).holds:=by
 refine ζ (p:=let za:=jk f s t;let zb:=(za.1,());let zc:=(f,())=zb;let zd:=(za.2,());let ze:=gE f.1<=aG;let zf:=(↑(gE f.1):Int);let zg:=True/\zc/\(8,())=zd;let zh:=aF 1;let zi:=f.2.1+1;let zj:=Nat×Bool×List (aA×aA×Int×Unit);let zk:=gE f.1;let zl:=(s,t,f.2.1+1,());let zm:=fun(E:Nat×Bool×List (aA×aA×Int×Unit))=>0<=(↑E.1:Int)/\(↑E.1:Int)<zf;let zn:=fun(E:Nat×Bool×List (aA×aA×Int×Unit))=>(nth dD f.1 E.1).1;let zo:=(zi,());let zp:=[(s,t,zo)];let zq:=fun(E:Nat×Bool×List (aA×aA×Int×Unit))=>E.2.2=E.2.2/\gE E.2.2+gE zp<=1000000000;let zr:=fun(E:Nat×Bool×List (aA×aA×Int×Unit))=>E.2.2++zp;let zs:=fun(E:Nat×Bool×List (aA×aA×Int×Unit))=>[nth dD f.1 E.1];let zt:=fun(E:Nat×Bool×List (aA×aA×Int×Unit))=>aF (↑E.1:Int);let zu:=fun(E:Nat×Bool×List (aA×aA×Int×Unit))=>(↑E.1:Int)+1;let zv:=(f.1=f.1/\zi=zi/\True)/\True;let zw:=fun(E:Nat×Bool×List (aA×aA×Int×Unit))=>zm E/\((!zn E == s)=φ->zm E/\(E.2.2=E.2.2/\gE E.2.2+gE (zs E)<=1000000000)/\(zt E->zh->aF (zu E)/\∃(x':zj),(hg x'<=zk/\dN f.1 s zl (hg x') (gN x').1 (gN x').2)/\zk-hg x'<zk-E.1/\(zu E=(↑(hg x'):Int)/\E.2.1=(gN x').1/\E.2.2++zs E=(gN x').2/\True)/\E.2.2++zs E=(gN x').2/\zv))/\((!zn E == s)=ψ->zt E->zh->aF (zu E)/\∃(x':zj),(hg x'<=zk/\dN f.1 s zl (hg x') (gN x').1 (gN x').2)/\zk-hg x'<zk-E.1/\(zu E=(↑(hg x'):Int)/\E.2.1=(gN x').1/\E.2.2=(gN x').2/\True)/\E.2.2=(gN x').2/\zv);let zx:=(0,())=zd;let zy:=((f.2.1 == 1000000)=φ->zg)/\((f.2.1 == 1000000)=ψ->aF f.2.1->zh->aF zi/\(∃(x:zj),(hg x<=zk/\dN f.1 s zl (hg x) (gN x).1 (gN x).2)/\(0=(↑(hg x):Int)/\ψ=(gN x).1/\@hq (aA×aA×Int×Unit)=(gN x).2/\True)/\@hq (aA×aA×Int×Unit)=(gN x).2/\True)/\∀E:Nat×Bool×List (aA×aA×Int×Unit),E.1<=zk/\dN f.1 s zl E.1 E.2.1 E.2.2->ze->((ρ ((↑E.1:Int)<zf))=φ->((!E.2.1)=φ->zm E/\((Op.bytesLess s (zn E) || s == zn E)=φ->zq E/\zm E/\((!zn E == s)=φ->zm E/\(zr E=zr E/\gE (zr E)+gE (zs E)<=1000000000)/\(zt E->zh->aF (zu E)/\∃(x':zj),(hg x'<=zk/\dN f.1 s zl (hg x') (gN x').1 (gN x').2)/\zk-hg x'<zk-E.1/\(zu E=(↑(hg x'):Int)/\φ=(gN x').1/\zr E++zs E=(gN x').2/\True)/\zr E++zs E=(gN x').2/\zv))/\((!zn E == s)=ψ->zt E->zh->aF (zu E)/\∃(x':zj),(hg x'<=zk/\dN f.1 s zl (hg x') (gN x').1 (gN x').2)/\zk-hg x'<zk-E.1/\(zu E=(↑(hg x'):Int)/\φ=(gN x').1/\zr E=(gN x').2/\True)/\zr E=(gN x').2/\zv))/\((Op.bytesLess s (zn E) || s == zn E)=ψ->zw E))/\((!E.2.1)=ψ->zw E))/\((ρ ((↑E.1:Int)<zf))=ψ->((!E.2.1)=φ->zq E/\True/\((zr E,zo),())=zb/\zx)/\((!E.2.1)=ψ->True/\((E.2.2,zo),())=zb/\zx)));True/\((ρ (aN s > 0))=φ->True/\zc/\(aN s,())=zd)/\((ρ (aN s > 0))=ψ->gE t<=aG->((ρ ((↑(gE t):Int) > 1200))=φ->True/\zc/\(2,())=zd)/\((ρ ((↑(gE t):Int) > 1200))=ψ->True/\(True->((ρ ((bM f.1 s).2.2 > 0))=φ->ze->((zf == 6)=φ->zg)/\((zf == 6)=ψ->zy))/\((ρ ((bM f.1 s).2.2 > 0))=ψ->zy))))) κ ?_
 dsimp -iota -proj -eta only;dsimp only at hp;refine⟨dT,iL (fun h0=>(by rw[Sy ω];exact⟨dT,rfl,rfl⟩)) (fun h0 h1=>iL (fun h2 =>?a) (fun h2=>⟨dT,fun h3=>iL (fun h4 h5=>iQ (fun h6 =>?b) (fun h6=>iQ (fun h7 =>?c) (fun h7 h8 h9=>⟨?d,?e,fun E q_0 h10=>iL (fun h11=>iB (fun h12=>⟨?f,⟨fun h13=>⟨?g,?h,⟨fun h14=>⟨?i,?j,fun h15 h16=>⟨?k,?l⟩⟩,fun h14 h15 h16=>⟨?m,?n⟩⟩⟩,fun h13=>⟨?o,⟨fun h14=>⟨?p,?q,fun h15 h16=>⟨?r,?s⟩⟩,fun h14 h15 h16=>⟨?t,?u⟩⟩⟩⟩⟩) (fun h12=>⟨?v,⟨fun h13=>⟨?w,?x,fun h14 h15=>⟨?y,?z⟩⟩,fun h13 h14 h15=>⟨?a0,?a1⟩⟩⟩)) (fun h11=>iB (fun h12=>⟨?a2,?a3⟩) (fun h12 =>?a4))⟩))) (fun h4=>iQ (fun h5 =>?a5) (fun h5 h6 h7=>⟨?a6,?a7,fun E q_0 h8=>iL (fun h9=>iB (fun h10=>⟨?a8,⟨fun h11=>⟨?a9,?aa,⟨fun h12=>⟨?ab,?ac,fun h13 h14=>⟨?ad,?ae⟩⟩,fun h12 h13 h14=>⟨?af,?ag⟩⟩⟩,fun h11=>⟨?ah,⟨fun h12=>⟨?ai,?aj,fun h13 h14=>⟨?ak,?al⟩⟩,fun h12 h13 h14=>⟨?am,?an⟩⟩⟩⟩⟩) (fun h10=>⟨?ao,⟨fun h11=>⟨?ap,?aq,fun h12 h13=>⟨?ar,?au⟩⟩,fun h11 h12 h13=>⟨?av,?aw⟩⟩⟩)) (fun h9=>iB (fun h10=>⟨?ax,?ay⟩) (fun h10 =>?az))⟩))⟩))⟩
 case a=>
  have hnn:=cO s;have hn0:aN s=0:=ω;rw[Sz hn0 ω];exact⟨dT,rfl,rfl⟩
 case b|c|a5=>
  have hnn:=cO s;have hn0:aN s=0:=ω;rw[SA hn0 ω ω];exact⟨dT,rfl,rfl⟩
 case d|a6=>simp only[aF,aG]at*;omega
 case e|a7=>exact⟨(0,ψ,[]),⟨ω,dN.start _ _ _⟩,⟨rfl,rfl,rfl,dT⟩,rfl,dT⟩
 case f|v|a8|ao=>omega
 case g|x=>
  simp only[bl,reduceCtorEq]at h13;have:=q_0.2.2.2.1;exact⟨rfl,by simp only[hA];omega⟩
 case h|o|w=>
  simp only[bl,reduceCtorEq]at h13;omega
 case i|p=>
  simp only[bl,reduceCtorEq]at h13 h14;omega
 case j=>
  simp only[bl,reduceCtorEq]at h13 h14;have:=q_0.2.2.2.1;exact⟨rfl,by simp only[hD,hA];omega⟩
 case k|m|r|t=>
  simp only[bl,reduceCtorEq]at h13 h14;simp only[aF,aG]at*;omega
 case l=>
  simp only[bl,reduceCtorEq]at h13 h14;have hl:E.2.1=ψ:=η;have hv:dN f.1 s (s,t,f.2.1+1,()) E.1 ψ E.2.2:=(by have:=q_0.2;rwa [hl]at this);exact⟨(E.1+1,φ,_),⟨ω,hv.put ω (by simp_all) η⟩,by simp only;omega,⟨by simp only;omega,rfl,rfl,dT⟩,rfl,θ⟩
 case n=>
  simp only[bl,reduceCtorEq]at h13 h14;have hl:E.2.1=ψ:=η;have hv:dN f.1 s (s,t,f.2.1+1,()) E.1 ψ E.2.2:=(by have:=q_0.2;rwa [hl]at this);exact⟨(E.1+1,φ,_),⟨ω,hv.Uy ω (by simp_all) η⟩,by simp only;omega,⟨by simp only;omega,rfl,rfl,dT⟩,rfl,θ⟩
 case q=>
  simp only[bl,reduceCtorEq]at h13 h14;have:=q_0.2.2.2.1;exact⟨rfl,by simp only[hA];omega⟩
 case s=>
  simp only[bl,reduceCtorEq]at h13 h14;have hl:E.2.1=ψ:=η;have hv:dN f.1 s (s,t,f.2.1+1,()) E.1 ψ E.2.2:=(by have:=q_0.2;rwa [hl]at this);exact⟨(E.1+1,ψ,_),⟨ω,hv.low ω (by simp_all)⟩,by simp only;omega,⟨by simp only;omega,hl,rfl,dT⟩,rfl,θ⟩
 case u=>
  simp only[bl,reduceCtorEq]at h13 h14;simp_all
 case y|a0=>
  simp only[bl,reduceCtorEq]at h13;simp only[aF,aG]at*;omega
 case z=>
  simp only[bl,reduceCtorEq]at h13;have hl:E.2.1=φ:=η;have hv:dN f.1 s (s,t,f.2.1+1,()) E.1 φ E.2.2:=(by have:=q_0.2;rwa [hl]at this);exact⟨(E.1+1,φ,_),⟨ω,hv.high ω η⟩,by simp only;omega,⟨by simp only;omega,hl,rfl,dT⟩,rfl,θ⟩
 case a1=>
  simp only[bl,reduceCtorEq]at h13;have hl:E.2.1=φ:=η;have hv:dN f.1 s (s,t,f.2.1+1,()) E.1 φ E.2.2:=(by have:=q_0.2;rwa [hl]at this);exact⟨(E.1+1,φ,_),⟨ω,hv.skip ω η⟩,by simp only;omega,⟨by simp only;omega,hl,rfl,dT⟩,rfl,θ⟩
 case a2|ax=>have:=q_0.2.2.2.1;exact⟨rfl,by simp only[hA];omega⟩
 case a3|ay=>
  have hl:E.2.1=ψ:=η;have hv:dN f.1 s (s,t,f.2.1+1,()) E.1 ψ E.2.2:=(by have:=q_0.2;rwa [hl]at this);have hnn:=cO s;have hn0:aN s=0:=ω;rw[Kj hn0 ω ω,<-hv.last ω];exact⟨dT,rfl,rfl⟩
 case a4|az=>
  have hl:E.2.1=φ:=η;have hv:dN f.1 s (s,t,f.2.1+1,()) E.1 φ E.2.2:=(by have:=q_0.2;rwa [hl]at this);have hnn:=cO s;have hn0:aN s=0:=ω;rw[Kj hn0 ω ω,<-hv.all ω];exact⟨dT,rfl,rfl⟩
 case a9|aq=>
  simp only[bl,reduceCtorEq]at h11;have:=q_0.2.2.2.1;exact⟨rfl,by simp only[hA];omega⟩
 case aa|ah|ap=>
  simp only[bl,reduceCtorEq]at h11;omega
 case ab|ai=>
  simp only[bl,reduceCtorEq]at h11 h12;omega
 case ac=>
  simp only[bl,reduceCtorEq]at h11 h12;have:=q_0.2.2.2.1;exact⟨rfl,by simp only[hD,hA];omega⟩
 case ad|af|ak|am=>
  simp only[bl,reduceCtorEq]at h11 h12;simp only[aF,aG]at*;omega
 case ae=>
  simp only[bl,reduceCtorEq]at h11 h12;have hl:E.2.1=ψ:=η;have hv:dN f.1 s (s,t,f.2.1+1,()) E.1 ψ E.2.2:=(by have:=q_0.2;rwa [hl]at this);exact⟨(E.1+1,φ,_),⟨ω,hv.put ω (by simp_all) η⟩,by simp only;omega,⟨by simp only;omega,rfl,rfl,dT⟩,rfl,θ⟩
 case ag=>
  simp only[bl,reduceCtorEq]at h11 h12;have hl:E.2.1=ψ:=η;have hv:dN f.1 s (s,t,f.2.1+1,()) E.1 ψ E.2.2:=(by have:=q_0.2;rwa [hl]at this);exact⟨(E.1+1,φ,_),⟨ω,hv.Uy ω (by simp_all) η⟩,by simp only;omega,⟨by simp only;omega,rfl,rfl,dT⟩,rfl,θ⟩
 case aj=>
  simp only[bl,reduceCtorEq]at h11 h12;have:=q_0.2.2.2.1;exact⟨rfl,by simp only[hA];omega⟩
 case al=>
  simp only[bl,reduceCtorEq]at h11 h12;have hl:E.2.1=ψ:=η;have hv:dN f.1 s (s,t,f.2.1+1,()) E.1 ψ E.2.2:=(by have:=q_0.2;rwa [hl]at this);exact⟨(E.1+1,ψ,_),⟨ω,hv.low ω (by simp_all)⟩,by simp only;omega,⟨by simp only;omega,hl,rfl,dT⟩,rfl,θ⟩
 case an=>
  simp only[bl,reduceCtorEq]at h11 h12;simp_all
 case ar|av=>
  simp only[bl,reduceCtorEq]at h11;simp only[aF,aG]at*;omega
 case au=>
  simp only[bl,reduceCtorEq]at h11;have hl:E.2.1=φ:=η;have hv:dN f.1 s (s,t,f.2.1+1,()) E.1 φ E.2.2:=(by have:=q_0.2;rwa [hl]at this);exact⟨(E.1+1,φ,_),⟨ω,hv.high ω η⟩,by simp only;omega,⟨by simp only;omega,hl,rfl,dT⟩,rfl,θ⟩
 case aw=>
  simp only[bl,reduceCtorEq]at h11;have hl:E.2.1=φ:=η;have hv:dN f.1 s (s,t,f.2.1+1,()) E.1 φ E.2.2:=(by have:=q_0.2;rwa [hl]at this);exact⟨(E.1+1,φ,_),⟨ω,hv.skip ω η⟩,by simp only;omega,⟨by simp only;omega,hl,rfl,dT⟩,rfl,θ⟩
def MG:aL:=bU cI [.obj 0,.d .str,.d .str] (fun _ x=>x.1.1.length<=6/\0<=x.1.2.1/\x.1.2.1<=1000000) Iw
def ac6:aW prog aE.eT aH 13 ψ MG:=
 bA (X:=aH) YS func13 κ (fun(a:CD [.obj 0,.d .str,.d .str]) (x:PD cI)=>MF a.1 a.2.1 x.1) (fun a x hw hp=>ac5 a.1 a.2.1 x.1 hp)
def Ix(s:aA)(f:RS):cP:=[(0,fun st=>{X:=Nat×List (D dD),inv:=fun x=>x.1<=f.1.length/\x.2++(f.1.drop x.1).filter (iu s)=f.1.filter (iu s)/\x.2.length<=x.1,bG:=fun x=>f.1.length-x.1,bB:=fun x=>[(6,sI x.1),(5,.s (.one (.app dD x.2 (aS st 5))))],aK:=fun x=>[(aS st 5,.tok dD x.2)],keep:=[0,1,4],dU:=[aS st 5]})]
def Ey:List (Alt cI [.obj 0,.d .str]):=[{bQ:=cI,res:=[.d (.int .i64)],out:=fun a x=>((kz x.1 a.1).1,()),ret:=fun a x=>((kz x.1 a.1).2,())}]
def YT(s:aA)(f:RS)(hp:(fun _ x=>x.1.1.length<=6) (s,()) (f,())):(cE aE [] f15 (Ix s f) cI [.obj 0,.d .str] Ey (s,()) (f,())).holds:=by
 refine ζ (p:=let za:=Nat×List (aA×aA×Int×Unit);let zb:=gE f.1;let zc:=iu s;let zd:=j3 zc f.1;let ze:=gE f.1<=aG;let zf:=(↑(gE f.1):Int);let zg:=fun(E:Nat×List (aA×aA×Int×Unit))=>0<=(↑E.1:Int)/\(↑E.1:Int)<zf;let zh:=fun(E:Nat×List (aA×aA×Int×Unit))=>(↑E.1:Int)+1;let zi:=fun(E:Nat×List (aA×aA×Int×Unit))=>E.2++[nth dD f.1 E.1];let zj:=(f.1=f.1/\f.2.1=f.2.1/\True)/\True;let zk:=((kz f s).1,());let zl:=((kz f s).2,());(∃(x:za),(hg x<=zb/\gN x++j3 zc (hB (hg x) f.1)=zd/\gE (gN x)<=hg x)/\(0=(↑(hg x):Int)/\@hq (aA×aA×Int×Unit)=gN x/\True)/\@hq (aA×aA×Int×Unit)=gN x/\True)/\∀E:Nat×List (aA×aA×Int×Unit),E.1<=zb/\E.2++j3 zc (hB E.1 f.1)=zd/\gE E.2<=E.1->ze->((ρ ((↑E.1:Int)<zf))=φ->zg E/\((!(nth dD f.1 E.1).1 == s)=φ->zg E/\(E.2=E.2/\gE E.2+gE [nth dD f.1 E.1]<=1000000000)/\(aF (↑E.1:Int)->aF 1->aF (zh E)/\∃(x':za),(hg x'<=zb/\gN x'++j3 zc (hB (hg x') f.1)=zd/\gE (gN x')<=hg x')/\zb-hg x'<zb-E.1/\(zh E=(↑(hg x'):Int)/\zi E=gN x'/\True)/\zi E=gN x'/\zj))/\((!(nth dD f.1 E.1).1 == s)=ψ->aF (↑E.1:Int)->aF 1->aF (zh E)/\∃(x':za),(hg x'<=zb/\gN x'++j3 zc (hB (hg x') f.1)=zd/\gE (gN x')<=hg x')/\zb-hg x'<zb-E.1/\(zh E=(↑(hg x'):Int)/\E.2=gN x'/\True)/\E.2=gN x'/\zj))/\((ρ ((↑E.1:Int)<zf))=ψ->gE E.2<=aG->ze->(((↑(gE E.2):Int) == zf)=φ->True/\(f,())=zk/\(5,())=zl)/\(((↑(gE E.2):Int) == zf)=ψ->True/\((E.2,f.2),())=zk/\(0,())=zl))) κ ?_
 dsimp -iota -proj -eta only;dsimp only at hp;refine⟨(⟨(0,[]),⟨ω,rfl,ς⟩,⟨rfl,rfl,dT⟩,rfl,dT⟩),fun E q_0 h0=>iL (fun h1=>⟨ω,⟨fun h2=>⟨?a,?b,fun h3 h4=>⟨?c,?d⟩⟩,fun h2 h3 h4=>⟨?e,?f⟩⟩⟩) (fun h1 h2 h3=>iQ (fun h4=>(by have he:=OU q_0.2.1 ω;rw[WR (by rw[<-he];omega)];exact⟨dT,rfl,rfl⟩)) (fun h4=>(by have he:=OU q_0.2.1 ω;rw[SB (by rw[<-he];omega),<-he];exact⟨dT,rfl,rfl⟩)))⟩
 case a=>
  simp only[bl,reduceCtorEq]at h2;omega
 case b=>
  simp only[bl,reduceCtorEq]at h2;have:=q_0.2.2;exact⟨rfl,by simp only[hA];omega⟩
 case c|e=>
  simp only[bl,reduceCtorEq]at h2;simp only[aF,aG]at*;omega
 case d=>
  simp only[bl,reduceCtorEq]at h2;exact⟨(E.1+1,_),⟨ω,ZX q_0.2.1 ω h2,by simp only[hD,hA];omega⟩,by simp only;omega,⟨by simp only;omega,rfl,dT⟩,rfl,θ⟩
 case f=>
  simp only[bl,reduceCtorEq]at h2;exact⟨(E.1+1,E.2),⟨ω,ZY q_0.2.1 ω h2,by simp only;omega⟩,by simp only;omega,⟨by simp only;omega,rfl,dT⟩,rfl,θ⟩
def Iy:aL:=bU cI [.obj 0,.d .str] (fun _ x=>x.1.1.length<=6) Ey
def YU:aW prog aE.eT aH 15 ψ Iy:=
 bA (X:=aH) (bK bJ) func15 κ (fun(a:CD [.obj 0,.d .str]) (x:PD cI)=>Ix a.1 x.1) (fun a x hw hp=>YT a.1 x.1 hp)
def RW(f:RS):cP:=[(0,fun st=>{X:=Nat,inv:=fun i=>i<=f.1.length,bG:=fun i=>f.1.length-i,bB:=fun i=>[(4,sI i),(3,.s (.one (.app .str ((f.1.take i).map ko) (aS st 3))))],aK:=fun i=>[(aS st 3,.tok .str ((f.1.take i).map ko))],keep:=[0,2],dU:=[aS st 3]})]
def MH:List (Alt cI [.obj 0]):=[{bQ:=cI,res:=[.d (.slice .str)],out:=fun _ x=>x,ret:=fun _ x=>(x.1.1.map ko,())}]
def agp(f:RS)(hp:(fun _ x=>x.1.1.length<=6) () (f,())):(cE aE [] f72 (RW f) cI [.obj 0] MH () (f,())).holds:=by
 refine ζ (p:=let za:=gE f.1;let zb:=fun(E:Nat)=>(↑E:Int)<(↑(gE f.1):Int);let zc:=fun(E:Nat)=>hW ko (hz E f.1);let zd:=fun(E:Nat)=>zc E++[(nth dD f.1 E).1];(∃(x:Nat),x<=za/\(0=(↑x:Int)/\@hq aA=hW ko (hz x f.1)/\True)/\@hq aA=hW ko (hz x f.1)/\True)/\∀E:Nat,E<=za->gE f.1<=aG->((ρ (zb E))=φ->(0<=(↑E:Int)/\zb E)/\(zc E=zc E/\gE (zc E)+gE [(nth dD f.1 E).1]<=1000000000)/\(aF (↑E:Int)->aF 1->aF ((↑E:Int)+1)/\∃(x':Nat),x'<=za/\za-x'<za-E/\((↑E:Int)+1=(↑x':Int)/\zd E=hW ko (hz x' f.1)/\True)/\zd E=hW ko (hz x' f.1)/\@hq aA=@hq aA/\(f.1=f.1/\f.2.1=f.2.1/\True)/\True))/\((ρ (zb E))=ψ->True/\(f,())=(f,())/\(zc E,())=(hW ko f.1,()))) κ ?_
 dsimp -iota -proj -eta only;dsimp only at hp;exact⟨(⟨0,ω,⟨rfl,rfl,dT⟩,rfl,dT⟩),fun E q_0 h0=>iL (fun h1=>⟨ω,(by exact⟨rfl,by simp only[hS,hR,hA];omega⟩),fun h2 h3=>⟨(by simp only[aF,aG]at*;omega),(⟨E+1,ω,ω,⟨ω,GO ω,dT⟩,GO ω,θ⟩)⟩⟩) (fun h1=>(by rw[hT ω];exact⟨dT,rfl,rfl⟩))⟩
def RX:aL:=bU cI [.obj 0] (fun _ x=>x.1.1.length<=6) MH
def agq:aW prog aE.eT aH 72 ψ RX:=
 bA (X:=aH) (bK bJ) func72 κ (fun(a:CD [.obj 0]) (x:PD cI)=>RW x.1) (fun a x hw hp=>agp x.1 hp)
def MI:List (FuncId×(Bool×aL)):=[(62,spZ0)]
def TW:bH prog aE aH MI:=
 aM (aI sq) (bK bJ)
def MJ(o:D aB):cP:=[
 (0,fun st=>{X:=Nat,inv:=fun i=>i<=o.1.length,bG:=fun i=>o.1.length-i,bB:=fun i=>[(5,sI i),(4,sS (mv o i))],keep:=[1,2,3]}),
 (2,fun st=>{X:=Nat,inv:=fun i=>i<=o.2.1.length,bG:=fun i=>o.2.1.length-i,bB:=fun i=>[(6,sI i),(4,sS (lR o i))],keep:=[1,2,3]}),
 (4,fun st=>{X:=Nat,inv:=fun i=>i<=o.2.2.1.length,bG:=fun i=>o.2.2.1.length-i,bB:=fun i=>[(7,sI i),(4,sS (jC o i))],keep:=[1,2,3]}),
 (6,fun st=>{X:=Nat,inv:=fun i=>i<=o.2.2.2.1.length,bG:=fun i=>o.2.2.2.1.length-i,bB:=fun i=>[(9,sI i),(4,sS (fK o i))],keep:=[1,2,3,8]})]
def ac7(o:D aB)(hp:(fun o=>cQ o=0) o):(cH aE MI f117 (MJ o) [aB] [.str,.int .i64] (fun x y=>y=(fun o=>nO o) x) o).holds:=by
 refine ζ (p:=let za:=gE o.1;let zb:=fun(E:Nat)=>(↑E:Int);let zc:=[110,101,101,100,32];let zd:=fun(E:Nat)=>0<=zb E;let ze:=fun(E:Nat)=>mv o E++zc++nth Ty.str o.1 E;let zf:=[10];let zg:=gE zf;let zh:=fun(E:Nat)=>aF (zb E);let zi:=aF 1;let zj:=fun(E:Nat)=>zb E+1;let zk:=fun(E:Nat)=>aF (zj E);let zl:=o.2.1;let zm:=o.2.2.1;let zn:=o.2.2.2.1;let zo:=(o.1=o.1/\zl=zl/\zm=zm/\zn=zn/\True)/\True;let zp:=gE zl;let zq:=[119,111,114,100,32];let zr:=fun(F:Nat)=>lR o F++zq++hI (nth (Ty.int hP) zl F);let zs:=gE zm;let zt:=fun(G:Nat)=>zd G/\zb G<(↑zs:Int);let zu:=[119,101,97,107,32];let zv:=[115,121,109,98,111,108,32];let zw:=fun(G:Nat)=>jC o G++zu++zv;let zx:=fun(G:Nat)=>(nth aT zm G).1;let zy:=[32];let zz:=gE zy;let zaa:=fun(G:Nat)=>hI (nth aT zm G).2.1;let zab:=fun(G:Nat)=>zw G++zx G++zy++zaa G;let zac:=fun(G:Nat)=>jC o G++zv++zx G;let zad:=gE zn;let zae:=fun(I:Nat)=>gE (fK o I);let zaf:=fun(I:Nat)=>(nth aV zn I).2.1;let zag:=[@hq UInt8,[98,97,115,101],[119,104,111,108,101],[110,101,97,114]];let zah:=fun(I:Nat)=>0<=zaf I/\zaf I<(↑(gE zag):Int);let zai:=fun(I:Nat)=>nth Ty.str zag (hC (zaf I));let zaj:=fun(I:Nat)=>fK o I++zu++zai I;let zak:=fun(I:Nat)=>hI (nth aV zn I).1;let zal:=fun(I:Nat)=>zaj I++zy++zak I++zy;let zam:=fun(I:Nat)=>hI (nth aV zn I).2.2.1;let zan:=fun(I:Nat)=>zal I++zam I;let zao:=fun(I:Nat)=>(nth aV zn I).2.2.2.1;let zap:=fun(I:Nat)=>fK o I++zai I++zy;let zaq:=fun(I:Nat)=>zap I++zak I++zy++zam I;(∃(x:Nat),x<=za/\(0=(↑x:Int)/\@hq UInt8=mv o x/\True)/\True)/\∀E:Nat,E<=za->za<=aG->((ρ (zb E<(↑za:Int)))=φ->gE (mv o E)+gE zc<=aG/\(zd E/\zb E<(↑za:Int))/\gE (mv o E++zc)+gE (nth Ty.str o.1 E)<=aG/\gE (ze E)+zg<=aG/\(zh E->zi->zk E/\∃(x':Nat),x'<=za/\za-x'<za-E/\(zj E=(↑x':Int)/\ze E++zf=mv o x'/\True)/\zo))/\((ρ (zb E<(↑za:Int)))=ψ->(∃(x:Nat),x<=zp/\(0=(↑x:Int)/\mv o E=lR o x/\True)/\True)/\∀F:Nat,F<=zp->zp<=aG->((ρ (zb F<(↑zp:Int)))=φ->gE (lR o F)+gE zq<=aG/\(zd F/\zb F<(↑zp:Int))/\True/\gE (lR o F++zq)+gE (hI (nth (Ty.int hP) zl F))<=aG/\gE (zr F)+zg<=aG/\(zh F->zi->zk F/\∃(x':Nat),x'<=zp/\zp-x'<zp-F/\(zj F=(↑x':Int)/\zr F++zf=lR o x'/\True)/\zo))/\((ρ (zb F<(↑zp:Int)))=ψ->(∃(x:Nat),x<=zs/\(0=(↑x:Int)/\lR o F=jC o x/\True)/\True)/\∀G:Nat,G<=zs->zs<=aG->((ρ (zb G<(↑zs:Int)))=φ->zt G/\(((nth aT zm G).2.2.1)=φ->gE (jC o G)+gE zu<=aG/\gE (jC o G++zu)+gE zv<=aG/\zt G/\gE (zw G)+gE (zx G)<=aG/\gE (zw G++zx G)+zz<=aG/\zt G/\True/\gE (zw G++zx G++zy)+gE (zaa G)<=aG/\gE (zab G)+zg<=aG/\(zh G->zi->zk G/\∃(x':Nat),x'<=zs/\zs-x'<zs-G/\(zj G=(↑x':Int)/\zab G++zf=jC o x'/\True)/\zo))/\(((nth aT zm G).2.2.1)=ψ->gE (jC o G)+gE zv<=aG/\zt G/\gE (jC o G++zv)+gE (zx G)<=aG/\gE (zac G)+zz<=aG/\zt G/\True/\gE (zac G++zy)+gE (zaa G)<=aG/\gE (zac G++zy++zaa G)+zg<=aG/\(zh G->zi->zk G/\∃(x':Nat),x'<=zs/\zs-x'<zs-G/\(zj G=(↑x':Int)/\zac G++zy++zaa G++zf=jC o x'/\True)/\zo)))/\((ρ (zb G<(↑zs:Int)))=ψ->(∃(x:Nat),x<=zad/\(0=(↑x:Int)/\jC o G=fK o x/\True)/\True)/\∀I:Nat,I<=zad->zad<=aG->((ρ (zb I<(↑zad:Int)))=φ->(zd I/\zb I<(↑zad:Int))/\(((nth aV zn I).2.2.2.2.1)=φ->zae I+gE zu<=aG/\zah I/\gE (fK o I++zu)+gE (zai I)<=aG/\gE (zaj I)+zz<=aG/\True/\gE (zaj I++zy)+gE (zak I)<=aG/\gE (zaj I++zy++zak I)+zz<=aG/\True/\gE (zal I)+gE (zam I)<=aG/\((ρ (zaf I > 1))=φ->gE (zan I)+zz<=aG/\gE (zan I++zy)+gE (zao I)<=aG/\gE (zan I++zy++zao I)+zg<=aG/\(zh I->zi->zk I/\∃(x':Nat),x'<=zad/\zad-x'<zad-I/\(zj I=(↑x':Int)/\zan I++zy++zao I++zf=fK o x'/\True)/\zo))/\((ρ (zaf I > 1))=ψ->gE (zan I)+zg<=aG/\(zh I->zi->zk I/\∃(x':Nat),x'<=zad/\zad-x'<zad-I/\(zj I=(↑x':Int)/\zan I++zf=fK o x'/\True)/\zo)))/\(((nth aV zn I).2.2.2.2.1)=ψ->zah I/\zae I+gE (zai I)<=aG/\gE (fK o I++zai I)+zz<=aG/\True/\gE (zap I)+gE (zak I)<=aG/\gE (zap I++zak I)+zz<=aG/\True/\gE (zap I++zak I++zy)+gE (zam I)<=aG/\((ρ (zaf I > 1))=φ->gE (zaq I)+zz<=aG/\gE (zaq I++zy)+gE (zao I)<=aG/\gE (zaq I++zy++zao I)+zg<=aG/\(zh I->zi->zk I/\∃(x':Nat),x'<=zad/\zad-x'<zad-I/\(zj I=(↑x':Int)/\zaq I++zy++zao I++zf=fK o x'/\True)/\zo))/\((ρ (zaf I > 1))=ψ->gE (zaq I)+zg<=aG/\(zh I->zi->zk I/\∃(x':Nat),x'<=zad/\zad-x'<zad-I/\(zj I=(↑x':Int)/\zaq I++zf=fK o x'/\True)/\zo))))/\((ρ (zb I<(↑zad:Int)))=ψ->zae I<=aG->((ρ ((↑(zae I):Int) > 1200))=φ->([],2)=nO o)/\((ρ ((↑(zae I):Int) > 1200))=ψ->(fK o I,0)=nO o)))))) κ ?_
 dsimp -iota -proj -eta only;refine⟨(⟨0,ω,⟨rfl,rfl,dT⟩,dT⟩),fun E q_0 h0=>iL (fun h1=>⟨?a,?b,?c,?d,fun h2 h3=>⟨?e,(⟨E+1,ω,ω,⟨ω,ajV ω,dT⟩,θ⟩)⟩⟩) (fun h1=>⟨(⟨0,ω,⟨rfl,by rw[Kv,show E=o.1.length by omega],dT⟩,dT⟩),fun F q_1 h2=>iL (fun h3=>⟨?f,?g,dT,?h,?i,fun h4 h5=>⟨?j,(⟨F+1,ω,ω,⟨ω,ajW ω,dT⟩,θ⟩)⟩⟩) (fun h3=>⟨(⟨0,ω,⟨rfl,by rw[Ky,show F=o.2.1.length by omega],dT⟩,dT⟩),fun G q_2 h4=>iL (fun h5=>⟨?k,⟨fun h6=>⟨?l,?m,?n,?o,?p,?q,dT,?r,?s,fun h7 h8=>⟨?t,(⟨G+1,ω,ω,⟨ω,ai8 ω h6,dT⟩,θ⟩)⟩⟩,fun h6=>⟨?u,?v,?w,?x,?y,dT,?z,?a0,fun h7 h8=>⟨?a1,(⟨G+1,ω,ω,⟨ω,ai9 ω h6,dT⟩,θ⟩)⟩⟩⟩⟩) (fun h5=>⟨(⟨0,ω,⟨rfl,by rw[Kz,show G=o.2.2.1.length by omega],dT⟩,dT⟩),fun I q_3 h6=>iL (fun h7=>⟨?a2,⟨fun h8=>⟨?a3,?a4,?a5,?a6,dT,?a7,?a8,dT,?a9,iL (fun h9=>⟨?aa,?ab,?ac,fun h10 h11=>⟨?ad,(⟨I+1,ω,ω,⟨ω,ai5 ω (iY hp) h8 (UD h9),dT⟩,θ⟩)⟩⟩) (fun h9=>⟨?ae,fun h10 h11=>⟨?af,(absurd (h8.symm.trans (((iY hp).tie (i:=I) ω).base (Z5 (Int.not_lt.2 h9) ((iY hp).kind ω))).2) δ)⟩⟩)⟩,fun h8=>⟨?ag,?ah,?ai,dT,?aj,?ak,dT,?al,iL (fun h9=>⟨?am,?an,?ao,fun h10 h11=>⟨?ap,(⟨I+1,ω,ω,⟨ω,ai6 ω (iY hp) h8 (UD h9),dT⟩,θ⟩)⟩⟩) (fun h9=>⟨?aq,fun h10 h11=>⟨?ar,(⟨I+1,ω,ω,⟨ω,ai7 ω (Z5 (Int.not_lt.2 h9) ((iY hp).kind ω)),dT⟩,θ⟩)⟩⟩)⟩⟩⟩) (fun h7 h8=>iL (fun h9=>(by rw[GV (show I=_ by omega) ω])) (fun h9=>(by rw[zP (show I=_ by omega) ω])))⟩)⟩)⟩)⟩
 case a|c|d=>have a:=B4 (iY hp) (i:=E) ω;simp only[hD,hK,hL,hS,aG];omega
 case b|g|k|n|q|v|y|a2=>omega
 case e|j|t|a1|ad|af|ap|ar=>simp only[aF,aG]at*;omega
 case f|h|i=>have a:=B5 (iY hp) (i:=F) ω;simp only[hD,hK,hL,hS,aG];omega
 case l|m|o|p|r|s|u|w|x|z|a0=>have a:=Fg (iY hp) (i:=G) ω;simp only[hD,hK,hL,hS,aG];omega
 case a3|a5|a6|a7|a8|a9|aa|ab|ac|ae|ah|ai|aj|ak|al|am|an|ao|aq=>have a:=Fh (iY hp) (i:=I) ω;have b:=aem (hC (nth aV o.2.2.2.1 I).2.1);simp only[hD,hK,hL,hS,aG];omega
 case a4|ag=>obtain⟨a,b⟩:=(iY hp).kind (i:=I) ω;exact⟨Int.le_trans δ a,Int.lt_of_le_of_lt b δ⟩
def MK:aL:=bP [aB] [.str,.int .i64] (fun o=>cQ o=0) (fun o=>nO o)
def ac8:aW prog aE.eT aH 117 φ MK:=
 aI (bO (X:=aH) TW func117 κ (fun x=>MJ x) (fun x hw hp=>ac7 x hp))
def ac9:List (FuncId×(Bool×aL)):=[(67,(φ,CN)),(66,(φ,My)),(68,(φ,Az)),(116,(φ,LY)),(117,(φ,MK))]
def agr:bH prog aE aH ac9:=
 aM Mw (aM ac1 (aM Is (aM ach (aM ac8 (bK bJ)))))
def ada(s:aA):cP:=[
 (0,fun st=>{X:=Nat×D aB,inv:=fun x=>nE (pn s) x.1 x.2,bG:=fun x=>(pn s).length-x.1,bB:=fun x=>[(7,sI x.1)],keep:=[0,2,4,6],aK:=fun x=>[(aS st 6,.cells 148 [.app .str x.2.1 (iT st (aS st 6) 0),.app (.int .i64) x.2.2.1 (iT st (aS st 6) 1),.app aT x.2.2.2.1 (iT st (aS st 6) 2),.app aV x.2.2.2.2.1 (iT st (aS st 6) 3)]),(iT st (aS st 6) 0,.tok .str x.2.1),(iT st (aS st 6) 1,.tok (.int .i64) x.2.2.1),(iT st (aS st 6) 2,.tok aT x.2.2.2.1),(iT st (aS st 6) 3,.tok aV x.2.2.2.2.1)],dU:=[aS st 6,iT st (aS st 6) 0,iT st (aS st 6) 1,iT st (aS st 6) 2,iT st (aS st 6) 3]}),
 (300010,fun st=>{X:=List aA,inv:=fun w=>w=parts 32 (nth .str (pn s) (hC (bI (.int .i64) st 7))),bG:=fun _=>0,bB:=fun w=>[(8,sD (.slice .str) w)],keep:=[0,2,3,4,6,7,29,30,31,32]}),
 (400013,fun st=>{X:=List aA,inv:=fun w=>∀o:D aB,mC o (nth .str (pn s) (hC (bI (.int .i64) st 7)))=jH o (nth .str (bI (.slice .str) st 8) 0 == qq) w,bG:=fun _=>0,bB:=fun w=>[(8,sD (.slice .str) w)],keep:=[0,2,3,4,6,7,9,29,30,31,32,35,36,37,38,39,40,41,42,43,44]}),
 (2,fun st=>{X:=Nat,inv:=fun k=>1<=k/\k<=3/\(k=1\/k<=gE (bI (.slice .str) st 8)),bG:=fun k=>3-k,bB:=fun k=>[(11,sI k),(10,.s (.one (.app (.int .i64) (fB (bI (.slice .str) st 8) k) (aS st 10))))],aK:=fun k=>[(aS st 10,.tok (.int .i64) (fB (bI (.slice .str) st 8) k))],keep:=[0,2,3,4,6,7,8,9,29,30,31,32,35,36,37,38,39,40,41,42,43,44,45,46],dU:=[aS st 10]}),
 (300016,fun st=>{X:=Bool,inv:=fun c=>c=φ↔((bI (.int .i64) st 11)<gE (bI (.slice .str) st 8)/\(bI (.int .i64) st 11)<3),bG:=fun _=>0,bB:=fun c=>[(54,sB c)],keep:=[0,2,3,4,6,7,8,9,10,11,29,30,31,32,35,36,37,38,39,40,41,42,43,44,45,46]}),
 (300023,fun st=>{X:=Bool,inv:=fun c=>c=φ↔(gE (bI (.slice .str) st 8)=2/\nth .str (bI (.slice .str) st 8) 0=iK),bG:=fun _=>0,bB:=fun c=>[(72,sB c)],keep:=[0,2,3,4,6,7,8,9,10,11,12,13,29,30,31,32,35,36,37,38,39,40,41,42,43,44,45,46,47,48,49,50,51,52,53,54,55,56,57,58,59,60,61,62,63,64,65,66,67,68,69,70]}),
 (300025,fun st=>{X:=Bool,inv:=fun c=>c=φ↔(gE (bI (.slice .str) st 8)=2/\nth .str (bI (.slice .str) st 8) 0=iv),bG:=fun _=>0,bB:=fun c=>[(90,sB c)],keep:=[0,2,3,4,6,7,8,9,10,11,12,13,29,30,31,32,35,36,37,38,39,40,41,42,43,44,45,46,47,48,49,50,51,52,53,54,55,56,57,58,59,60,61,62,63,64,65,66,67,68,69,70,72,73,74,75,76,77,78,79,80,81,82,83,84,85,86,87,88,89]}),
 (300027,fun st=>{X:=Bool,inv:=fun c=>c=φ↔(gE (bI (.slice .str) st 8)=3/\nth .str (bI (.slice .str) st 8) 0=gw),bG:=fun _=>0,bB:=fun c=>[(108,sB c)],keep:=[0,2,3,4,6,7,8,9,10,11,12,13,29,30,31,32,35,36,37,38,39,40,41,42,43,44,45,46,47,48,49,50,51,52,53,54,55,56,57,58,59,60,61,62,63,64,65,66,67,68,69,70,72,73,74,75,76,77,78,79,80,81,82,83,84,85,86,87,88,89,90,91,92,93,94,95,96,97,98,99,100,101,102,103,104,105,106,107]}),
 (300029,fun st=>{X:=Bool,inv:=fun c=>c=φ↔(gE (bI (.slice .str) st 8)=3/\nth .str (bI (.slice .str) st 8) 0=kU),bG:=fun _=>0,bB:=fun c=>[(131,sB c)],keep:=[0,2,3,4,6,7,8,9,10,11,12,13,29,30,31,32,35,36,37,38,39,40,41,42,43,44,45,46,47,48,49,50,51,52,53,54,55,56,57,58,59,60,61,62,63,64,65,66,67,68,69,70,72,73,74,75,76,77,78,79,80,81,82,83,84,85,86,87,88,89,90,91,92,93,94,95,96,97,98,99,100,101,102,103,104,105,106,107,108,109,110,111,112,113,114,115,116,117,118,119,120,121,122,123,124,125,126,127,128,129,130]}),
 (300031,fun st=>{X:=Bool,inv:=fun c=>c=φ↔(gE (bI (.slice .str) st 8)=4/\nth .str (bI (.slice .str) st 8) 0=iZ),bG:=fun _=>0,bB:=fun c=>[(154,sB c)],keep:=[0,2,3,4,6,7,8,9,10,11,12,13,29,30,31,32,35,36,37,38,39,40,41,42,43,44,45,46,47,48,49,50,51,52,53,54,55,56,57,58,59,60,61,62,63,64,65,66,67,68,69,70,72,73,74,75,76,77,78,79,80,81,82,83,84,85,86,87,88,89,90,91,92,93,94,95,96,97,98,99,100,101,102,103,104,105,106,107,108,109,110,111,112,113,114,115,116,117,118,119,120,121,122,123,124,125,126,127,128,129,130,131,132,133,134,135,136,137,138,139,140,141,142,143,144,145,146,147,148,149,150,151,152,153]}),
 (300033,fun st=>{X:=Bool,inv:=fun c=>c=φ↔(gE (bI (.slice .str) st 8)=4/\nth .str (bI (.slice .str) st 8) 0=jP),bG:=fun _=>0,bB:=fun c=>[(180,sB c)],keep:=[0,2,3,4,6,7,8,9,10,11,12,13,29,30,31,32,35,36,37,38,39,40,41,42,43,44,45,46,47,48,49,50,51,52,53,54,55,56,57,58,59,60,61,62,63,64,65,66,67,68,69,70,72,73,74,75,76,77,78,79,80,81,82,83,84,85,86,87,88,89,90,91,92,93,94,95,96,97,98,99,100,101,102,103,104,105,106,107,108,109,110,111,112,113,114,115,116,117,118,119,120,121,122,123,124,125,126,127,128,129,130,131,132,133,134,135,136,137,138,139,140,141,142,143,144,145,146,147,148,149,150,151,152,153,154,155,156,157,158,159,160,161,162,163,164,165,166,167,168,169,170,171,172,173,174,175,176,177,178,179]})]
def RY(s:aA):(cH aE ac9 f76 (ada s) [.str] [aB,.int .i64] (fun x y=>y=(fun s=>bY s) x) s).holds:=by
 refine ζ (p:=let za:=gE s;let zb:=([],[],[],[],());let zc:=(zb,(4:Int))=bY s;let zd:=aA;let ze:=List zd;let zf:=ze×List Int×List (zd×Int×Bool×Unit)×List (Int×Int×Int×zd×Bool×Unit)×Unit;let zg:=Nat×zf;let zh:=pn s;let zi:=fun(E:Nat×List aA×List Int×List (aA×Int×Bool×Unit)×List (Int×Int×Int×aA×Bool×Unit)×Unit)=>(↑E.1:Int)<(↑(gE zh):Int);let zj:=fun(E:Nat×List aA×List Int×List (aA×Int×Bool×Unit)×List (Int×Int×Int×aA×Bool×Unit)×Unit)=>nth Ty.str zh E.1;let zk:=fun(E:Nat×List aA×List Int×List (aA×Int×Bool×Unit)×List (Int×Int×Int×aA×Bool×Unit)×Unit)=>parts (32:UInt8) (zj E);let zl:=fun(E:Nat×List aA×List Int×List (aA×Int×Bool×Unit)×List (Int×Int×Int×aA×Bool×Unit)×Unit)=>E.2.1=E.2.1;let zm:=fun(E:Nat×List aA×List Int×List (aA×Int×Bool×Unit)×List (Int×Int×Int×aA×Bool×Unit)×Unit)=>E.2.2.1;let zn:=fun(E:Nat×List aA×List Int×List (aA×Int×Bool×Unit)×List (Int×Int×Int×aA×Bool×Unit)×Unit)=>E.2.2.2.1;let zo:=fun(E:Nat×List aA×List Int×List (aA×Int×Bool×Unit)×List (Int×Int×Int×aA×Bool×Unit)×Unit)=>E.2.2.2.2.1;let zp:=fun(E:Nat×List aA×List Int×List (aA×Int×Bool×Unit)×List (Int×Int×Int×aA×Bool×Unit)×Unit)=>zo E=zo E;let zq:=@hq (Int×Int×Int×aA×Bool×Unit)=@hq (Int×Int×Int×aA×Bool×Unit);let zr:=@hq (aA×Int×Bool×Unit)=@hq (aA×Int×Bool×Unit);let zs:=@hq Int=@hq Int;let zt:=@hq aA=@hq aA;let zu:=zq/\zr/\zs/\zt/\(zt/\zs/\zr/\zq/\True)/\zq/\zr/\zs/\zt/\True;let zv:=fun(E:Nat×List aA×List Int×List (aA×Int×Bool×Unit)×List (Int×Int×Int×aA×Bool×Unit)×Unit)=>(zl E/\zm E=zm E/\zn E=zn E/\zp E/\True)/\zl E/\zm E=zm E/\zn E=zn E/\zp E/\zu;let zw:=(0:Int)<=(0:Int);let zx:=fun(F:List aA)=>gE F;let zy:=fun(F:List aA)=>(↑(zx F):Int);let zz:=fun(F:List aA)=>zw/\(0:Int)<zy F;let zaa:=fun(F:List aA)=>nth Ty.str F 0;let zab:=fun(F:List aA)=>zaa F == [(119:UInt8),101,97,107];let zac:=(0:Int)<=(1:Int);let zad:=fun(G:List aA)=>zx G<=aG;let zae:=fun(I:Nat) (G:List aA)=>(↑I:Int)<zy G/\(↑I:Int)<(3:Int);let zaf:=fun(G:List aA) (I:Nat)=>fB G I=fB G I;let zag:=fun(G:List aA) (I:Nat) (E:Nat×List aA×List Int×List (aA×Int×Bool×Unit)×List (Int×Int×Int×aA×Bool×Unit)×Unit)=>zaf G I/\zv E;let zah:=aF (1:Int);let zai:=fun(I:Nat)=>(↑I:Int)+(1:Int);let zaj:=fun(G:List aA)=>zx G=2/\zaa G=iK;let zak:=fun(E:Nat×List aA×List Int×List (aA×Int×Bool×Unit)×List (Int×Int×Int×aA×Bool×Unit)×Unit)=>aF (↑E.1:Int);let zal:=fun(E:Nat×List aA×List Int×List (aA×Int×Bool×Unit)×List (Int×Int×Int×aA×Bool×Unit)×Unit)=>(↑E.1:Int)+(1:Int);let zam:=fun(E:Nat×List aA×List Int×List (aA×Int×Bool×Unit)×List (Int×Int×Int×aA×Bool×Unit)×Unit)=>aF (zal E);let zan:=gE zh;let zao:=fun(E:Nat×List aA×List Int×List (aA×Int×Bool×Unit)×List (Int×Int×Int×aA×Bool×Unit)×Unit)=>zan-E.1;let zap:=fun(G:List aA)=>zx G=2/\zaa G=iv;let zaq:=fun(G:List aA) (I:Nat)=>zw/\(0:Int)<(↑(gE (fB G I)):Int);let zar:=fun(G:List aA) (I:Nat)=>nth (Ty.int hP) (fB G I) 0;let zas:=fun(G:List aA)=>zx G=3/\zaa G=gw;let zat:=fun(G:List aA) (I:Nat)=>zac/\(1:Int)<(↑(gE (fB G I)):Int);let zau:=fun(G:List aA) (I:Nat)=>nth (Ty.int hP) (fB G I) 1;let zav:=fun(G:List aA)=>zx G=3/\zaa G=kU;let zaw:=fun(G:List aA) (I:Nat) (F:List aA)=>[(zar G I,(1:Int),zau G I,@hq UInt8,zab F,())];let zax:=fun(G:List aA)=>zx G=4/\zaa G=iZ;let zay:=fun(G:List aA)=>(0:Int)<=(3:Int)/\(3:Int)<zy G;let zaz:=fun(G:List aA) (I:Nat) (F:List aA)=>[(zar G I,(2:Int),zau G I,nth Ty.str G 3,zab F,())];let zba:=fun(G:List aA)=>zx G=4/\zaa G=jP;let zbb:=fun(G:List aA) (I:Nat) (F:List aA)=>[(zar G I,(3:Int),zau G I,nth Ty.str G 3,zab F,())];za<=aG->((ρ ((↑za:Int) > (1200:Int)))=φ->(zb,(2:Int))=bY s)/\((ρ ((↑za:Int) > (1200:Int)))=ψ->za<=1000000/\((!Ft s)=φ->zc)/\((!Ft s)=ψ->(∃(x:zg),nE zh (hg x) (gN x)/\((0:Int)=(↑(hg x):Int)/\True)/\(@hq aA=(gN x).1/\@hq Int=(gN x).2.1/\@hq (aA×Int×Bool×Unit)=(gN x).2.2.1/\@hq (Int×Int×Int×aA×Bool×Unit)=(gN x).2.2.2.1/\True)/\@hq aA=(gN x).1/\@hq Int=(gN x).2.1/\@hq (aA×Int×Bool×Unit)=(gN x).2.2.1/\@hq (Int×Int×Int×aA×Bool×Unit)=(gN x).2.2.2.1/\True)/\∀E:Nat×List aA×List Int×List (aA×Int×Bool×Unit)×List (Int×Int×Int×aA×Bool×Unit)×Unit,nE zh E.1 E.2->gE zh<=aG->((ρ (zi E))=φ->(((0:Int)<=(↑E.1:Int)/\zi E)/\gE (zj E)<=1000000/\∃(x':ze),x'=zk E/\(zk E=x'/\True)/\zv E)/\∀F:List aA,F=zk E->zz F/\(((zab F)=φ->(zac/\(1:Int)<=zy F/\zy F<=zy F)/\∃(x':ze),(∀(o:zf),mC o (zj E)=jH o (zaa F == qq) x')/\(hB 1 (hz (zx F) F)=x'/\True)/\zv E)/\((zab F)=ψ->∃(x':ze),(∀(o:zf),mC o (zj E)=jH o (zaa F == qq) x')/\(F=x'/\True)/\zv E))/\∀G:List aA,(∀(o:zf),mC o (zj E)=jH o (zaa F == qq) G)->(∃(x:Nat),(1<=x/\x<=3/\(x=1\/x<=zx G))/\((1:Int)=(↑x:Int)/\@hq Int=fB G x/\True)/\@hq Int=fB G x/\True)/\∀I:Nat,1<=I/\I<=3/\(I=1\/I<=zx G)->(zad G->((ρ ((↑I:Int)<zy G))=φ->∃(x':Bool),(x'=φ↔zae I G)/\(ρ ((↑I:Int)<(3:Int))=x'/\True)/\zag G I E)/\((ρ ((↑I:Int)<zy G))=ψ->∃(x':Bool),(x'=φ↔zae I G)/\(ψ=x'/\True)/\zag G I E))/\∀K:Bool,(K=φ↔zae I G)->(K=φ->((0:Int)<=(↑I:Int)/\(↑I:Int)<zy G)/\True/\((!mL (nth Ty.str G I))=φ->(zaf G I/\gE (fB G I)+gE [(-1099511627776:Int)]<=1000000000)/\(aF (↑I:Int)->zah->aF (zai I)/\∃(x':Nat),(1<=x'/\x'<=3/\(x'=1\/x'<=zx G))/\3-x'<3-I/\(zai I=(↑x':Int)/\fB G I++[(-1099511627776:Int)]=fB G x'/\True)/\fB G I++[(-1099511627776:Int)]=fB G x'/\zv E))/\((!mL (nth Ty.str G I))=ψ->(zaf G I/\gE (fB G I)+gE [jV (nth Ty.str G I)]<=1000000000)/\(aF (↑I:Int)->zah->aF (zai I)/\∃(x':Nat),(1<=x'/\x'<=3/\(x'=1\/x'<=zx G))/\3-x'<3-I/\(zai I=(↑x':Int)/\fB G I++[jV (nth Ty.str G I)]=fB G x'/\True)/\fB G I++[jV (nth Ty.str G I)]=fB G x'/\zv E)))/\(K=ψ->(zad G->((zy G == (2:Int))=φ->zz G/\∃(x':Bool),(x'=φ↔zaj G)/\((zaa G == [(110:UInt8),101,101,100])=x'/\True)/\zag G I E)/\((zy G == (2:Int))=ψ->∃(x':Bool),(x'=φ↔zaj G)/\(ψ=x'/\True)/\zag G I E))/\∀M:Bool,(M=φ↔zaj G)->(M=φ->(zac/\(1:Int)<zy G)/\(zl E/\gE E.2.1+gE [nth Ty.str G 1]<=1000000000)/\(zak E->zah->zam E/\∃(x':zg),nE zh (hg x') (gN x')/\zan-hg x'<zao E/\(zal E=(↑(hg x'):Int)/\True)/\(E.2.1++[nth Ty.str G 1]=(gN x').1/\zm E=(gN x').2.1/\zn E=(gN x').2.2.1/\zo E=(gN x').2.2.2.1/\True)/\E.2.1++[nth Ty.str G 1]=(gN x').1/\zm E=(gN x').2.1/\zn E=(gN x').2.2.1/\zo E=(gN x').2.2.2.1/\zu))/\(M=ψ->(zad G->((zy G == (2:Int))=φ->zz G/\∃(x':Bool),(x'=φ↔zap G)/\((zaa G == [(119:UInt8),111,114,100])=x'/\True)/\zag G I E)/\((zy G == (2:Int))=ψ->∃(x':Bool),(x'=φ↔zap G)/\(ψ=x'/\True)/\zag G I E))/\∀Q:Bool,(Q=φ↔zap G)->(Q=φ->zaq G I/\(zm E=zm E/\gE (zm E)+gE [zar G I]<=1000000000)/\(zak E->zah->zam E/\∃(x':zg),nE zh (hg x') (gN x')/\zan-hg x'<zao E/\(zal E=(↑(hg x'):Int)/\True)/\(E.2.1=(gN x').1/\zm E++[zar G I]=(gN x').2.1/\zn E=(gN x').2.2.1/\zo E=(gN x').2.2.2.1/\True)/\E.2.1=(gN x').1/\zm E++[zar G I]=(gN x').2.1/\zn E=(gN x').2.2.1/\zo E=(gN x').2.2.2.1/\zu))/\(Q=ψ->(zad G->((zy G == (3:Int))=φ->zz G/\∃(x':Bool),(x'=φ↔zas G)/\((zaa G == [(115:UInt8),121,109,98,111,108])=x'/\True)/\zag G I E)/\((zy G == (3:Int))=ψ->∃(x':Bool),(x'=φ↔zas G)/\(ψ=x'/\True)/\zag G I E))/\∀V:Bool,(V=φ↔zas G)->(V=φ->(zac/\(1:Int)<zy G)/\zat G I/\(zn E=zn E/\gE (zn E)+gE [(nth Ty.str G 1,zau G I,zab F,())]<=1000000000)/\(zak E->zah->zam E/\∃(x':zg),nE zh (hg x') (gN x')/\zan-hg x'<zao E/\(zal E=(↑(hg x'):Int)/\True)/\(E.2.1=(gN x').1/\zm E=(gN x').2.1/\zn E++[(nth Ty.str G 1,zau G I,zab F,())]=(gN x').2.2.1/\zo E=(gN x').2.2.2.1/\True)/\E.2.1=(gN x').1/\zm E=(gN x').2.1/\zn E++[(nth Ty.str G 1,zau G I,zab F,())]=(gN x').2.2.1/\zo E=(gN x').2.2.2.1/\zu))/\(V=ψ->(zad G->((zy G == (3:Int))=φ->zz G/\∃(x':Bool),(x'=φ↔zav G)/\((zaa G == [(98:UInt8),97,115,101])=x'/\True)/\zag G I E)/\((zy G == (3:Int))=ψ->∃(x':Bool),(x'=φ↔zav G)/\(ψ=x'/\True)/\zag G I E))/\∀Z:Bool,(Z=φ↔zav G)->(Z=φ->zaq G I/\zat G I/\(zp E/\gE (zo E)+gE (zaw G I F)<=1000000000)/\(zak E->zah->zam E/\∃(x':zg),nE zh (hg x') (gN x')/\zan-hg x'<zao E/\(zal E=(↑(hg x'):Int)/\True)/\(E.2.1=(gN x').1/\zm E=(gN x').2.1/\zn E=(gN x').2.2.1/\zo E++zaw G I F=(gN x').2.2.2.1/\True)/\E.2.1=(gN x').1/\zm E=(gN x').2.1/\zn E=(gN x').2.2.1/\zo E++zaw G I F=(gN x').2.2.2.1/\zu))/\(Z=ψ->(zad G->((zy G == (4:Int))=φ->zz G/\∃(x':Bool),(x'=φ↔zax G)/\((zaa G == [(119:UInt8),104,111,108,101])=x'/\True)/\zag G I E)/\((zy G == (4:Int))=ψ->∃(x':Bool),(x'=φ↔zax G)/\(ψ=x'/\True)/\zag G I E))/\∀U:Bool,(U=φ↔zax G)->(U=φ->zaq G I/\zat G I/\zay G/\(zp E/\gE (zo E)+gE (zaz G I F)<=1000000000)/\(zak E->zah->zam E/\∃(x':zg),nE zh (hg x') (gN x')/\zan-hg x'<zao E/\(zal E=(↑(hg x'):Int)/\True)/\(E.2.1=(gN x').1/\zm E=(gN x').2.1/\zn E=(gN x').2.2.1/\zo E++zaz G I F=(gN x').2.2.2.1/\True)/\E.2.1=(gN x').1/\zm E=(gN x').2.1/\zn E=(gN x').2.2.1/\zo E++zaz G I F=(gN x').2.2.2.1/\zu))/\(U=ψ->(zad G->((zy G == (4:Int))=φ->zz G/\∃(x':Bool),(x'=φ↔zba G)/\((zaa G == [(110:UInt8),101,97,114])=x'/\True)/\zag G I E)/\((zy G == (4:Int))=ψ->∃(x':Bool),(x'=φ↔zba G)/\(ψ=x'/\True)/\zag G I E))/\∀Y:Bool,(Y=φ↔zba G)->(Y=φ->zaq G I/\zat G I/\zay G/\(zp E/\gE (zo E)+gE (zbb G I F)<=1000000000)/\(zak E->zah->zam E/\∃(x':zg),nE zh (hg x') (gN x')/\zan-hg x'<zao E/\(zal E=(↑(hg x'):Int)/\True)/\(E.2.1=(gN x').1/\zm E=(gN x').2.1/\zn E=(gN x').2.2.1/\zo E++zbb G I F=(gN x').2.2.2.1/\True)/\E.2.1=(gN x').1/\zm E=(gN x').2.1/\zn E=(gN x').2.2.1/\zo E++zbb G I F=(gN x').2.2.2.1/\zu))/\(Y=ψ->zc))))))))/\((ρ (zi E))=ψ->True/\((ρ (cQ E.2 > (0:Int)))=φ->zc)/\((ρ (cQ E.2 > (0:Int)))=ψ->cQ E.2=(0:Int)/\((ρ ((nO E.2).2 > (0:Int)))=φ->zc)/\((ρ ((nO E.2).2 > (0:Int)))=ψ->((!(nO E.2).1 == s)=φ->zc)/\((!(nO E.2).1 == s)=ψ->(E.2,(0:Int))=bY s))))))) κ ?_
 dsimp -iota -proj -eta only;refine fun h0=>iL (fun h1=>(aal ω)) (fun h1=>⟨?a,iB (fun h2=>(Xm ω h2)) (fun h2=>⟨(⟨(0,cD aB),nE.zero _,⟨rfl,dT⟩,θ⟩),fun E q_0 h3=>iL (fun h4=>⟨⟨?b,(by have:=Xn (s:=s) ω E.1;omega),(⟨_,rfl,⟨rfl,dT⟩,θ⟩)⟩,fun F q_1=>⟨?c,⟨iQ (fun h5=>⟨?d,(⟨_,fun _=>aak q_1 h5 rfl,⟨by rw[kp],dT⟩,θ⟩)⟩) (fun h5=>(⟨_,fun _=>aeG q_1 h5,⟨rfl,dT⟩,θ⟩)),fun G q_2=>⟨(⟨1,⟨ω,ω,.inl rfl⟩,⟨rfl,rfl,dT⟩,θ⟩),fun I q_3=>⟨fun h5=>iL (fun h6=>(⟨_,eT h6,⟨rfl,dT⟩,θ⟩)) (fun h6=>(⟨_,eF h6,⟨rfl,dT⟩,θ⟩)),fun K q_4=>⟨fun h5=>⟨?e,dT,iB (fun h6=>⟨?f,fun h7 h8=>⟨?g,(by have hc:=q_4.1 η;exact⟨I+1,⟨ω,ω,.inr ω⟩,ω,⟨ω,KN ω h6,dT⟩,KN ω h6,θ⟩)⟩⟩) (fun h6=>⟨?h,fun h7 h8=>⟨?i,(by have hc:=q_4.1 η;exact⟨I+1,⟨ω,ω,.inr ω⟩,ω,⟨ω,Pj ω h6,dT⟩,Pj ω h6,θ⟩)⟩⟩)⟩,fun h5=>⟨fun h6=>iQ (fun h7=>⟨?j,(⟨_,jT h7 rfl,⟨rfl,dT⟩,θ⟩)⟩) (fun h7=>(⟨_,jF h7 rfl,⟨rfl,dT⟩,θ⟩)),fun M q_5=>⟨fun h6=>⟨?k,?l,fun h7 h8=>⟨?m,(by(have hk:=z6 q_3 (eH q_4 η));(first|have hc:=q_10.1 η|have hc:=q_9.1 η|have hc:=q_8.1 η|have hc:=q_7.1 η|have hc:=q_6.1 η|have hc:=q_5.1 η);exact⟨(E.1+1,_),q_0.next ω ((q_2 _).trans (SH (q_5.1 η))) (rm.vO _ _),by simp only;omega,⟨by simp only;omega,dT⟩,θ⟩)⟩⟩,fun h6=>⟨fun h7=>iQ (fun h8=>⟨?n,(⟨_,jT h8 rfl,⟨rfl,dT⟩,θ⟩)⟩) (fun h8=>(⟨_,jF h8 rfl,⟨rfl,dT⟩,θ⟩)),fun Q q_6=>⟨fun h7=>⟨?o,?p,fun h8 h9=>⟨?q,(by(have hk:=z6 q_3 (eH q_4 η));(first|have hc:=q_10.1 η|have hc:=q_9.1 η|have hc:=q_8.1 η|have hc:=q_7.1 η|have hc:=q_6.1 η|have hc:=q_5.1 η);exact⟨(E.1+1,_),q_0.next ω ((q_2 _).trans (SI (k:=I) (eH q_5 η) (q_6.1 η) ω)) (rm.word _ _),by simp only;omega,⟨by simp only;omega,dT⟩,θ⟩)⟩⟩,fun h7=>⟨fun h8=>iQ (fun h9=>⟨?r,(⟨_,jT h9 rfl,⟨rfl,dT⟩,θ⟩)⟩) (fun h9=>(⟨_,jF h9 rfl,⟨rfl,dT⟩,θ⟩)),fun V q_7=>⟨fun h8=>⟨?s,?t,?u,fun h9 h10=>⟨?v,(by(have hk:=z6 q_3 (eH q_4 η));(first|have hc:=q_10.1 η|have hc:=q_9.1 η|have hc:=q_8.1 η|have hc:=q_7.1 η|have hc:=q_6.1 η|have hc:=q_5.1 η);exact⟨(E.1+1,_),q_0.next ω ((q_2 _).trans (Xj (k:=I) (q_7.1 η) ω)) (rm.sym _ _),by simp only;omega,⟨by simp only;omega,dT⟩,θ⟩)⟩⟩,fun h8=>⟨fun h9=>iQ (fun h10=>⟨?w,(⟨_,jT h10 rfl,⟨rfl,dT⟩,θ⟩)⟩) (fun h10=>(⟨_,jF h10 rfl,⟨rfl,dT⟩,θ⟩)),fun Z q_8=>⟨fun h9=>⟨?x,?y,?z,fun h10 h11=>⟨?a0,(by(have hk:=z6 q_3 (eH q_4 η));(first|have hc:=q_10.1 η|have hc:=q_9.1 η|have hc:=q_8.1 η|have hc:=q_7.1 η|have hc:=q_6.1 η|have hc:=q_5.1 η);exact⟨(E.1+1,_),q_0.next ω ((q_2 _).trans (SJ (k:=I) (eH q_7 η) (q_8.1 η) ω)) (rm.tie _ _),by simp only;omega,⟨by simp only;omega,dT⟩,θ⟩)⟩⟩,fun h9=>⟨fun h10=>iQ (fun h11=>⟨?a1,(⟨_,jT h11 rfl,⟨rfl,dT⟩,θ⟩)⟩) (fun h11=>(⟨_,jF h11 rfl,⟨rfl,dT⟩,θ⟩)),fun U q_9=>⟨fun h10=>⟨?a2,?a3,?a4,?a5,fun h11 h12=>⟨?a6,(by(have hk:=z6 q_3 (eH q_4 η));(first|have hc:=q_10.1 η|have hc:=q_9.1 η|have hc:=q_8.1 η|have hc:=q_7.1 η|have hc:=q_6.1 η|have hc:=q_5.1 η);exact⟨(E.1+1,_),q_0.next ω ((q_2 _).trans (Pk (k:=I) (q_9.1 η) ω)) (rm.tie _ _),by simp only;omega,⟨by simp only;omega,dT⟩,θ⟩)⟩⟩,fun h10=>⟨fun h11=>iQ (fun h12=>⟨?a7,(⟨_,jT h12 rfl,⟨rfl,dT⟩,θ⟩)⟩) (fun h12=>(⟨_,jF h12 rfl,⟨rfl,dT⟩,θ⟩)),fun Y q_10=>⟨fun h11=>⟨?a8,?a9,?aa,?ab,fun h12 h13=>⟨?ac,(by(have hk:=z6 q_3 (eH q_4 η));(first|have hc:=q_10.1 η|have hc:=q_9.1 η|have hc:=q_8.1 η|have hc:=q_7.1 η|have hc:=q_6.1 η|have hc:=q_5.1 η);exact⟨(E.1+1,_),q_0.next ω ((q_2 _).trans (SK (k:=I) (eH q_9 η) (q_10.1 η) ω)) (rm.tie _ _),by simp only;omega,⟨by simp only;omega,dT⟩,θ⟩)⟩⟩,fun h11=>(Xk ω q_0 ω ((q_2 _).trans (SL (eH q_5 η) (eH q_6 η) (eH q_7 η) (eH q_8 η) (eH q_9 η) (eH q_10 η))))⟩⟩⟩⟩⟩⟩⟩⟩⟩⟩⟩⟩⟩⟩⟩⟩⟩⟩) (fun h4=>⟨dT,iL (fun h5=>(Cf ω q_0 ω (.inl h5))) (fun h5=>⟨(hQ h5 (AM _)),iL (fun h6=>(Cf ω q_0 ω (.inr (.inl h6)))) (fun h6=>⟨fun h7 =>?ad,fun h7 =>?ae⟩)⟩)⟩)⟩)⟩)
 case a|b|j|n|r|w|a1|a7=>omega
 case c|d=>have:=ajg q_1;omega
 case e|k|s|a4|aa=>simp_all
 case f|h|l|p|u|z|a5|ab=>have a1:=q_0.l1;have a2:=q_0.l2;have a3:=q_0.l3;have a4:=q_0.l4;have a5:=q_0.le;have a6:=aeH (s:=s) ω;exact⟨rfl,by simp only[hA];first|omega|(rw[KM];omega)⟩
 case g|i|m|q|v|a0|a6|ac=>simp only[aF,aG]at*;omega
 case o|t|x|y|a2|a3|a8|a9=>(have hk:=z6 q_3 (eH q_4 η));(first|have hc:=q_10.1 η|have hc:=q_9.1 η|have hc:=q_8.1 η|have hc:=q_7.1 η|have hc:=q_6.1 η|have hc:=q_5.1 η);rw[KM];omega
 case ad=>
  simp only[bl,reduceCtorEq]at h7;exact Cf ω q_0 ω (.inr (.inr h7))
 case ae=>
  simp only[bl,reduceCtorEq]at h7;exact Xl ω η η h7
def wg:aL:=bP [.str] [aB,.int .i64] (fun _=>True) (fun s=>bY s)
def CO:aW prog aE.eT aH 76 φ wg:=
 aI (bO (X:=aH) agr func76 κ (fun x=>ada x) (fun x hw hp=>RY x))
def ML:List (FuncId×(Bool×aL)):=[(51,(ψ,tc)),(76,(φ,wg))]
def TX:bH prog aE aH ML:=
 aM wc (aM CO (bK bJ))
def MM(s:aA)(f:RS):cP:=[
 (0,fun st=>{X:=Nat×List aA×List (D aB),inv:=fun y=>l5 (bM f.1) s y.1 y.2.1 y.2.2,bG:=fun y=>7-y.1,bB:=fun y=>[(9,sI y.1),(7,.s (.one (.app .str y.2.1 (aS st 7)))),(8,.s (.one (.app aB y.2.2 (aS st 8))))],aK:=fun y=>[(aS st 7,.tok .str y.2.1),(aS st 8,.tok aB y.2.2)],keep:=[0],dU:=[aS st 7,aS st 8]}),
 (2,fun st=>{X:=Nat,inv:=fun k=>k<=gE (bI aB st 41).1,bG:=fun k=>gE (bI aB st 41).1-k,bB:=fun k=>[(14,sI k),(7,.s (.one (.app .str (fZ (bI (.slice .str) st 7) (hz k (bI aB st 41).1)) (aS st 7))))],aK:=fun k=>[(aS st 7,.tok .str (fZ (bI (.slice .str) st 7) (hz k (bI aB st 41).1)))],keep:=[0,4,5,6,8,9,10,12,13,19,20,21,22,25,26,27,28,29,30,31,32,33,34,35,36,37,38,39,40,41,42,43,44,45,46,47,48,49],dU:=[aS st 7]}),
 (4,fun st=>{X:=Nat,inv:=fun j=>j<=gE (bI (.slice .str) st 7),bG:=fun j=>gE (bI (.slice .str) st 7)-j,bB:=fun j=>[(16,sI j),(15,sB (hX (hz j (bI (.slice .str) st 7)) fun x=>x == (nth .str (bI aB st 41).1 (hC (bI (.int .i64) st 14)))))],keep:=[0,4,5,6,7,8,9,10,12,13,14,19,20,21,22,25,26,27,28,29,30,31,32,33,34,35,36,37,38,39,40,41,42,43,44,45,46,47,48,49,50,51,52,53,54]})]
def Iz:List (Alt cI [.obj 0,.d .str]):=[{bQ:=cI,res:=[.d (.slice .str),.d (.slice aB),.d (.int .i64)],out:=fun _ x=>x,ret:=fun a x=>((aX (bM x.1.1) a.1).1,(aX (bM x.1.1) a.1).2.1,(aX (bM x.1.1) a.1).2.2,())}]
def TY(s:aA)(f:RS)(hp:(fun _ x=>x.1.1.length<=6) (s,()) (f,())):(cE (gy aE [18]) ML f100 (MM s f) cI [.obj 0,.d .str] Iz (s,()) (f,())).holds:=by
 refine ζ (p:=let za:=aA;let zb:=Nat×List za×List (List za×List Int×List (za×Int×Bool×Unit)×List (Int×Int×Int×za×Bool×Unit)×Unit);let zc:=bM f.1;let zd:=fun(E:Nat×List aA×List (List aA×List Int×List (aA×Int×Bool×Unit)×List (Int×Int×Int×aA×Bool×Unit)×Unit))=>(↑E.1:Int)<(↑(gE E.2.1):Int);let ze:=fun(E:Nat×List aA×List (List aA×List Int×List (aA×Int×Bool×Unit)×List (Int×Int×Int×aA×Bool×Unit)×Unit))=>bM f.1 (nth Ty.str E.2.1 E.1);let zf:=(f,())=(f,());let zg:=aX (bM f.1) s;let zh:=(zg.1,zg.2.1,zg.2.2,());let zi:=fun(E:Nat×List aA×List (List aA×List Int×List (aA×Int×Bool×Unit)×List (Int×Int×Int×aA×Bool×Unit)×Unit))=>(bY (ze E).1).1.1;let zj:=fun(E:Nat×List aA×List (List aA×List Int×List (aA×Int×Bool×Unit)×List (Int×Int×Int×aA×Bool×Unit)×Unit))=>gE (zi E);let zk:=fun(E:Nat×List aA×List (List aA×List Int×List (aA×Int×Bool×Unit)×List (Int×Int×Int×aA×Bool×Unit)×Unit)) (F:Nat)=>fZ E.2.1 (hz F (zi E));let zl:=fun(E:Nat×List aA×List (List aA×List Int×List (aA×Int×Bool×Unit)×List (Int×Int×Int×aA×Bool×Unit)×Unit)) (F:Nat)=>gE (zk E F);let zm:=fun(E:Nat×List aA×List (List aA×List Int×List (aA×Int×Bool×Unit)×List (Int×Int×Int×aA×Bool×Unit)×Unit)) (F:Nat) (x:aA)=>x == nth Ty.str (zi E) F;let zn:=fun(G:Nat)=>aF (↑G:Int);let zo:=aF 1;let zp:=fun(G:Nat)=>(↑G:Int)+1;let zq:=@hq aA=@hq aA;let zr:=f.1=f.1/\f.2.1=f.2.1/\True;let zs:=fun(E:Nat×List aA×List (List aA×List Int×List (aA×Int×Bool×Unit)×List (Int×Int×Int×aA×Bool×Unit)×Unit))=>E.2.2++[(bY (ze E).1).1];let zt:=@hq (List aA×List Int×List (aA×Int×Bool×Unit)×List (Int×Int×Int×aA×Bool×Unit)×Unit)=@hq (List aA×List Int×List (aA×Int×Bool×Unit)×List (Int×Int×Int×aA×Bool×Unit)×Unit);let zu:=fun(E:Nat×List aA×List (List aA×List Int×List (aA×Int×Bool×Unit)×List (Int×Int×Int×aA×Bool×Unit)×Unit))=>(zi E=zi E/\(bY (ze E).1).1.2.1=(bY (ze E).1).1.2.1/\(bY (ze E).1).1.2.2.1=(bY (ze E).1).1.2.2.1/\(bY (ze E).1).1.2.2.2.1=(bY (ze E).1).1.2.2.2.1/\True)/\@hq (Int×Int×Int×aA×Bool×Unit)=@hq (Int×Int×Int×aA×Bool×Unit)/\@hq (aA×Int×Bool×Unit)=@hq (aA×Int×Bool×Unit)/\@hq Int=@hq Int/\zq/\zr/\zs E=zs E/\zt/\zq/\True;let zv:=fun(F:Nat) (E:Nat×List aA×List (List aA×List Int×List (aA×Int×Bool×Unit)×List (Int×Int×Int×aA×Bool×Unit)×Unit))=>0<=(↑F:Int)/\(↑F:Int)<(↑(zj E):Int);(∃(x:zb),l5 zc s (hg x) (gN x).1 (gN x).2/\(0=(↑(hg x):Int)/\[s]=(gN x).1/\@hq (List aA×List Int×List (aA×Int×Bool×Unit)×List (Int×Int×Int×aA×Bool×Unit)×Unit)=(gN x).2/\True)/\[s]=(gN x).1/\@hq (List aA×List Int×List (aA×Int×Bool×Unit)×List (Int×Int×Int×aA×Bool×Unit)×Unit)=(gN x).2/\True)/\∀E:Nat×List aA×List (List aA×List Int×List (aA×Int×Bool×Unit)×List (Int×Int×Int×aA×Bool×Unit)×Unit),l5 zc s E.1 E.2.1 E.2.2->gE E.2.1<=aG->((ρ (zd E))=φ->(0<=(↑E.1:Int)/\zd E)/\True/\(True->((ρ ((ze E).2.2 > 0))=φ->True/\zf/\([],[],(ze E).2.2,())=zh)/\((ρ ((ze E).2.2 > 0))=ψ->True/\((ρ ((bY (ze E).1).2 > 0))=φ->True/\zf/\([],[],(bY (ze E).1).2,())=zh)/\((ρ ((bY (ze E).1).2 > 0))=ψ->(E.2.2=E.2.2/\gE E.2.2+gE [(bY (ze E).1).1]<=1000000000)/\(∃(x:Nat),x<=zj E/\(0=(↑x:Int)/\E.2.1=fZ E.2.1 (hz x (zi E))/\True)/\E.2.1=fZ E.2.1 (hz x (zi E))/\True)/\∀F:Nat,F<=zj E->zj E<=aG->((ρ ((↑F:Int)<(↑(zj E):Int)))=φ->(∃(x:Nat),x<=zl E F/\(0=(↑x:Int)/\ψ=hX (hz x (zk E F)) (zm E F)/\True)/\True)/\∀G:Nat,G<=zl E F->zl E F<=aG->((ρ ((↑G:Int)<(↑(zl E F):Int)))=φ->((hX (hz G (zk E F)) (zm E F))=φ->zn G->zo->aF (zp G)/\∃(x':Nat),x'<=zl E F/\zl E F-x'<zl E F-G/\(zp G=(↑x':Int)/\φ=hX (hz x' (zk E F)) (zm E F)/\True)/\zk E F=zk E F/\zu E)/\((hX (hz G (zk E F)) (zm E F))=ψ->(0<=(↑G:Int)/\(↑G:Int)<(↑(zl E F):Int))/\zv F E/\(zn G->zo->aF (zp G)/\∃(x':Nat),x'<=zl E F/\zl E F-x'<zl E F-G/\(zp G=(↑x':Int)/\(nth Ty.str (zk E F) G == nth Ty.str (zi E) F)=hX (hz x' (zk E F)) (zm E F)/\True)/\zk E F=zk E F/\zu E)))/\((ρ ((↑G:Int)<(↑(zl E F):Int)))=ψ->((!hX (hz G (zk E F)) (zm E F))=φ->zv F E/\(zk E F=zk E F/\zl E F+gE [nth Ty.str (zi E) F]<=1000000000)/\(zn F->zo->aF (zp F)/\∃(x':Nat),x'<=zj E/\zj E-x'<zj E-F/\(zp F=(↑x':Int)/\zk E F++[nth Ty.str (zi E) F]=fZ E.2.1 (hz x' (zi E))/\True)/\zk E F++[nth Ty.str (zi E) F]=fZ E.2.1 (hz x' (zi E))/\zu E))/\((!hX (hz G (zk E F)) (zm E F))=ψ->zn F->zo->aF (zp F)/\∃(x':Nat),x'<=zj E/\zj E-x'<zj E-F/\(zp F=(↑x':Int)/\zk E F=fZ E.2.1 (hz x' (zi E))/\True)/\zk E F=fZ E.2.1 (hz x' (zi E))/\zu E)))/\((ρ ((↑F:Int)<(↑(zj E):Int)))=ψ->aF (↑E.1:Int)->zo->aF ((↑E.1:Int)+1)/\∃(x':zb),l5 zc s (hg x') (gN x').1 (gN x').2/\7-hg x'<7-E.1/\((↑E.1:Int)+1=(↑(hg x'):Int)/\zk E F=(gN x').1/\zs E=(gN x').2/\True)/\zk E F=(gN x').1/\zs E=(gN x').2/\zt/\zq/\zr/\True)))))/\((ρ (zd E))=ψ->True/\zf/\(E.2.1,E.2.2,0,())=zh)) κ ?_
 dsimp -iota -proj -eta only;dsimp only at hp;refine⟨(⟨(0,[s],[]),l5.zero _ _,⟨rfl,rfl,rfl,dT⟩,θ⟩),fun E q_0 h0=>iL (fun h1=>⟨?a,dT,fun h2=>iL (fun h3=>(by rw[q_0.Pp (dJ hp) ω ω];exact⟨dT,rfl,rfl⟩)) (fun h3=>⟨dT,iL (fun h4=>(by rw[q_0.UP ω (wQ (dJ hp) ω) ω];exact⟨dT,rfl,rfl⟩)) (fun h4=>⟨⟨rfl,q_0.I8⟩,?b,fun F q_1 h5=>iL (fun h6=>⟨?c,fun G q_2 h7=>iL (fun h8=>⟨fun h9 h10 h11=>⟨?d,(⟨G+1,ω,ω,⟨ω,aeI η,dT⟩,θ⟩)⟩,fun h9=>⟨?e,?f,fun h10 h11=>⟨?g,(⟨G+1,ω,ω,⟨ω,aeJ ω η,dT⟩,θ⟩)⟩⟩⟩) (fun h8=>iB (fun h9=>⟨?h,⟨rfl,q_0.aao (dJ hp) (u7 (wQ (dJ hp) ω) (I9 ω)) _⟩,fun h10 h11=>⟨?i,(⟨F+1,ω,ω,⟨ω,Db ω (De (j:=G) ω η),dT⟩,Db ω (De (j:=G) ω η),θ⟩)⟩⟩) (fun h9 h10 h11=>⟨?j,(⟨F+1,ω,ω,⟨ω,Dc ω (De (j:=G) ω η),dT⟩,Dc ω (De (j:=G) ω η),θ⟩)⟩))⟩) (fun h6 h7 h8=>⟨?k,(by exact⟨(E.1+1,_,_),q_0.next (dJ hp) ω (u7 (wQ (dJ hp) ω) (I9 ω)),by have:=q_0.room (dJ hp) ω (u7 (wQ (dJ hp) ω) (I9 ω));simp only;omega,⟨by simp only;omega,Dd ω,rfl,dT⟩,Dd ω,rfl,θ⟩)⟩)⟩)⟩)⟩) (fun h1=>(by rw[q_0.done ω];exact⟨dT,rfl,rfl⟩))⟩
 case a|e|f|h=>omega
 case b|c=>exact⟨0,hE _,⟨rfl,rfl,dT⟩,θ⟩
 case d|g|i|j|k=>simp only[aF,aG]at*;omega
def Ez:aL:=bU cI [.obj 0,.d .str] (fun _ x=>x.1.1.length<=6) Iz
def TZ:aW prog aE.eT aH 100 ψ Ez:=
 bA (B:=(gy aE [18])) (X:=aH) (bH.hint (l:=[18]) TX) func100 κ (fun(a:CD [.obj 0,.d .str]) (x:PD cI)=>MM a.1 x.1) (fun a x hw hp=>TY a.1 x.1 hp)
def adb(n:Int)(hp:(fun n=>0<=n/\n<=1000000) n):(cH aE [] f130 [] [.int .i64] [.int .i64] (fun x y=>y=(fun n=>cS n) x) n).holds:=by
 refine ζ (p:=let za:=(16:Int)≠(0:Int);let zb:=aF (n+(16:Int));za/\∀E:Int,E=j4 n (16:Int)->((ρ (E > (0:Int)))=φ->aF n->aF (16:Int)->zb/\za/\∀F:Int,F=j4 n (16:Int)->zb->aF F->aF (n+(16:Int)-F)/\n+(16:Int)-F=cS n)/\((ρ (E > (0:Int)))=ψ->n=cS n)) κ ?_
 dsimp -iota -proj -eta only;refine⟨?a,fun E q_0=>iL (fun h0 h1 h2=>⟨?b,?c,fun F q_1 h3 h4=>⟨?d,?e⟩⟩) (fun h0 =>?f)⟩
 case a|c=>omega
 case b|d=>simp only[aF]at*;omega
 case e|f=>subst_vars;simp only[j6 hp.1]at*;(try unfold cS);(try simp only[aF]);omega
def ade:aW prog aE.eT aH 130 φ Av:=
 aI (bO (X:=aH) (bK bJ) func130 κ (fun _=>[]) (fun x hw hp=>adb x hp))
def MN:List (FuncId×(Bool×aL)):=[(130,(φ,Av))]
def T0:bH prog aE aH MN:=
 aM ade (bK bJ)
def MO(s:List Int)(l:List (D bE)):cP:=[
 (0,fun st=>{X:=Nat,inv:=fun i=>i<=s.length/\∀j,j<i->1<=(nth (.int .i64) s j:Int)/\(nth (.int .i64) s j:Int)<=40,bG:=fun i=>s.length-i,bB:=fun i=>[(6,sI i)],keep:=[0,1]}),
 (2,fun st=>{X:=Nat,inv:=fun i=>i<=l.length/\∀j,j<i->kI (nth bE l j),bG:=fun i=>l.length-i,bB:=fun i=>[(7,sI i)],keep:=[0,1]}),
 (4,fun st=>{X:=Nat,inv:=fun i=>i<=l.length,bG:=fun i=>l.length-i,bB:=fun i=>[(10,sI i)],aK:=fun i=>[(aS st 9,.arr .bool (mz (l.take i)))],keep:=[0,1,4,5,9],dU:=[aS st 9]}),
 (6,fun st=>{X:=Nat,inv:=fun k=>(k:Int)<=(nth bE l (bI (.int .i64) st 10).toNat).2.1,bG:=fun k=>300-k,bB:=fun k=>[(11,sI k)],aK:=fun k=>[(aS st 9,.arr .bool (ki (rowOf .bool st (aS st 9)) (nth bE l (bI (.int .i64) st 10).toNat).1 k))],keep:=[0,1,4,5,9,10,73,74,75,76],dU:=[aS st 9]}),
 (8,fun st=>{X:=Nat×List (D bE)×List Int,inv:=fun x=>x.1<=s.length/\gv x.2.1 (s.drop x.1) x.2.2=gv l s []/\(∀y∈x.2.1,kI y)/\x.2.1.length=l.length+x.1/\x.2.2.length=x.1,bG:=fun x=>s.length-x.1,bB:=fun x=>[(13,sI x.1),(12,.s (.one (.app (.int .i64) x.2.2 (aS st 12))))],aK:=fun x=>[(aS st 9,.arr .bool (mz x.2.1)),(aS st 12,.tok (.int .i64) x.2.2)],keep:=[0,9],dU:=[aS st 9,aS st 12]}),
 (10,fun st=>{X:=Nat,inv:=fun j=>j<=32/\pw (rowOf .bool st (aS st 9)) (bI (.int .i64) st 14) (40-j) (16*(j:Int))=pw (rowOf .bool st (aS st 9)) (bI (.int .i64) st 14) 40 0,bG:=fun j=>40-j,bB:=fun j=>[(15,sI (16*(j:Int)))],keep:=[0,4,5,9,12,13,14,96,97,98,99,102,103,104,105,106]}),
 (12,fun st=>{X:=Nat,inv:=fun k=>(k:Int)<=bI (.int .i64) st 14,bG:=fun k=>300-k,bB:=fun k=>[(17,sI k),(16,sB (kg (rowOf .bool st (aS st 9)) (bI (.int .i64) st 15) k))],keep:=[0,4,5,9,12,13,14,15,96,97,98,99,102,103,104,105,106]}),
 (14,fun st=>{X:=Nat,inv:=fun k=>(k:Int)<=bI (.int .i64) st 14,bG:=fun k=>300-k,bB:=fun k=>[(18,sI k)],aK:=fun k=>[(aS st 9,.arr .bool (ki (rowOf .bool st (aS st 9)) (bI (.int .i64) st 15) k))],keep:=[0,4,5,9,12,13,14,15,16,17,96,97,98,99,102,103,104,105,106,107,108,109,110,111,112,113,114,115,116,117,118,119,120,121,122,123,124,125,126,127,128,129,130,131,132,133],dU:=[aS st 9]})]
def adf(s:List Int)(l:List (D bE)):(cH aE MN f101 (MO s l) [.slice (.int .i64),.slice bE] [.slice (.int .i64),.int .i64] (fun x y=>y=(fun x=>rA x) x) (s,l)).holds:=by
 refine ζ (p:=let za:=gE s;let zb:=za<=aG;let zc:=(↑za:Int);let zd:=rA (s,l);let ze:=([],(2:Int))=zd;let zf:=gE l;let zg:=zf<=aG;let zh:=Ty.int hP;let zi:=fun(E:Nat)=>(↑E:Int);let zj:=fun(E:Nat)=>(0:Int)<=zi E/\zi E<zc;let zk:=([],(1:Int))=zd;let zl:=fun(E:Nat)=>aF (zi E);let zm:=aF (1:Int);let zn:=fun(E:Nat)=>zi E+(1:Int);let zo:=fun(E:Nat)=>aF (zn E);let zp:=@hq Int=@hq Int/\True;let zq:=fun(F:Nat)=>ρ (zi F<(↑zf:Int));let zr:=fun(F:Nat)=>(0:Int)<=zi F/\zi F<(↑zf:Int);let zs:=fun(F:Nat)=>(nth bE l F).1;let zt:=fun(F:Nat)=>(nth bE l F).2.1;let zu:=fun(G:Nat)=>mz (hz G l);let zv:=(↑(600:Nat):Int);let zw:=Int×Int×Unit;let zx:=Nat×List zw×List Int;let zy:=gv l s (@hq Int);let zz:=fun(I:Nat×List (Int×Int×Unit)×List Int)=>mz I.2.1;let zaa:=fun(I:Nat×List (Int×Int×Unit)×List Int)=>cS (nth zh s I.1);let zab:=fun(I:Nat×List (Int×Int×Unit)×List Int)=>pw (zz I) (zaa I) (40:Nat) (0:Int);let zac:=fun(K:Nat)=>(16:Int)*zi K;let zad:=fun(K M:Nat)=>zac K+zi M;let zae:=fun(I:Nat×List (Int×Int×Unit)×List Int)=>zz I=zz I/\I.2.2=I.2.2/\zp;let zaf:=fun(I:Nat×List (Int×Int×Unit)×List Int) (K:Nat) (M:Nat)=>((kg (zz I) (zac K) M)=φ->aF (zac K)->aF (zaa I)->aF (zac K+zaa I)/\((ρ (zac K+zaa I > (256:Int)))=φ->([],(8:Int))=zd)/\((ρ (zac K+zaa I > (256:Int)))=ψ->(∃(x:Nat),(↑x:Int)<=zaa I/\((0:Int)=(↑x:Int)/\True)/\zz I=ki (zz I) (zac K) x/\True)/\∀Q:Nat,zi Q<=zaa I->((ρ (zi Q<zaa I))=φ->aF (zac K)->zl Q->aF (zad K Q)/\((0:Int)<=zad K Q/\zad K Q<zv/\zad K Q<(↑(gE (ki (zz I) (zac K) Q)):Int))/\hC (zad K Q)<gE (ki (zz I) (zac K) Q)/\(zl Q->zm->zo Q/\∃(x':Nat),(↑x':Int)<=zaa I/\(300:Nat)-x'<(300:Nat)-Q/\(zn Q=(↑x':Int)/\True)/\ix (ki (zz I) (zac K) Q) (hC (zad K Q)) φ=ki (zz I) (zac K) x'/\I.2.2=I.2.2/\zp))/\((ρ (zi Q<zaa I))=ψ->(I.2.2=I.2.2/\gE I.2.2+gE [zac K]<=(1000000000:Nat))/\(aF (↑I.1:Int)->zm->aF ((↑I.1:Int)+(1:Int))/\∃(x':zx),(hg x'<=za/\gv (gN x').1 (hB (hg x') s) (gN x').2=zy/\(∀(y:zw),y∈(gN x').1->kI y)/\gE (gN x').1=zf+hg x'/\gE (gN x').2=hg x')/\za-hg x'<za-I.1/\((↑I.1:Int)+(1:Int)=(↑(hg x'):Int)/\I.2.2++[zac K]=(gN x').2/\True)/\ki (zz I) (zac K) Q=mz (gN x').1/\I.2.2++[zac K]=(gN x').2/\zp))))/\((kg (zz I) (zac K) M)=ψ->aF (zac K)->aF (16:Int)->aF (zac K+(16:Int))/\∃(x':Nat),(x'<=(32:Nat)/\pw (zz I) (zaa I) ((40:Nat)-x') ((16:Int)*(↑x':Int))=zab I)/\(40:Nat)-x'<(40:Nat)-K/\(zac K+(16:Int)=(16:Int)*(↑x':Int)/\True)/\zae I);zb->((ρ (zc > (6:Int)))=φ->ze)/\((ρ (zc > (6:Int)))=ψ->zg->((ρ ((↑zf:Int) > (20:Int)))=φ->ze)/\((ρ ((↑zf:Int) > (20:Int)))=ψ->(∃(x:Nat),(x<=za/\∀(j:Nat),j<x->(1:Int)<=nth zh s j/\nth zh s j<=(40:Int))/\((0:Int)=(↑x:Int)/\True)/\True)/\∀E:Nat,(E<=za/\∀(j:Nat),j<E->(1:Int)<=nth zh s j/\nth zh s j<=(40:Int))->zb->((ρ (zi E<zc))=φ->zj E/\((ρ (nth zh s E<(1:Int)))=φ->zk)/\((ρ (nth zh s E<(1:Int)))=ψ->zj E/\((ρ (nth zh s E > (40:Int)))=φ->zk)/\((ρ (nth zh s E > (40:Int)))=ψ->zl E->zm->zo E/\∃(x':Nat),(x'<=za/\∀(j:Nat),j<x'->(1:Int)<=nth zh s j/\nth zh s j<=(40:Int))/\za-x'<za-E/\(zn E=(↑x':Int)/\True)/\zp)))/\((ρ (zi E<zc))=ψ->(∃(x:Nat),(x<=zf/\∀(j:Nat),j<x->kI (nth bE l j))/\((0:Int)=(↑x:Int)/\True)/\True)/\∀F:Nat,(F<=zf/\∀(j:Nat),j<F->kI (nth bE l j))->zg->((zq F)=φ->zr F/\((ρ (zs F<(0:Int)))=φ->zk)/\((ρ (zs F<(0:Int)))=ψ->((ρ (zs F > (256:Int)))=φ->zk)/\((ρ (zs F > (256:Int)))=ψ->((ρ (zt F<(0:Int)))=φ->zk)/\((ρ (zt F<(0:Int)))=ψ->((ρ (zt F > (256:Int)))=φ->zk)/\((ρ (zt F > (256:Int)))=ψ->zl F->zm->zo F/\∃(x':Nat),(x'<=zf/\∀(j:Nat),j<x'->kI (nth bE l j))/\zf-x'<zf-F/\(zn F=(↑x':Int)/\True)/\zp)))))/\((zq F)=ψ->(∃(x:Nat),x<=zf/\((0:Int)=(↑x:Int)/\True)/\ks (600:Nat) (cD Ty.bool)=mz (hz x l)/\True)/\∀G:Nat,G<=zf->zg->((zq G)=φ->(∃(x:Nat),(↑x:Int)<=zt G/\((0:Int)=(↑x:Int)/\True)/\zu G=ki (zu G) (zs G) x/\True)/\∀I:Nat,zi I<=zt G->zr G/\((ρ (zi I<zt G))=φ->zr G/\(aF (zs G)->zl I->aF (zs G+zi I)/\((0:Int)<=zs G+zi I/\zs G+zi I<zv/\zs G+zi I<(↑(gE (ki (zu G) (zs G) I)):Int))/\hC (zs G+zi I)<gE (ki (zu G) (zs G) I)/\(zl I->zm->zo I/\∃(x':Nat),(↑x':Int)<=zt G/\(300:Nat)-x'<(300:Nat)-I/\(zn I=(↑x':Int)/\True)/\ix (ki (zu G) (zs G) I) (hC (zs G+zi I)) φ=ki (zu G) (zs G) x'/\zp)))/\((ρ (zi I<zt G))=ψ->zl G->zm->zo G/\∃(x':Nat),x'<=zf/\zf-x'<zf-G/\(zn G=(↑x':Int)/\True)/\ki (zu G) (zs G) I=mz (hz x' l)/\zp))/\((zq G)=ψ->(∃(x:zx),(hg x<=za/\gv (gN x).1 (hB (hg x) s) (gN x).2=zy/\(∀(y:zw),y∈(gN x).1->kI y)/\gE (gN x).1=zf+hg x/\gE (gN x).2=hg x)/\((0:Int)=(↑(hg x):Int)/\@hq Int=(gN x).2/\True)/\zu G=mz (gN x).1/\@hq Int=(gN x).2/\True)/\∀I:Nat×List (Int×Int×Unit)×List Int,I.1<=za/\gv I.2.1 (hB I.1 s) I.2.2=zy/\(∀(y:zw),y∈I.2.1->kI y)/\gE I.2.1=zf+I.1/\gE I.2.2=I.1->zb->((ρ ((↑I.1:Int)<zc))=φ->((0:Int)<=(↑I.1:Int)/\(↑I.1:Int)<zc)/\((0:Int)<=nth zh s I.1/\nth zh s I.1<=(1000000:Int))/\(∃(x:Nat),(x<=(32:Nat)/\pw (zz I) (zaa I) ((40:Nat)-x) ((16:Int)*(↑x:Int))=zab I)/\((0:Int)=(16:Int)*(↑x:Int)/\True)/\True)/\∀K:Nat,K<=(32:Nat)/\pw (zz I) (zaa I) ((40:Nat)-K) (zac K)=zab I->(∃(x:Nat),(↑x:Int)<=zaa I/\((0:Int)=(↑x:Int)/\φ=kg (zz I) (zac K) x/\True)/\True)/\∀M:Nat,zi M<=zaa I->((ρ (zi M<zaa I))=φ->((kg (zz I) (zac K) M)=φ->aF (zac K)->zl M->aF (zad K M)/\((ρ (zad K M>=(600:Int)))=φ->zl M->zm->zo M/\∃(x':Nat),(↑x':Int)<=zaa I/\(300:Nat)-x'<(300:Nat)-M/\(zn M=(↑x':Int)/\φ=kg (zz I) (zac K) x'/\True)/\zae I)/\((ρ (zad K M>=(600:Int)))=ψ->aF (zac K)->zl M->aF (zad K M)/\((0:Int)<=zad K M/\zad K M<zv/\zad K M<(↑(gE (zz I)):Int))/\hC (zad K M)<gE (zz I)/\(zl M->zm->zo M/\∃(x':Nat),(↑x':Int)<=zaa I/\(300:Nat)-x'<(300:Nat)-M/\(zn M=(↑x':Int)/\(!nth Ty.bool (zz I) (hC (zad K M)))=kg (zz I) (zac K) x'/\True)/\zae I)))/\((kg (zz I) (zac K) M)=ψ->zaf I K M))/\((ρ (zi M<zaa I))=ψ->zaf I K M))/\((ρ ((↑I.1:Int)<zc))=ψ->(I.2.2,(0:Int))=zd))))))) κ ?_
 dsimp -iota -proj -eta only;refine fun h0=>iL (fun h1 =>?a) (fun h1 h2=>iL (fun h3 =>?b) (fun h3=>⟨?c,fun E q_0 h4=>iL (fun h5=>⟨?d,iL (fun h6 =>?e) (fun h6=>⟨?f,iL (fun h7 =>?g) (fun h7 h8 h9=>⟨?h,(by(try dsimp only[D]at*);exact⟨E+1,⟨ω,fun j hj=>by by_cases e:j=E;(subst e;(try dsimp only[D]);omega);exact q_0.2 j ω⟩,ω,⟨ω,dT⟩,θ⟩)⟩)⟩)⟩) (fun h5=>⟨?i,fun F q_1 h6=>iL (fun h7=>⟨?j,iL (fun h8 =>?k) (fun h8=>iL (fun h9 =>?l) (fun h9=>iL (fun h10 =>?m) (fun h10=>iL (fun h11 =>?n) (fun h11 h12 h13=>⟨?o,(by(try dsimp only[D]at*);exact⟨F+1,⟨ω,fun j hj=>by by_cases e:j=F;(subst e;unfold kI;(try dsimp only[D]);omega);exact q_1.2 j ω⟩,ω,⟨ω,dT⟩,θ⟩)⟩))))⟩) (fun h7=>⟨?p,fun G q_2 h8=>iL (fun h9=>⟨?q,fun I q_3=>⟨?r,iL (fun h10=>⟨?s,fun h11 h12=>⟨?t,?u,?v,fun h13 h14=>⟨?w,?x⟩⟩⟩) (fun h10 h11 h12=>⟨?y,(by(try dsimp only[D]at*);exact⟨G+1,ω,ω,⟨ω,dT⟩,WJ ω (by(try dsimp only[D]);omega),θ⟩)⟩)⟩⟩) (fun h9=>⟨(⟨(0,l,[]),⟨hE _,rfl,(fun y (hy:y∈l)=>by obtain⟨i,hi,e⟩:=gO (t:=bE) hy;rw[<-e];exact q_1.2 i ω),rfl,rfl⟩,θ,by rw[hT ω],θ⟩),fun I q_3 h10=>iL (fun h11=>⟨?z,(by have:=q_0.2 I.1 ω;(try dsimp only[D]at*);omega),?a0,fun K q_4=>⟨?a1,fun M q_5=>iL (fun h12=>⟨fun h13 h14 h15=>⟨?a2,iE (fun h16 h17 h18=>⟨?a3,?a4⟩) (fun h16 h17 h18=>⟨?a5,?a6,?a7,fun h19 h20=>⟨?a8,?a9⟩⟩)⟩,fun h13=>⟨fun h14 h15 h16=>⟨?aa,iL (fun h17 =>?ab) (fun h17=>⟨?ac,fun Q q_6=>iL (fun h18 h19 h20=>⟨?ad,?ae,?af,fun h21 h22=>⟨?ag,?ah⟩⟩) (fun h18=>⟨?ai,fun h19 h20=>⟨?aj,?ak⟩⟩)⟩)⟩,fun h14 h15 h16=>⟨?al,?am⟩⟩⟩) (fun h12=>⟨fun h13 h14 h15=>⟨?an,iL (fun h16 =>?ao) (fun h16=>⟨?ap,fun Q q_6=>iL (fun h17 h18 h19=>⟨?aq,?ar,?au,fun h20 h21=>⟨?av,?aw⟩⟩) (fun h17=>⟨(by simp only[hA,true_and];omega),fun h18 h19=>⟨?ax,?ay⟩⟩)⟩)⟩,fun h13 h14 h15=>⟨?az,?b0⟩⟩)⟩⟩) (fun h11=>(by unfold rA;rw[tV ω (fun j hj=>q_0.2 j ω) (fun j hj=>q_1.2 j ω),<-q_3.2.1,DO ω];rfl))⟩)⟩)⟩)⟩))
 case a|b=>unfold rA;rw[xm ω];rfl
 case c|i|p|a0=>refine⟨0,?_⟩;(repeat' (first|exact trivial|rfl|omega|assumption|apply And.intro))
 case d|f|j|r|s|z=>omega
 case e|g=>(try dsimp only[D]at*);unfold rA;rw[xn ω (i:=E) ω (by(try dsimp only[D]);omega)];rfl
 case h|o|y=>simp only[aF,aG]at*;omega
 case k|l|m|n=>(try dsimp only[D]at*);unfold rA;rw[vF ω (i:=F) ω (by unfold kI;(try dsimp only[D]);omega)];rfl
 case q=>
  have ok:=q_1.2 G ω;unfold kI at ok;(try dsimp only[D]at*);exact⟨0,ω,⟨rfl,dT⟩,(GG (vG _)).symm,dT⟩
 case t|w=>
  have ok:=q_1.2 G ω;unfold kI at ok;(try dsimp only[D]at*);simp only[aF];omega
 case u|v=>
  have ok:=q_1.2 G ω;unfold kI at ok;(try dsimp only[D]at*);rw[rZ];omega
 case x=>
  have ok:=q_1.2 G ω;unfold kI at ok;(try dsimp only[D]at*);exact⟨I+1,ω,ω,⟨ω,dT⟩,Ka ω ω,θ⟩
 case a1=>
  have hs:=q_0.2 I.1 ω;have hr:=eM hs.1 hs.2;exact⟨0,ω,⟨rfl,rfl,dT⟩,dT⟩
 case a2|a3|a5|a8|al|an|aq|av|ax|az=>
  have hs:=q_0.2 I.1 ω;have hr:=eM hs.1 hs.2;simp only[aF];omega
 case a4=>
  have hs:=q_0.2 I.1 ω;have hr:=eM hs.1 hs.2;exact⟨M+1,ω,ω,⟨ω,Sp h13 ω,dT⟩,θ⟩
 case a6|a7=>
  have hs:=q_0.2 I.1 ω;have hr:=eM hs.1 hs.2;rw[vG];omega
 case a9=>
  have hs:=q_0.2 I.1 ω;have hr:=eM hs.1 hs.2;exact⟨M+1,ω,ω,⟨ω,Sq h13 ω,dT⟩,θ⟩
 case aa|ab|ac|ad|ae|af|ag|ah|ai|aj|ak=>exact absurd (h14.symm.trans h13) δ
 case am|b0=>
  have hs:=q_0.2 I.1 ω;have hr:=eM hs.1 hs.2;have hfu:kg (mz I.2.1) (16*(K:Int)) (cS (nth (.int .i64) s I.1)).toNat=ψ:=WK ω h13;have hn:=J7 q_3.2.2.1 ((GJ q_3.2.2.1 ω ω).symm.trans hfu);exact⟨K+1,⟨ω,by rw[<-q_4.2,show 40-K=(40-(K+1))+1 by omega,ad6 hfu,show 16*((K+1:Nat):Int)=16*(K:Int)+16 by omega]⟩,ω,⟨ω,dT⟩,θ⟩
 case ao=>
  have hs:=q_0.2 I.1 ω;have hr:=eM hs.1 hs.2;have e5:M=hC (cS (nth (.int .i64) s I.1)):=ω;rw[e5]at h13;have hb:=q_4.2.symm.trans (GI h13);rw[GK q_3.2.2.1 ω _ _ ω]at hb;unfold rA;rw[tV ω (fun j hj=>q_0.2 j ω) (fun j hj=>q_1.2 j ω),<-q_3.2.1,pP ω,π (by rw[hb];omega)];rfl
 case ap=>
  have hs:=q_0.2 I.1 ω;have hr:=eM hs.1 hs.2;exact⟨0,ω,⟨rfl,dT⟩,(GG (vG _)).symm,dT⟩
 case ar|au=>
  have hs:=q_0.2 I.1 ω;have hr:=eM hs.1 hs.2;rw[rZ];omega
 case aw=>
  have hs:=q_0.2 I.1 ω;have hr:=eM hs.1 hs.2;exact⟨Q+1,ω,ω,⟨ω,dT⟩,Ka ω ω,θ⟩
 case ay=>
  have hs:=q_0.2 I.1 ω;have hr:=eM hs.1 hs.2;have e5:M=hC (cS (nth (.int .i64) s I.1)):=ω;rw[e5]at h13;have hb:=q_4.2.symm.trans (GI h13);rw[GK q_3.2.2.1 ω _ _ ω]at hb;exact⟨(I.1+1,I.2.1++[(16*(K:Int),cS (nth (.int .i64) s I.1),())],_),⟨ω,by rw[<-q_3.2.1,pP (k:=I.1) ω,ε (by rw[hb];omega),hb],Oy q_3.2.2.1 (by refine⟨?_,?_,?_,?_⟩ <;> simp only <;> omega),by simp only[hD,hA];omega,by simp only[hD,hA];omega⟩,by simp only;omega,⟨by simp only;omega,rfl,dT⟩,GH ω,θ⟩
def MP:aL:=bP [.slice (.int .i64),.slice bE] [.slice (.int .i64),.int .i64] (fun _=>True) (fun x=>rA x)
def adg:aW prog aE.eT aH 101 φ MP:=
 aI (bO (X:=aH) T0 func101 κ (fun x=>MO x.1 x.2) (fun x hw hp=>adf x.1 x.2))
def RZ:List (FuncId×(Bool×aL)):=[(100,(ψ,Ez)),(101,(φ,MP)),(102,(φ,Et))]
def YV:bH prog aE aH RZ:=
 aM TZ (aM adg (aM TG (bK bJ)))
def R0(_s:aA)(_f:RS):cP:=[
 (0,fun st=>{X:=Nat,inv:=fun i=>i<=gE (bI (.slice aB) st 8),bG:=fun i=>gE (bI (.slice aB) st 8)-i,bB:=fun i=>[(11,sI i),(10,.s (.one (.app (.int .i64) (bX (hz i (bI (.slice aB) st 8))) (aS st 10))))],aK:=fun i=>[(aS st 10,.tok (.int .i64) (bX (hz i (bI (.slice aB) st 8))))],keep:=[4,5,6,7,8,9],dU:=[aS st 10]}),
 (200002,fun st=>{X:=Nat,inv:=fun i=>i<=gE (bI (.slice aB) st 8),bG:=fun i=>gE (bI (.slice aB) st 8)-i,bB:=fun i=>[(15,sI i)],aY:=[.ext 0 (.slice bS)],refs:=[(14,0)],pd:=fun i=>(eD (bI (.slice .str) st 7) (bI (.slice (.int .i64)) st 12) (ia (cM (bI (.slice aB) st 8)) (bI (.slice aQ) st 13)) i,()),keep:=[4,5,6,7,8,12,13]}),
 (4,fun st=>{X:=Nat,inv:=fun k=>k<=gE (bI (.slice aQ) st 13),bG:=fun k=>gE (bI (.slice aQ) st 13)-k,bB:=fun k=>[(17,sI k)],aK:=fun k=>[(aS st 16,.bD (.int .i64) (nB (nth aB (bI (.slice aB) st 8) (bI (.int .i64) st 15).toNat).2.1 (bI (.int .i64) st 15).toNat (hz k (bI (.slice aQ) st 13))))],keep:=[4,5,6,7,8,12,13,14,15,16,60,61,62,63,66,67,68,69,70,71],dU:=[aS st 16]})]
def MQ:List (Alt cI [.obj 0,.d .str]):=[{bQ:=cI,res:=[.d (.slice bS),.d (.slice aQ),.d (.int .i64)],out:=fun _ x=>x,ret:=fun a x=>((cR (bM x.1.1) a.1).1,(bC (bM x.1.1) a.1).2.2.2.1,(cR (bM x.1.1) a.1).2,())}]
def YW(s:aA)(f:RS)(hp:(fun _ x=>x.1.1.length<=6) (s,()) (f,())):(cE (gy aE [14]) RZ f58 (R0 s f) cI [.obj 0,.d .str] MQ (s,()) (f,())).holds:=by
 refine ζ (p:=let za:=bM f.1;let zb:=aX za s;let zc:=(f,())=(f,());let zd:=((cR za s).1,(bC za s).2.2.2.1,(cR za s).2,());let ze:=zb.2.1;let zf:=gE ze;let zg:=fun(E:Nat)=>(↑E:Int);let zh:=fun(E:Nat)=>ρ (zg E<(↑zf:Int));let zi:=fun(E:Nat)=>0<=zg E;let zj:=fun(E:Nat)=>zi E/\zg E<(↑zf:Int);let zk:=fun(E:Nat)=>(nth aB ze E).2.1;let zl:=fun(E:Nat)=>bX (hz E ze);let zm:=aF 1;let zn:=fun(E:Nat)=>zg E+1;let zo:=fun(E:Nat)=>zl E++[(↑(gE (zk E)):Int)];let zp:=(f.1=f.1/\f.2.1=f.2.1/\True)/\@hq (Int×Int×Int×Unit)=@hq (Int×Int×Int×Unit)/\@hq (aA×Int×List Int×Unit)=@hq (aA×Int×List Int×Unit)/\True;let zq:=fun(E:Nat)=>cF (zl E,[]);let zr:=fun(E:Nat)=>jB (eX (ze,(zq E).1)).2;let zs:=fun(E:Nat)=>zl E=zl E/\zp;let zt:=!ψ;let zu:=(zt&&(zt&&(zt&&(zt&&φ))))=φ;let zv:=fun(E:Nat)=>(eX (ze,(zq E).1)).1;let zw:=fun(E:Nat)=>ia (cM ze) (zv E);let zx:=fun(E:Nat)=>gE (zv E);let zy:=fun(G E:Nat)=>zi G/\zg G<(↑(zx E):Int);let zz:=fun(F G E:Nat)=>nB (zk F) F (hz G (zv E));let zaa:=fun(E F:Nat)=>eD zb.1 (zq E).1 (zw E) F;let zab:=fun(F E G:Nat)=>[(nth Ty.str zb.1 F,nth (Ty.int hP) (zq E).1 F,zz F G E,())];gE f.1<=6/\(True->((ρ (zb.2.2 > 0))=φ->True/\zc/\([],[],zb.2.2,())=zd)/\((ρ (zb.2.2 > 0))=ψ->(∃(x:Nat),x<=zf/\(0=(↑x:Int)/\@hq Int=bX (hz x ze)/\True)/\@hq Int=bX (hz x ze)/\True)/\∀E:Nat,E<=zf->zf<=aG->((zh E)=φ->zj E/\(gE (zk E)<=aG->(zl E=zl E/\gE (zl E)+gE [(↑(gE (zk E)):Int)]<=1000000000)/\(aF (zg E)->zm->aF (zn E)/\∃(x':Nat),x'<=zf/\zf-x'<zf-E/\(zn E=(↑x':Int)/\zo E=bX (hz x' ze)/\True)/\zo E=bX (hz x' ze)/\zp)))/\((zh E)=ψ->True/\((ρ (jB (zq E).2 > 0))=φ->True/\zc/\([],[],jB (zq E).2,())=zd)/\((ρ (jB (zq E).2 > 0))=ψ->lX ze/\((ρ (zr E > 0))=φ->True/\zc/\([],[],zr E,())=zd)/\((ρ (zr E > 0))=ψ->(∃(x':Nat),x'<=zf/\True/\(0=(↑x':Int)/\True)/\zs E/\zu/\([],())=(eD zb.1 (zq E).1 (zw E) x',()))/\∀F:Nat,F<=zf->zf<=aG->((zh F)=φ->zj F/\gE (zk F)<=1000000000/\(∃(x:Nat),x<=zx E/\(0=(↑x:Int)/\True)/\zk F=nB (zk F) F (hz x (zv E))/\True)/\∀G:Nat,G<=zx E->zx E<=aG->((ρ (zg G<(↑(zx E):Int)))=φ->zy G E/\(((nth aQ (zv E) G).1 == zg F)=φ->zy G E/\zy G E/\(0<=(nth aQ (zv E) G).2.1/\(nth aQ (zv E) G).2.1<(↑(gE (zz F G E)):Int))/\hC (nth aQ (zv E) G).2.1<gE (zz F G E)/\(aF (zg G)->zm->aF (zn G)/\∃(x':Nat),x'<=zx E/\zx E-x'<zx E-G/\(zn G=(↑x':Int)/\True)/\ix (zz F G E) (hC (nth aQ (zv E) G).2.1) (nth aQ (zv E) G).2.2.1=nB (zk F) F (hz x' (zv E))/\zaa E F=zaa E F/\zs E))/\(((nth aQ (zv E) G).1 == zg F)=ψ->aF (zg G)->zm->aF (zn G)/\∃(x':Nat),x'<=zx E/\zx E-x'<zx E-G/\(zn G=(↑x':Int)/\True)/\zz F G E=nB (zk F) F (hz x' (zv E))/\zaa E F=zaa E F/\zs E))/\((ρ (zg G<(↑(zx E):Int)))=ψ->(zi F/\zg F<(↑(gE zb.1):Int))/\(zi F/\zg F<(↑(gE (zq E).1):Int))/\(0<gE (zab F E G)/\gE (zaa E F)+gE (zab F E G)<=1000000000)/\(aF (zg F)->zm->aF (zn F)/\∃(x':Nat),x'<=zf/\zf-x'<zf-F/\(zn F=(↑x':Int)/\True)/\zs E/\zu/\(zaa E F++zab F E G,())=(eD zb.1 (zq E).1 (zw E) x',()))))/\((zh F)=ψ->True/\zc/\(zaa E F,zv E,0,())=zd))))))) κ ?_
 dsimp -iota -proj -eta only;dsimp only at hp;refine⟨θ,fun h0=>iL (fun h1=>⟨dT,rfl,Pb ω⟩) (fun h1=>⟨(⟨0,hE _,⟨rfl,rfl,dT⟩,rfl,dT⟩),fun E q_0 h2=>iL (fun h3=>⟨?a,fun h4=>⟨(by exact⟨rfl,by rw[qw,hR];have:=Cb (dJ hp) (hQ h1 (ja (dJ hp) s));simp only[hA];omega⟩),fun h5 h6=>⟨?b,(⟨E+1,ω,ω,⟨ω,(tB ω).symm,dT⟩,(tB ω).symm,θ⟩)⟩⟩⟩) (fun h3=>⟨dT,iL (fun h4 =>?c) (fun h4=>⟨(G5 (dJ hp) (hQ h1 (ja (dJ hp) s))),iL (fun h5 =>?d) (fun h5=>⟨(⟨0,hE _,dT,⟨rfl,dT⟩,θ,rfl,rfl⟩),fun F q_1 h6=>iL (fun h7=>⟨?e,?f,(⟨0,hE _,⟨rfl,dT⟩,rfl,θ⟩),fun G q_2 h8=>iL (fun h9=>⟨?g,iQ (fun h10=>⟨?h,?i,?j,?k,fun h11 h12=>⟨?l,(⟨G+1,ω,ω,⟨ω,dT⟩,ad9 ω h10,θ⟩)⟩⟩) (fun h10 h11 h12=>⟨?m,(⟨G+1,ω,ω,⟨ω,dT⟩,ZO ω h10,θ⟩)⟩)⟩) (fun h9=>⟨(by have:=(zY (dJ hp) (hQ h1 (ja (dJ hp) s))).len;omega),?n,?o,fun h10 h11=>⟨?p,?q⟩⟩)⟩) (fun h7 =>?r)⟩)⟩)⟩)⟩)⟩
 case a|e|g|h|i=>omega
 case b|l|m|p=>simp only[aF,aG]at*;omega
 case c=>
  have e0:hz E (aX (bM f.1) s).2.1=(aX (bM f.1) s).2.1:=nD ω;rw[e0]at h4 ⊢;exact⟨dT,rfl,Pc (hQ h1 (ja (dJ hp) s)) h4⟩
 case d=>
  have e0:hz E (aX (bM f.1) s).2.1=(aX (bM f.1) s).2.1:=nD ω;rw[e0]at h4 h5 ⊢;exact⟨dT,rfl,W9 (hQ h1 (ja (dJ hp) s)) (Pd (uL _) h4) h5⟩
 case f=>
  have e0:hz E (aX (bM f.1) s).2.1=(aX (bM f.1) s).2.1:=nD ω;rw[e0]at h4 h5;obtain⟨hr,er⟩:=ye (dJ hp) (hQ h1 (ja (dJ hp) s)) h4 h5;exact hY ((G6 (dJ hp) hr.sc).2 F ω) δ
 case j|k=>
  have e0:hz E (aX (bM f.1) s).2.1=(aX (bM f.1) s).2.1:=nD ω;rw[e0]at h4 h5 h9 h10 ⊢;obtain⟨hr,er⟩:=ye (dJ hp) (hQ h1 (ja (dJ hp) s)) h4 h5;have:=aew hr (i:=F) (k:=G) ω h10 ω
  first|exact this|exact(Int.toNat_lt this.1).2 this.2
 case n=>
  have e0:hz E (aX (bM f.1) s).2.1=(aX (bM f.1) s).2.1:=nD ω;rw[e0]at h4 h5 ⊢;obtain⟨hr,er⟩:=ye (dJ hp) (hQ h1 (ja (dJ hp) s)) h4 h5;have:=hr.bl;omega
 case o=>
  refine⟨ς,?_⟩;rw[oL];have:=Cb (dJ hp) (hQ h1 (ja (dJ hp) s));simp only[hA];omega
 case q=>
  have e0:hz E (aX (bM f.1) s).2.1=(aX (bM f.1) s).2.1:=nD ω;rw[e0]at h4 h5 h9 ⊢;obtain⟨hr,er⟩:=ye (dJ hp) (hQ h1 (ja (dJ hp) s)) h4 h5;exact⟨F+1,ω,ω,⟨ω,dT⟩,θ,rfl,congrArg (·,()) (Xa hr ω (by rw[nD ω]))⟩
 case r=>
  have e0:hz E (aX (bM f.1) s).2.1=(aX (bM f.1) s).2.1:=nD ω;rw[e0]at h4 h5 ⊢;obtain⟨hr,er⟩:=ye (dJ hp) (hQ h1 (ja (dJ hp) s)) h4 h5;rw[show F=gE (aX (bM f.1) s).2.1 by omega];exact⟨dT,rfl,SG hr er⟩
def AA:aL:=bU cI [.obj 0,.d .str] (fun _ x=>x.1.1.length<=6) MQ
def IA:aW prog aE.eT aH 58 ψ AA:=
 bA (B:=(gy aE [14])) (X:=aH) (bH.hint (l:=[14]) YV) func58 κ (fun(a:CD [.obj 0,.d .str]) (x:PD cI)=>R0 a.1 x.1) (fun a x hw hp=>YW a.1 x.1 hp)
def R1:List (FuncId×(Bool×aL)):=[(58,(ψ,AA)),(51,(ψ,tc))]
def YX:bH prog aE aH R1:=
 aM IA (aM wc (bK bJ))
def R2(s:aA)(f:RS):cP:=[
 (0,fun st=>{X:=Nat,inv:=fun i=>i<=gE (bI (.slice bS) st 6),bG:=fun i=>gE (bI (.slice bS) st 6)-i,bB:=fun i=>[(10,sI i)],keep:=[0,4,5,6,9],aK:=fun i=>[(aS st 9,.cells 48 [.d .str s,.app aJ (kC (bM f.1) (hz i (bI (.slice bS) st 6))) (iT st (aS st 9) 1),.d (.slice aQ) (bI (.slice aQ) st 7)]),(iT st (aS st 9) 1,.tok aJ (kC (bM f.1) (hz i (bI (.slice bS) st 6))))],dU:=[aS st 9,iT st (aS st 9) 1]})]
def MR:List (Alt cI [.obj 0,.d .str]):=[{bQ:=cI,res:=[.d aC,.d (.int .i64)],out:=fun _ x=>x,ret:=fun a x=>((dA (bM x.1.1) a.1).1,(dA (bM x.1.1) a.1).2,())}]
def adh(s:aA)(f:RS)(hp:(fun _ x=>x.1.1.length<=6) (s,()) (f,())):(cE aE R1 f37 (R2 s f) cI [.obj 0,.d .str] MR (s,()) (f,())).holds:=by
 refine ζ (p:=let za:=bM f.1;let zb:=(cR za s).2;let zc:=(f,())=(f,());let zd:=((dA za s).1,(dA za s).2,());let ze:=(cR za s).1;let zf:=gE ze;let zg:=bM f.1;let zh:=(bC za s).2.2.2.1;let zi:=zh=zh/\True;let zj:=fun(E:Nat)=>0<=(↑E:Int)/\(↑E:Int)<(↑zf:Int);let zk:=fun(E:Nat)=>kC zg (hz E ze);let zl:=fun(E:Nat)=>[((nth bS ze E).1,(bM f.1 (nth bS ze E).1).2.1,(nth bS ze E).2.1,())];let zm:=@hq (Int×Int×Int×Unit)=@hq (Int×Int×Int×Unit);let zn:=@hq (aA×Int×Int×Unit)=@hq (aA×Int×Int×Unit);gE f.1<=6/\(True->((ρ (zb > 0))=φ->True/\zc/\(([],[],[],()),zb,())=zd)/\((ρ (zb > 0))=ψ->(∃(x:Nat),x<=zf/\(0=(↑x:Int)/\True)/\(s=s/\@hq (aA×Int×Int×Unit)=kC zg (hz x ze)/\zi)/\@hq (aA×Int×Int×Unit)=kC zg (hz x ze)/\True)/\∀E:Nat,E<=zf->zf<=aG->((ρ ((↑E:Int)<(↑zf:Int)))=φ->zj E/\True/\(True->zj E/\zj E/\(zk E=zk E/\gE (zk E)+gE (zl E)<=1000000000)/\(aF (↑E:Int)->aF 1->aF ((↑E:Int)+1)/\∃(x':Nat),x'<=zf/\zf-x'<zf-E/\((↑E:Int)+1=(↑x':Int)/\True)/\(s=s/\zk E++zl E=kC zg (hz x' ze)/\zi)/\zk E++zl E=kC zg (hz x' ze)/\zm/\zn/\(f.1=f.1/\f.2.1=f.2.1/\True)/\(@hq UInt8=@hq UInt8/\zn/\zm/\True)/\zm/\zn/\True)))/\((ρ ((↑E:Int)<(↑zf:Int)))=ψ->True/\zc/\((s,zk E,zh,()),0,())=zd)))) κ ?_
 dsimp -iota -proj -eta only;dsimp only at hp;refine⟨θ,fun h0=>iL (fun h1=>(by exact⟨dT,rfl,by rw[KY (dJ hp) h1];rfl⟩)) (fun h1=>⟨(⟨0,hE _,⟨rfl,dT⟩,⟨rfl,rfl,rfl,dT⟩,rfl,θ⟩),fun E q_0 h2=>iL (fun h3=>⟨?a,dT,fun h4=>⟨?b,?c,?d,fun h5 h6=>⟨(by simp only[aF,aG]at*;omega),(⟨E+1,ω,ω,⟨ω,dT⟩,⟨rfl,Cm ω,rfl,dT⟩,Cm ω,θ⟩)⟩⟩⟩) (fun h3=>⟨dT,rfl,by rw[PM (dJ hp) h1 (i:=E) ω]⟩)⟩)⟩
 case a|b|c=>omega
 case d=>refine⟨rfl,PL ?_⟩;rw[hR];have:=aeO (dJ hp) h1;omega
def MS:aL:=bU cI [.obj 0,.d .str] (fun _ x=>x.1.1.length<=6) MR
def adi:aW prog aE.eT aH 37 ψ MS:=
 bA (X:=aH) YX func37 κ (fun(a:CD [.obj 0,.d .str]) (x:PD cI)=>R2 a.1 x.1) (fun a x hw hp=>adh a.1 x.1 hp)
def MT:List (FuncId×(Bool×aL)):=[(51,(ψ,tc))]
def T3:bH prog aE aH MT:=
 aM wc (bK bJ)
def MU(e:D aC)(f:RS):cP:=[
 (0,fun st=>{X:=Nat,inv:=fun i=>i<=gE e.2.1/\∀j,j<i->gX (bM f.1) (nth aJ e.2.1 j)=φ,bG:=fun i=>gE e.2.1-i,bB:=fun i=>[(5,sI i)],keep:=[1,2]})]
def IB:List (Alt cI [.d aC,.obj 0]):=[{bQ:=cI,res:=[.d .bool],out:=fun _ x=>x,ret:=fun a x=>(eN (bM x.1.1) a.1,())}]
def adj(e:D aC)(f:RS):(cE aE MT f41 (MU e f) cI [.d aC,.obj 0] IB (e,()) (f,())).holds:=by
 refine ζ (p:=let za:=e.2.1;let zb:=gE za;let zc:=bM f.1;let zd:=fun(E:Nat)=>0<=(↑E:Int)/\(↑E:Int)<(↑zb:Int);let ze:=fun(E:Nat)=>(bM f.1 (nth aJ za E).1).2;let zf:=(f,())=(f,());let zg:=(eN (bM f.1) e,());let zh:=True/\zf/\(ψ,())=zg;(∃(x:Nat),(x<=zb/\∀(j:Nat),j<x->gX zc (nth aJ za j)=φ)/\(0=(↑x:Int)/\True)/\True)/\∀E:Nat,(E<=zb/\∀(j:Nat),j<E->gX zc (nth aJ za j)=φ)->zb<=aG->((ρ ((↑E:Int)<(↑zb:Int)))=φ->zd E/\True/\(True->((ρ ((ze E).2 > 0))=φ->zh)/\((ρ ((ze E).2 > 0))=ψ->zd E/\(((ze E).1 != (nth aJ za E).2.1)=φ->zh)/\(((ze E).1 != (nth aJ za E).2.1)=ψ->aF (↑E:Int)->aF 1->aF ((↑E:Int)+1)/\∃(x':Nat),(x'<=zb/\∀(j:Nat),j<x'->gX zc (nth aJ za j)=φ)/\zb-x'<zb-E/\((↑E:Int)+1=(↑x':Int)/\True)/\(e.1=e.1/\za=za/\e.2.2.1=e.2.2.1/\True)/\(f.1=f.1/\f.2.1=f.2.1/\True)/\True))))/\((ρ ((↑E:Int)<(↑zb:Int)))=ψ->zb<=aG->True/\zf/\(ρ ((↑zb:Int) > 0),())=zg)) κ ?_
 dsimp -iota -proj -eta only;refine⟨(⟨0,⟨hE _,fun j hj=>absurd hj (ih _)⟩,⟨rfl,dT⟩,dT⟩),fun E q_0 h0=>iL (fun h1=>⟨?a,dT,fun h2=>iL (fun h3=>⟨dT,rfl,by rw[z7 (i:=E) ω (aaF h3)]⟩) (fun h3=>⟨?b,iN (fun h4=>⟨dT,rfl,by rw[z7 (i:=E) ω (Hf h4)]⟩) (fun h4 h5 h6=>⟨(by simp only[aF,aG]at*;omega),(⟨E+1,⟨ω,jM q_0.2 (XD (zG f.1 _) ω h4)⟩,ω,⟨ω,dT⟩,θ⟩)⟩)⟩)⟩) (fun h1 h2=>(by exact⟨dT,rfl,by rw[Ch fun i hi=>q_0.2 i ω];simp⟩))⟩
 case a|b=>omega
def MV:aL:=bU cI [.d aC,.obj 0] (fun _ _=>True) IB
def adk:aW prog aE.eT aH 41 ψ MV:=
 bA (X:=aH) T3 func41 κ (fun(a:CD [.d aC,.obj 0]) (x:PD cI)=>MU a.1 x.1) (fun a x hw hp=>adj a.1 x.1)
@[reducible] def nI:List Ob:=[.box 43 [.d (.slice aC)],.box 39 [.d (.slice dD),.d (.int .i64)]]
def MW:List (FuncId×(Bool×aL)):=[(37,(ψ,MS)),(53,(ψ,VT))]
def T4:bH prog aE aH MW:=
 aM adi (aM aiu (bK bJ))
def IC:List (Alt nI [.obj 0,.obj 1,.d .str]):=[{bQ:=nI,res:=[.d (.int .i64)],out:=fun a x=>(((kr (bM x.2.1.1) x.1.1 a.1).1,()),x.2),ret:=fun a x=>((kr (bM x.2.1.1) x.1.1 a.1).2,())}]
def adl(s:aA)(o:List (D aC))(f:RS)(hp:(fun _ x=>x.1.1.length<=1000000/\x.2.1.1.length<=6) (s,()) ((o,()),f,())):(cE aE MW f17 [] nI [.obj 0,.obj 1,.d .str] IC (s,()) ((o,()),f,())).holds:=by
 refine ζ (p:=let za:=dA (bM f.1) s;let zb:=kr (bM f.1) o s;let zc:=((zb.1,()),f,());let zd:=lT o za.1;gE f.1<=6/\(True->((ρ (za.2 > 0))=φ->True/\((o,()),f,())=zc/\(za.2,())=(zb.2,()))/\((ρ (za.2 > 0))=ψ->gE o<=1000000/\(True->True/\((zd.1,()),f,())=zc/\(zd.2,())=(zb.2,()))))) κ ?_
 dsimp -iota -proj -eta only;dsimp only at hp;refine⟨?a,fun h0=>iL (fun h1=>(by rw[abe h1];exact⟨dT,rfl,rfl⟩)) (fun h1=>⟨?b,fun h2=>(by rw[HF ω];exact⟨dT,rfl,rfl⟩)⟩)⟩
 case a|b=>omega
def MX:aL:=bU nI [.obj 0,.obj 1,.d .str] (fun _ x=>x.1.1.length<=1000000/\x.2.1.1.length<=6) IC
def adm:aW prog aE.eT aH 17 ψ MX:=
 bA (X:=aH) T4 func17 κ (fun(a:CD [.obj 0,.obj 1,.d .str]) (x:PD nI)=>[]) (fun a x hw hp=>adl a.1 x.1.1 x.2.1 hp)
def adn:List (FuncId×(Bool×aL)):=[(57,(ψ,Jw)),(41,(ψ,MV)),(58,(ψ,AA))]
def ags:bH prog aE aH adn:=
 aM VV (aM adk (aM IA (bK bJ)))
def VW:List (Alt nI [.obj 0,.obj 1,.d .str]):=[{bQ:=nI,res:=[.d (.slice bS),.d .bool,.d (.int .i64)],out:=fun _ x=>x,ret:=fun a x=>((mb (bM x.2.1.1) x.1.1 a.1).1,(mb (bM x.2.1.1) x.1.1 a.1).2.1,(mb (bM x.2.1.1) x.1.1 a.1).2.2,())}]
def ado(s:aA)(o:List (D aC))(f:RS)(hp:(fun _ x=>x.2.1.1.length<=6) (s,()) ((o,()),f,())):(cE aE adn f21 [] nI [.obj 0,.obj 1,.d .str] VW (s,()) ((o,()),f,())).holds:=by
 refine ζ (p:=let za:=(cN o s).2;let zb:=((o,()),f,());let zc:=cR (bM f.1) s;let zd:=eN (bM f.1) (cN o s).1;let ze:=(zc.2,());let zf:=(zc.1,za&&zd,ze);True/\(True->True/\(True->gE f.1<=6/\(True->(za=φ->True/\zb=zb/\(zc.1,zd,ze)=zf)/\(za=ψ->True/\zb=zb/\(zc.1,ψ,ze)=zf))))) κ ?_
 dsimp -iota -proj -eta only;dsimp only at hp;refine⟨dT,fun h0=>⟨dT,fun h1=>⟨θ,fun h2=>⟨fun h3 =>?a,fun h3 =>?b⟩⟩⟩⟩
 case a|b=>simp_all
def MY:aL:=bU nI [.obj 0,.obj 1,.d .str] (fun _ x=>x.2.1.1.length<=6) VW
def adp:aW prog aE.eT aH 21 ψ MY:=
 bA (X:=aH) ags func21 κ (fun(a:CD [.obj 0,.obj 1,.d .str]) (x:PD nI)=>[]) (fun a x hw hp=>ado a.1 x.1.1 x.2.1 hp)
end Go.Proofs.YtgokjhhcfemnhabGreatDoor

