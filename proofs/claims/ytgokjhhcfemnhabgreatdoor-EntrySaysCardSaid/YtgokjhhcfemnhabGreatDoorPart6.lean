/- A part of the proof that the law EntrySaysCard holds of the given program: facts that are used there. -/
import Derived.Test.YtgokjhhcfemnhabGreatDoorPart5
set_option linter.unusedSimpArgs false
set_option linter.unusedVariables false
set_option maxRecDepth 100000
set_option maxHeartbeats 4000000
namespace Go.Proofs.YtgokjhhcfemnhabGreatDoor
open Go.Vg Go.Mrl
noncomputable def Tryz.Fb:List (FuncId × (Bool × bQ)):=[(49,(true,aL [.str] [.err] (fun _=>True) (fun s=>aT (aG s)))),
 (50,(true,aL [.str] [.int .i64] (fun _=>True) (fun s=>aG s))),
 (156,(true,aL [.str] [.int .u32] (fun _=>True) (fun s=>(dD s:Int)))),
 (83,(true,aL [.str] [.int .i64] (fun _=>True) (fun s=>(dD s:Int)))),
 (11,(true,aL [.err, .int .i64] [.bool] (fun _=>True) (fun x=>cT x.1 x.2))),
 (27,(true,km [aI] [.bool] (fun _=>True) (fun e y=>y=true->nR e))),
 (7,(true,km [.slice bV, .int .i64] [.bool] (fun _=>True) (fun x y=>y=true->oI x.1 x.2))),
 (45,(true,aL [.slice (.int .i64), .slice (.int .i64)] [.bool] (fun _=>True) (fun x=>lP x.1 x.2))),
 (23,(true,aL [.slice .str, .slice .str] [.bool] (fun _=>True) (fun x=>kN x.1 x.2))),
 (9,(false,bF [] [] (fun _ _=>True) Tryz.C9)),
 (70,(false,bF Tryz.aY [.obj 0, .d .str] (fun _ _=>True) Tryz.mW)),
 (12,(false,bF Tryz.aY [.obj 0, .d .str, .d .str] (fun _ x=>x.2.1.1.length<=6/\0<=x.1.1/\x.1.1<=1000000) Tryz.qU)),
 (14,(false,bF Tryz.aY [.obj 0, .d .str] (fun _ _=>True) Tryz.p9)),
 (71,(false,bF Tryz.aY [.obj 0] (fun _ x=>x.2.1.1.length<=6/\(x.2.1.1.map cX).Nodup) Tryz.xQ)),
 (51,(false,bF Tryz.aV [.obj 0, .d .str] (fun _ _=>True) Tryz.lF)),
 (13,(false,bF Tryz.aV [.obj 0, .d .str, .d .str] (fun _ x=>x.1.1.length<=6/\0<=x.1.2.1/\x.1.2.1<=1000000) Tryz.qS)),
 (15,(false,bF Tryz.aV [.obj 0, .d .str] (fun _ x=>x.1.1.length<=6) Tryz.p8)),
 (72,(false,bF Tryz.aV [.obj 0] (fun _ x=>x.1.1.length<=6) Tryz.xK))]
theorem Tryz.Kq:bT Tryz.prog Tryz.B Tryz.X Tryz.Fb:=
 aP (aC Tryz.iR) (aP (aC Tryz.eY) (aP (aC Tryz.jC) (aP (aC Tryz.iS) (aP (aC Tryz.jl) (aP (gu Tryz.qy) (aP (gu Tryz.xR) (aP (aC Tryz.tX) (aP (aC Tryz.Il) (aP (Tryz.TO) (aP (Tryz.rQ) (aP (Tryz.E1) (aP (Tryz.Cq) (aP (Tryz.Sw) (aP (Tryz.pO) (aP (Tryz.Ey) (aP (Tryz.Ck) (aP (Tryz.R6) (bW Tryz.bX))))))))))))))))))
@[reducible] def Tryz.vE:List Ob:=Tryz.aY++Tryz.aV
def Tryz.IU (l:List (D bV)):cN:=[(200000,fun st=>{X:=Nat,inv:=fun i=>i<=l.length,bA:=fun i=>l.length - i,aS:=fun i=>[(7,sI i)],aX:=[0,5,6],aU:=Tryz.vE,refs:=[(5,0),(6,2)],pd:=fun i=>((dQ (l.take i)).1.1,(dQ (l.take i)).1.2.1,(dQ (l.take i)).2,())})]
def Tryz.xS:List (Alt [] [.d (.slice bV)]):=[{cG:=Tryz.vE,res:=[.obj 0, .obj 2, .d .bool],out:=fun a _=>((dQ a.1).1.1,(dQ a.1).1.2.1,(dQ a.1).2,()),ret:=fun _ _=>(true,())}]
theorem SH (l:List (D bV)) (hw:kn [.d (.slice bV)] (l,())):(fD Tryz.B Tryz.Fb Tryz.f35 (Tryz.IU l) [] [.d (.slice bV)] Tryz.xS (l,()) ()).holds:=by
 refine holds_of (p:=
  let za:=List.length l
  let zb:=@List.nil (List UInt8 × List UInt8 × Int × Unit) = @List.nil (List UInt8 × List UInt8 × Int × Unit)/\True
  let zc:=(!false && true)=true
  let zd:=((0:Int),())
  let ze:=fun (x_0:Nat)=>(dQ (List.take x_0 l)).1
  let zf:=fun (x_0:Nat)=>(dQ (List.take x_0 l)).2
  let zg:=fun (x_0:Nat)=>(nth bV l x_0).2.1
  let zh:=fun (x_0:Nat)=>gJ (ze x_0) (zg x_0) (nth bV l x_0).2.2.1
  let zi:=fun (x_0:Nat)=>gX (zf x_0) (zg x_0) (nth bV l x_0).2.2.1
  let zj:=fun (x_0:Nat)=>(↑x_0:Int) + (1:Int)
  let zk:=fun (x_0:Nat)=>(List.length (ze x_0).2.1.1<=(6:Nat)/\(0:Int)<=(ze x_0).1.1/\(ze x_0).1.1<=(1000000:Int))/\((True)->(List.length (zf x_0).1<=(6:Nat)/\(0:Int)<=(zf x_0).2.1/\(zf x_0).2.1<=(1000000:Int))/\((True)->(True)/\(True)/\((True)->(True)/\((True)->(((!cT (aT (zh x_0).2) (zi x_0).2)=true->(False))/\((!cT (aT (zh x_0).2) (zi x_0).2)=false->(((!(bH (zh x_0).1 (zg x_0)).1 == (bG (zi x_0).1.1 (zg x_0)).1)=true->(False))/\((!(bH (zh x_0).1 (zg x_0)).1 == (bG (zi x_0).1.1 (zg x_0)).1)=false->((((bH (zh x_0).1 (zg x_0)).2.1 != (bG (zi x_0).1.1 (zg x_0)).2.1)=true->(False))/\(((bH (zh x_0).1 (zg x_0)).2.1 != (bG (zi x_0).1.1 (zg x_0)).2.1)=false->(True)/\(((!cT (aT (bH (zh x_0).1 (zg x_0)).2.2) (bG (zi x_0).1.1 (zg x_0)).2.2)=true->(False))/\((!cT (aT (bH (zh x_0).1 (zg x_0)).2.2) (bG (zi x_0).1.1 (zg x_0)).2.2)=false->(List.length (zh x_0).1.2.1.1<=(6:Nat)/\List.Nodup (List.map cX (zh x_0).1.2.1.1))/\((True)->(List.length (zi x_0).1.1<=(6:Nat))/\((True)->(True)/\(((!kN (pa (zh x_0).1) (List.map hY (zi x_0).1.1))=true->(False))/\((!kN (pa (zh x_0).1) (List.map hY (zi x_0).1.1))=false->((aE (↑x_0:Int))->((aE (1:Int))->(aE (zj x_0))/\(∃(x':Nat),x'<=za/\za - x' < za - x_0/\(zj x_0=(↑x':Int)/\True)/\zb/\zc/\((zh x_0).1.1,(zh x_0).1.2.1,(zi x_0).1,())=((dQ (List.take x' l)).1.1,(dQ (List.take x' l)).1.2.1,(dQ (List.take x' l)).2,()))))))))))))))))))))
  let zl:=fun (x_0:Nat)=>(fR (ze x_0) (zg x_0)).1
  let zm:=fun (x_0:Nat)=>(gK (zf x_0) (zg x_0)).1.1
  (True)/\((True)->(((∃(x':Nat),x'<=za/\True/\((0:Int)=(↑x':Int)/\True)/\zb/\zc/\(zd,([],zd),([],zd),())=((dQ (List.take x' l)).1.1,(dQ (List.take x' l)).1.2.1,(dQ (List.take x' l)).2,())))/\((∀x_0:Nat,((x_0<=za)->((za<=aJ)->(((decide ((↑x_0:Int) < (↑za:Int)))=true->((0:Int)<=(↑x_0:Int)/\(↑x_0:Int) < (↑za:Int))/\((((nth bV l x_0).1 == [(119:UInt8),114,105,116,101])=true->((fun a0 a1:Prop=>a0/\a1/\a0/\a0) ((zk x_0)) (((fun a0:Prop=>a0/\a0) ((zk x_0))))))/\(((nth bV l x_0).1 == [(119:UInt8),114,105,116,101])=false->((fun a0:Prop=>a0/\a0) ((True)/\((True)->(List.length (zf x_0).1<=(6:Nat))/\((True)->(True)/\(True)/\((True)->(True)/\((True)->(((!cT (aT (fR (ze x_0) (zg x_0)).2) (gK (zf x_0) (zg x_0)).2)=true->(False))/\((!cT (aT (fR (ze x_0) (zg x_0)).2) (gK (zf x_0) (zg x_0)).2)=false->(((!(bH (zl x_0) (zg x_0)).1 == (bG (zm x_0) (zg x_0)).1)=true->(False))/\((!(bH (zl x_0) (zg x_0)).1 == (bG (zm x_0) (zg x_0)).1)=false->((((bH (zl x_0) (zg x_0)).2.1 != (bG (zm x_0) (zg x_0)).2.1)=true->(False))/\(((bH (zl x_0) (zg x_0)).2.1 != (bG (zm x_0) (zg x_0)).2.1)=false->(True)/\(((!cT (aT (bH (zl x_0) (zg x_0)).2.2) (bG (zm x_0) (zg x_0)).2.2)=true->(False))/\((!cT (aT (bH (zl x_0) (zg x_0)).2.2) (bG (zm x_0) (zg x_0)).2.2)=false->(List.length (zl x_0).2.1.1<=(6:Nat)/\List.Nodup (List.map cX (zl x_0).2.1.1))/\((True)->(List.length (zm x_0)<=(6:Nat))/\((True)->(True)/\(((!kN (pa (zl x_0)) (List.map hY (zm x_0)))=true->(False))/\((!kN (pa (zl x_0)) (List.map hY (zm x_0)))=false->((aE (↑x_0:Int))->((aE (1:Int))->(aE (zj x_0))/\(∃(x':Nat),x'<=za/\za - x' < za - x_0/\(zj x_0=(↑x':Int)/\True)/\zb/\zc/\((zl x_0).1,(zl x_0).2.1,(gK (zf x_0) (zg x_0)).1,())=((dQ (List.take x' l)).1.1,(dQ (List.take x' l)).1.2.1,(dQ (List.take x' l)).2,())))))))))))))))))))))))))/\((decide ((↑x_0:Int) < (↑za:Int)))=false->(True/\((ze x_0).1,(ze x_0).2.1,zf x_0,())=((dQ l).1.1,(dQ l).1.2.1,(dQ l).2,())/\(true,())=(true,()))))))))))) (by kernel_rfl) ?_
 dsimp -iota -proj -eta only
 refine ⟨trivial,fun h0=>⟨(⟨0,by omega,trivial,⟨rfl,trivial⟩,⟨rfl,trivial⟩,rfl,rfl⟩),fun x_0 q_0 h1=>iL (fun h2=>⟨(by omega),iQ (fun h3=>(show ∀{a0 a1:Prop},a0->a1->a0/\a1/\a0/\a0 from fun g0 g1=>⟨g0,g1,g0,g0⟩) (⟨?a,fun h4=>⟨?b,fun h5=>⟨trivial,trivial,fun h6=>⟨trivial,fun h7=>iB (fun h8 => ?c) (fun h8=>⟨fun h9 => ?d,fun h9=>iN (fun h10 => ?e) (fun h10=>⟨trivial,iB (fun h11 => ?f) (fun h11=>⟨?g,fun h12=>⟨?h,fun h13=>⟨trivial,iB (fun h14 => ?i) (fun h14 h15 h16=>⟨?j,?k⟩)⟩⟩⟩)⟩)⟩)⟩⟩⟩⟩) ((show ∀{a0:Prop},a0->a0/\a0 from fun g0=>⟨g0,g0⟩) (⟨?l,fun h4=>⟨?m,fun h5=>⟨trivial,trivial,fun h6=>⟨trivial,fun h7=>iB (fun h8 => ?n) (fun h8=>⟨fun h9 => ?o,fun h9=>iN (fun h10 => ?p) (fun h10=>⟨trivial,iB (fun h11 => ?q) (fun h11=>⟨?r,fun h12=>⟨?s,fun h13=>⟨trivial,iB (fun h14 => ?t) (fun h14 h15 h16=>⟨?u,?v⟩)⟩⟩⟩)⟩)⟩)⟩⟩⟩⟩))) (fun h3=>(show ∀{a0:Prop},a0->a0/\a0 from fun g0=>⟨g0,g0⟩) (⟨trivial,fun h4=>⟨((cU (l.take x_0)).An),fun h5=>⟨trivial,trivial,fun h6=>⟨trivial,fun h7=>iB (fun h8=>(Bool.noConfusion (((cU (l.take x_0)).Tu (nth bV l x_0).2.1).symm.trans h8))) (fun h8=>⟨fun h9 => ?w,fun h9=>iN (fun h10 => ?x) (fun h10=>⟨trivial,iB (fun h11 => ?y) (fun h11=>⟨?z,fun h12=>⟨?a0,fun h13=>⟨trivial,iB (fun h14 => ?a1) (fun h14 h15 h16=>⟨?a2,?a3⟩)⟩⟩⟩)⟩)⟩)⟩⟩⟩⟩))⟩) (fun h2=>(by rw [List.take_of_length_le (by omega)];exact ⟨trivial,rfl,rfl⟩))⟩⟩
 case a|l=>exact (cU (l.take x_0)).pre
 case b|m=>exact (cU (l.take x_0)).Us
 case c|n=>exact Bool.noConfusion (((cU (l.take x_0)).Uu (nth bV l x_0).2.1 (nth bV l x_0).2.2.1).symm.trans h8)
 case d|o=>
  simp only [bl,reduceCtorEq] at h9
  have hi:=cU (l.take x_0);have hw:=(hi.write (nth bV l x_0).2.1 (nth bV l x_0).2.2.1).1
  exact absurd (congrArg Prod.fst (hw.read (nth bV l x_0).2.1)) h9
 case e|p=>
  simp only [bl,reduceCtorEq] at h9
  have hi:=cU (l.take x_0);have hw:=(hi.write (nth bV l x_0).2.1 (nth bV l x_0).2.2.1).1
  exact absurd (congrArg (fun z=>z.2.1) (hw.read (nth bV l x_0).2.1)) h10
 case f|q=>
  simp only [bl,reduceCtorEq] at h9
  have hi:=cU (l.take x_0);have hw:=(hi.write (nth bV l x_0).2.1 (nth bV l x_0).2.2.1).1
  exact Bool.noConfusion ((hw.uV (nth bV l x_0).2.1).symm.trans h11)
 case g|r=>
  simp only [bl,reduceCtorEq] at h9
  have hi:=cU (l.take x_0);have hw:=(hi.write (nth bV l x_0).2.1 (nth bV l x_0).2.2.1).1
  exact hw.Ut
 case h|s=>
  simp only [bl,reduceCtorEq] at h9
  have hi:=cU (l.take x_0);have hw:=(hi.write (nth bV l x_0).2.1 (nth bV l x_0).2.2.1).1
  exact hw.An
 case i|t=>
  simp only [bl,reduceCtorEq] at h9
  have hi:=cU (l.take x_0);have hw:=(hi.write (nth bV l x_0).2.1 (nth bV l x_0).2.2.1).1
  exact Bool.noConfusion (hw.SZ.symm.trans h14)
 case j|u|a2=>
  simp only [bl,reduceCtorEq] at h9
  simp only [aE,aJ] at *;omega
 case k|v=>
  simp only [bl,reduceCtorEq] at h9
  exact ⟨x_0 + 1,by omega,by omega,⟨by omega,trivial⟩,⟨rfl,trivial⟩,rfl,by rw [DS (by omega),yR (by unfold rF;assumption)]⟩
 case w=>
  simp only [bl,reduceCtorEq] at h9
  have hi:=cU (l.take x_0);have hw:=(hi.remove (nth bV l x_0).2.1).1
  exact absurd (congrArg Prod.fst (hw.read (nth bV l x_0).2.1)) h9
 case x=>
  simp only [bl,reduceCtorEq] at h9
  have hi:=cU (l.take x_0);have hw:=(hi.remove (nth bV l x_0).2.1).1
  exact absurd (congrArg (fun z=>z.2.1) (hw.read (nth bV l x_0).2.1)) h10
 case y=>
  simp only [bl,reduceCtorEq] at h9
  have hi:=cU (l.take x_0);have hw:=(hi.remove (nth bV l x_0).2.1).1
  exact Bool.noConfusion ((hw.uV (nth bV l x_0).2.1).symm.trans h11)
 case z=>
  simp only [bl,reduceCtorEq] at h9
  have hi:=cU (l.take x_0);have hw:=(hi.remove (nth bV l x_0).2.1).1
  exact hw.Ut
 case a0=>
  simp only [bl,reduceCtorEq] at h9
  have hi:=cU (l.take x_0);have hw:=(hi.remove (nth bV l x_0).2.1).1
  exact hw.An
 case a1=>
  simp only [bl,reduceCtorEq] at h9
  have hi:=cU (l.take x_0);have hw:=(hi.remove (nth bV l x_0).2.1).1
  exact Bool.noConfusion (hw.SZ.symm.trans h14)
 case a3=>
  simp only [bl,reduceCtorEq] at h9
  exact ⟨x_0 + 1,by omega,by omega,⟨by omega,trivial⟩,⟨rfl,trivial⟩,rfl,by rw [DS (by omega),xc (by unfold rF;assumption)]⟩
theorem Tryz.SI:dK Tryz.prog Tryz.B.eT Tryz.X 35 false (bF [] [.d (.slice bV)] (fun _ _=>True) Tryz.xS):=
 cH (X:=Tryz.X) Tryz.Kq Tryz.func35 (by kernel_rfl) (fun (a:CD [.d (.slice bV)]) (x:PD [])=>Tryz.IU a.1) (fun (a:CD [.d (.slice bV)]) (x:PD []) hw hp=>SH a.1 hw)
end Go.Proofs.YtgokjhhcfemnhabGreatDoor

namespace Go.Proofs.YtgokjhhcfemnhabGreatDoor
open Go.Vg Go.Mrl
def LG (e:D aI):cN:=[
 (0,fun st=>{X:=Nat,inv:=fun i=>i<=List.length e.2.1/\∀j,j < i->dV (nth aF e.2.1 j)=0,bA:=fun i=>List.length e.2.1 - i,aS:=fun i=>[(34,sI i)],aX:=[1,32,33]}),
 (2,fun st=>{X:=Nat,inv:=fun i=>i<=List.length e.2.2.1/\∀j,j < i->dO e.2.1.length (nth aH e.2.2.1 j)=0,bA:=fun i=>List.length e.2.2.1 - i,aS:=fun i=>[(73,sI i)],aX:=[1,71,72]})]
theorem QA (e:D aI) (hw:eE [aI] e):(cM Tryz.B Tryz.Lu Tryz.f30 (LG e) [aI] [.err] (fun x y=>y=(fun e=>aT (bZ e)) x) e).holds:=by
 refine holds_of (p:=
  let za:=aT (aG e.1)
  let zb:=aT (bZ e)
  let zc:=e.2.1
  let zd:=List.length zc
  let ze:=zd<=aJ
  let zf:=(↑zd:Int)
  let zg:=bC.no (2:Int)=zb
  let zh:=e.2.2.1
  let zi:=List.length zh
  let zj:=fun (x_0:Nat)=>aT (aG (nth aF zc x_0).1)
  let zk:=bC.no (1:Int)=zb
  let zl:=fun (x_0:Nat)=>(nth aF zc x_0).2.2.1
  let zm:=fun (x_0:Nat)=>(↑x_0:Int) + (1:Int)
  let zn:=(e.1=e.1/\zc=zc/\zh=zh/\True)/\True
  (True)/\(((!bC.isNil za)=true->(za=zb))/\((!bC.isNil za)=false->((ze)->(((decide (zf < (1:Int)))=true->(zg))/\((decide (zf < (1:Int)))=false->((ze)->(((decide (zf > (6:Int)))=true->(zg))/\((decide (zf > (6:Int)))=false->((zi<=aJ)->(((decide ((↑zi:Int) > (36:Int)))=true->(zg))/\((decide ((↑zi:Int) > (36:Int)))=false->((ze)->(∃(x:Nat),(x<=zd/\∀(j:Nat),j < x->dV (nth aF zc j)=(0:Int))/\((0:Int)=(↑x:Int)/\True)/\True)/\(∀x_0:Nat,((x_0<=zd/\∀(j:Nat),j < x_0->dV (nth aF zc j)=(0:Int))->(((decide ((↑x_0:Int) < zf))=true->((0:Int)<=(↑x_0:Int)/\(↑x_0:Int) < zf)/\(True)/\(((!bC.isNil (zj x_0))=true->(zj x_0=zb))/\((!bC.isNil (zj x_0))=false->(((decide ((nth aF zc x_0).2.1 < (1:Int)))=true->(zk))/\((decide ((nth aF zc x_0).2.1 < (1:Int)))=false->(((decide ((nth aF zc x_0).2.1 > (1000000:Int)))=true->(zk))/\((decide ((nth aF zc x_0).2.1 > (1000000:Int)))=false->(((decide (zl x_0 < (0:Int)))=true->(zk))/\((decide (zl x_0 < (0:Int)))=false->(((decide (zl x_0>=(256:Int)))=true->(zk))/\((decide (zl x_0>=(256:Int)))=false->((16:Int)≠(0:Int))/\(∀x_1:Int,((x_1=Int.tmod (zl x_0) (16:Int))->(((x_1 != (0:Int))=true->(zk))/\((x_1 != (0:Int))=false->((aE (↑x_0:Int))->((aE (1:Int))->(aE (zm x_0))/\(∃(x':Nat),(x'<=zd/\∀(j:Nat),j < x'->dV (nth aF zc j)=(0:Int))/\zd - x' < zd - x_0/\(zm x_0=(↑x':Int)/\True)/\zn))))))))))))))))))/\((decide ((↑x_0:Int) < zf))=false->((zi<=aJ)->(∃(x:Nat),(x<=zi/\∀(j:Nat),j < x->dO zd (nth aH zh j)=(0:Int))/\((0:Int)=(↑x:Int)/\True)/\True)/\(∀x_1:Nat,((x_1<=zi/\∀(j:Nat),j < x_1->dO zd (nth aH zh j)=(0:Int))->(((decide ((↑x_1:Int) < (↑zi:Int)))=true->((0:Int)<=(↑x_1:Int)/\(↑x_1:Int) < (↑zi:Int))/\(((decide ((nth aH zh x_1).1 < (0:Int)))=true->(zk))/\((decide ((nth aH zh x_1).1 < (0:Int)))=false->((ze)->(((decide ((nth aH zh x_1).1>=zf))=true->(zk))/\((decide ((nth aH zh x_1).1>=zf))=false->(((decide ((nth aH zh x_1).2.1 < (0:Int)))=true->(zk))/\((decide ((nth aH zh x_1).2.1 < (0:Int)))=false->(((decide ((nth aH zh x_1).2.1>=(40:Int)))=true->(zk))/\((decide ((nth aH zh x_1).2.1>=(40:Int)))=false->(((decide ((nth aH zh x_1).2.2.1 < (-2147483648:Int)))=true->(zk))/\((decide ((nth aH zh x_1).2.2.1 < (-2147483648:Int)))=false->(((decide ((nth aH zh x_1).2.2.1 > (2147483647:Int)))=true->(zk))/\((decide ((nth aH zh x_1).2.2.1 > (2147483647:Int)))=false->((aE (↑x_1:Int))->((aE (1:Int))->(aE (zm x_1))/\(∃(x':Nat),(x'<=zi/\∀(j:Nat),j < x'->dO zd (nth aH zh j)=(0:Int))/\zi - x' < zi - x_1/\(zm x_1=(↑x':Int)/\True)/\zn)))))))))))))))))/\((decide ((↑x_1:Int) < (↑zi:Int)))=false->(bC.nil=zb))))))))))))))))))))))) (by kernel_rfl) ?_
 dsimp -iota -proj -eta only
 refine ⟨trivial,iB (fun h0=>(by rw [s6 (mL (cK _) h0)])) (fun h0 h1=>iL (fun h2=>(by rw [lg (dM (by assumption:(aT (aG e.1)).isNil=true)) (.inl (by omega))];rfl)) (fun h2 h3=>iL (fun h4=>(by rw [lg (dM (by assumption:(aT (aG e.1)).isNil=true)) (.inr (.inl (by omega)))];rfl)) (fun h4 h5=>iL (fun h6=>(by rw [lg (dM (by assumption:(aT (aG e.1)).isNil=true)) (.inr (.inr (by omega)))];rfl)) (fun h6 h7=>⟨?a,fun x_0 q_0=>iL (fun h8=>⟨?b,trivial,iB (fun h9=>(by have hp:=mL (cK _) h9;rw [(eX (dM (by assumption:(aT (aG e.1)).isNil=true)) (dX (by omega) (by omega) (by omega)) q_0.2 (by omega) (B1 hp) (by omega))])) (fun h9=>iL (fun h10=>(by rw [(eX (dM (by assumption:(aT (aG e.1)).isNil=true)) (dX (by omega) (by omega) (by omega)) q_0.2 (by omega) (jZ (dM h9) (.inl (by assumption))) (by decide))];rfl)) (fun h10=>iL (fun h11=>(by rw [(eX (dM (by assumption:(aT (aG e.1)).isNil=true)) (dX (by omega) (by omega) (by omega)) q_0.2 (by omega) (jZ (dM h9) (.inr (.inl (by assumption)))) (by decide))];rfl)) (fun h11=>iL (fun h12=>(by rw [(eX (dM (by assumption:(aT (aG e.1)).isNil=true)) (dX (by omega) (by omega) (by omega)) q_0.2 (by omega) (jZ (dM h9) (.inr (.inr (.inl (by assumption))))) (by decide))];rfl)) (fun h12=>iE (fun h13=>(by rw [(eX (dM (by assumption:(aT (aG e.1)).isNil=true)) (dX (by omega) (by omega) (by omega)) q_0.2 (by omega) (jZ (dM h9) (.inr (.inr (.inr (.inl (by assumption)))))) (by decide))];rfl)) (fun h13=>⟨(by trivial),fun x_1 q_1=>iN (fun h14=>(by have hb:=vu h12 q_1;rw [(eX (dM (by assumption:(aT (aG e.1)).isNil=true)) (dX (by omega) (by omega) (by omega)) q_0.2 (by omega) (jZ (dM h9) (.inr (.inr (.inr (.inr (by rw [hb] at h14;exact (Int.lt_iff_le_and_ne.2 ⟨Int.emod_nonneg _ (by decide),fun e'=>h14 e'.symm⟩))))))) (by decide))];rfl)) (fun h14 h15 h16=>⟨?c,(by have hb:=vu h12 q_1;exact ⟨x_0 + 1,⟨by omega,jA q_0.2 (HD (dM h9) h10 h11 h12 (Int.le_of_lt_add_one (show _ < (255:Int) + 1 from h13)) (hb.symm.trans h14))⟩,by omega,⟨by omega,trivial⟩,(by trivial)⟩)⟩)⟩)))))⟩) (fun h8 h9=>⟨?d,fun x_1 q_1=>iL (fun h10=>⟨?e,iL (fun h11=>(by rw [(fI (dM (by assumption:(aT (aG e.1)).isNil=true)) (dX (by omega) (by omega) (by omega)) (fun j hj=>q_0.2 j (by omega)) q_1.2 (by omega) (j0 (.inl (by assumption))))];rfl)) (fun h11 h12=>iE (fun h13=>(by rw [(fI (dM (by assumption:(aT (aG e.1)).isNil=true)) (dX (by omega) (by omega) (by omega)) (fun j hj=>q_0.2 j (by omega)) q_1.2 (by omega) (j0 (.inr (.inl (by assumption)))))];rfl)) (fun h13=>iL (fun h14=>(by rw [(fI (dM (by assumption:(aT (aG e.1)).isNil=true)) (dX (by omega) (by omega) (by omega)) (fun j hj=>q_0.2 j (by omega)) q_1.2 (by omega) (j0 (.inr (.inr (.inl (by assumption))))))];rfl)) (fun h14=>iE (fun h15=>(by rw [(fI (dM (by assumption:(aT (aG e.1)).isNil=true)) (dX (by omega) (by omega) (by omega)) (fun j hj=>q_0.2 j (by omega)) q_1.2 (by omega) (j0 (.inr (.inr (.inr (.inl (by assumption)))))))];rfl)) (fun h15=>iL (fun h16=>(by rw [(fI (dM (by assumption:(aT (aG e.1)).isNil=true)) (dX (by omega) (by omega) (by omega)) (fun j hj=>q_0.2 j (by omega)) q_1.2 (by omega) (j0 (.inr (.inr (.inr (.inr (.inl (by assumption))))))))];rfl)) (fun h16=>iL (fun h17=>(by rw [(fI (dM (by assumption:(aT (aG e.1)).isNil=true)) (dX (by omega) (by omega) (by omega)) (fun j hj=>q_0.2 j (by omega)) q_1.2 (by omega) (j0 (.inr (.inr (.inr (.inr (.inr (by assumption))))))))];rfl)) (fun h17 h18 h19=>⟨?f,(⟨x_1 + 1,⟨by omega,jA q_1.2 (MY (by assumption) (by assumption) (by assumption) (Int.le_of_lt_add_one (show _ < (39:Int) + 1 from h15)) (by assumption) (by assumption))⟩,by omega,⟨by omega,trivial⟩,(by trivial)⟩)⟩))))))⟩) (fun h10=>(by rw [El (dM (by assumption:(aT (aG e.1)).isNil=true)) (dX (by omega) (by omega) (by omega)) (fun j hj=>q_0.2 j (by omega)) (fun j hj=>q_1.2 j (by omega))];rfl))⟩)⟩))))⟩
 case a|d=>exact ⟨0,⟨Nat.zero_le _,fun j hj=>absurd hj (Nat.not_lt_zero _)⟩,⟨rfl,trivial⟩,trivial⟩
 case b|e=>omega
 case c|f=>simp only [aE,aJ] at *;omega
theorem Tryz.Fc:bK Tryz.prog Tryz.B.eT Tryz.X 30 [aI] [.err] (fun _=>True) (fun x y=>y=(fun e=>aT (bZ e)) x):=
 bM (X:=Tryz.X) Tryz.PJ Tryz.func30 (by kernel_rfl) (fun x=>LG x) (fun x hw hp=>QA x hw)
end Go.Proofs.YtgokjhhcfemnhabGreatDoor

namespace Go.Proofs.YtgokjhhcfemnhabGreatDoor
open Go.Vg Go.Mrl
noncomputable def Tryz.IV:List (FuncId × (Bool × bQ)):=[(49,(true,aL [.str] [.err] (fun _=>True) (fun s=>aT (aG s)))),
 (50,(true,aL [.str] [.int .i64] (fun _=>True) (fun s=>aG s))),
 (156,(true,aL [.str] [.int .u32] (fun _=>True) (fun s=>(dD s:Int)))),
 (83,(true,aL [.str] [.int .i64] (fun _=>True) (fun s=>(dD s:Int)))),
 (11,(true,aL [.err, .int .i64] [.bool] (fun _=>True) (fun x=>cT x.1 x.2))),
 (61,(true,aL [.int .i64] [.str] (fun _=>True) (fun n=>Lib.itoa n))),
 (30,(true,aL [aI] [.err] (fun _=>True) (fun e=>aT (bZ e))))]
theorem Tryz.NQ:bT Tryz.prog Tryz.B Tryz.X Tryz.IV:=
 aP (aC Tryz.iR) (aP (aC Tryz.eY) (aP (aC Tryz.jC) (aP (aC Tryz.iS) (aP (aC Tryz.jl) (aP (aC Tryz.oC) (aP (aC Tryz.Fc) (bW Tryz.bX)))))))
def IW (e:D aI):cN:=[
 (0,fun st=>{X:=Nat,inv:=fun i=>i<=List.length e.2.1,bA:=fun i=>List.length e.2.1 - i,aS:=fun i=>[(35,sI i),(6,sS (gG e i))],aX:=[1,2,3,5,33,34]}),
 (2,fun st=>{X:=Nat,inv:=fun i=>i<=List.length e.2.2.1,bA:=fun i=>List.length e.2.2.1 - i,aS:=fun i=>[(60,sI i),(6,sS (fT e i))],aX:=[2,3,5,58,59]})]
theorem SJ (e:D aI) (hw:eE [aI] e):(cM (jV Tryz.B [23,30,47,53,68,74,80]) Tryz.IV Tryz.f29 (IW e) [aI] [.str, .err] (fun x y=>y=(fun e=>eA e) x) e).holds:=by
 refine holds_of (p:=
  let za:=aT (bZ e)
  let zb:=[(32:UInt8)]
  let zc:=List.length zb
  let zd:=e.2.1
  let ze:=List.length zd
  let zf:=e.2.2.1
  let zg:=List.length zf
  let zh:=Lib.itoa (↑ze:Int)
  let zi:=e.1++zb++zh
  let zj:=Lib.itoa (↑zg:Int)
  let zk:=fun (x_0:Nat)=>zb++(nth aF zd x_0).1
  let zl:=fun (x_0:Nat)=>Lib.itoa (nth aF zd x_0).2.1
  let zm:=fun (x_0:Nat)=>zk x_0++zb++zl x_0++zb
  let zn:=fun (x_0:Nat)=>Lib.itoa (nth aF zd x_0).2.2.1
  let zo:=fun (x_0:Nat)=>(↑x_0:Int) + (1:Int)
  let zp:=(e.1=e.1/\zd=zd/\zf=zf/\True)/\True
  let zq:=fun (x_1:Nat)=>zb++Lib.itoa (nth aH zf x_1).1
  let zr:=fun (x_1:Nat)=>zq x_1++zb++Lib.itoa (nth aH zf x_1).2.1
  let zs:=fun (x_1:Nat)=>Lib.itoa (nth aH zf x_1).2.2.1
  (True)/\(((!bC.isNil za)=true->(([],za)=eA e))/\((!bC.isNil za)=false->(List.length e.1 + zc<=aJ)/\((ze<=aJ)->((zg<=aJ)->(True)/\(List.length (e.1++zb) + List.length zh<=aJ)/\(List.length zi + zc<=aJ)/\(True)/\(List.length (zi++zb) + List.length zj<=aJ)/\((ze<=aJ)->(∃(x:Nat),x<=ze/\((0:Int)=(↑x:Int)/\zi++zb++zj=gG e x/\True)/\True)/\(∀x_0:Nat,((x_0<=ze)->(((decide ((↑x_0:Int) < (↑ze:Int)))=true->((0:Int)<=(↑x_0:Int)/\(↑x_0:Int) < (↑ze:Int))/\(zc + List.length (nth aF zd x_0).1<=aJ)/\(List.length (zk x_0) + zc<=aJ)/\(True)/\(List.length (zk x_0++zb) + List.length (zl x_0)<=aJ)/\(List.length (zk x_0++zb++zl x_0) + zc<=aJ)/\(True)/\(List.length (zm x_0) + List.length (zn x_0)<=aJ)/\(List.length (gG e x_0) + List.length (zm x_0++zn x_0)<=aJ)/\((aE (↑x_0:Int))->((aE (1:Int))->(aE (zo x_0))/\(∃(x':Nat),x'<=ze/\ze - x' < ze - x_0/\(zo x_0=(↑x':Int)/\gG e x_0++(zm x_0++zn x_0)=gG e x'/\True)/\zp))))/\((decide ((↑x_0:Int) < (↑ze:Int)))=false->((zg<=aJ)->(∃(x:Nat),x<=zg/\((0:Int)=(↑x:Int)/\gG e x_0=fT e x/\True)/\True)/\(∀x_1:Nat,((x_1<=zg)->(((decide ((↑x_1:Int) < (↑zg:Int)))=true->((0:Int)<=(↑x_1:Int)/\(↑x_1:Int) < (↑zg:Int))/\(True)/\(zc + List.length (Lib.itoa (nth aH zf x_1).1)<=aJ)/\(List.length (zq x_1) + zc<=aJ)/\(True)/\(List.length (zq x_1++zb) + List.length (Lib.itoa (nth aH zf x_1).2.1)<=aJ)/\(List.length (zr x_1) + zc<=aJ)/\(True)/\(List.length (zr x_1++zb) + List.length (zs x_1)<=aJ)/\(List.length (fT e x_1) + List.length (zr x_1++zb++zs x_1)<=aJ)/\((aE (↑x_1:Int))->((aE (1:Int))->(aE (zo x_1))/\(∃(x':Nat),x'<=zg/\zg - x' < zg - x_1/\(zo x_1=(↑x':Int)/\fT e x_1++(zr x_1++zb++zs x_1)=fT e x'/\True)/\zp))))/\((decide ((↑x_1:Int) < (↑zg:Int)))=false->(List.length (fT e x_1) + List.length [(10:UInt8)]<=aJ)/\((fT e x_1++[(10:UInt8)],bC.nil)=eA e)))))))))))))))) (by kernel_rfl) ?_
 dsimp -iota -proj -eta only
 refine ⟨trivial,iB (fun h0=>(M4 (fun e=>by rw [bJ.2 e] at h0;cases h0))) (fun h0=>⟨?a,fun h1 h2=>⟨trivial,?b,?c,trivial,?d,fun h3=>⟨(⟨0,by omega,⟨rfl,(B2 e).symm,trivial⟩,trivial⟩),fun x_0 q_0=>iL (fun h4=>⟨?e,?f,?g,trivial,?h,?i,trivial,?j,?k,fun h5 h6=>⟨?l,(⟨x_0 + 1,by omega,by omega,⟨by omega,M1 (by omega),trivial⟩,(by trivial)⟩)⟩⟩) (fun h4 h5=>⟨(⟨0,by omega,⟨rfl,by rw [B3,show x_0=e.2.1.length by omega],trivial⟩,trivial⟩),fun x_1 q_1=>iL (fun h6=>⟨?m,trivial,?n,?o,trivial,?p,?q,trivial,?r,?s,fun h7 h8=>⟨?t,(⟨x_1 + 1,by omega,by omega,⟨by omega,M3 (by omega),trivial⟩,(by trivial)⟩)⟩⟩) (fun h6=>⟨(by have a:=(l5 (bJ.1 h0)).CX x_1;simp only [List.length_append,List.length_cons,List.length_nil,aJ];omega),(Po (bJ.1 h0) (by omega))⟩)⟩)⟩⟩⟩)⟩
 case a|b|c|d=>have a:=(l5 (bJ.1 h0)).lens;simp only [List.length_append,List.length_cons,List.length_nil,aJ];omega
 case e|m=>omega
 case f|g|h|i|j|k=>have a:=(l5 (bJ.1 h0)).S4 (i:=x_0) (by omega);simp only [List.length_append,List.length_cons,List.length_nil,aJ];omega
 case l|t=>simp only [aE,aJ] at *;omega
 case n|o|p|q|r|s=>have a:=(l5 (bJ.1 h0)).S5 (i:=x_1) (by omega);simp only [List.length_append,List.length_cons,List.length_nil,aJ];omega
theorem Tryz.IX:bK Tryz.prog Tryz.B.eT Tryz.X 29 [aI] [.str, .err] (fun _=>True) (fun x y=>y=(fun e=>eA e) x):=
 bM (B:=(jV Tryz.B [23,30,47,53,68,74,80])) (X:=Tryz.X) (bT.hint (l:=[23,30,47,53,68,74,80]) Tryz.NQ) Tryz.func29 (by kernel_rfl) (fun x=>IW x) (fun x hw hp=>SJ x hw)
end Go.Proofs.YtgokjhhcfemnhabGreatDoor

namespace Go.Proofs.YtgokjhhcfemnhabGreatDoor
open Go.Vg Go.Mrl
noncomputable def Tryz.Cr:List (FuncId × (Bool × bQ)):=[(61,(true,aL [.int .i64] [.str] (fun _=>True) (fun n=>Lib.itoa n))),
 (106,(true,aL [.str] [.int .i64, .err] (fun s=>s.length<=281474976710656) (fun s=>dP s))),
 (145,(true,aL [.str, .str] [.str, .bool] (fun _=>True) (fun x=>(Lib.trimPrefix x.1 x.2,Lib.hasPrefix x.1 x.2)))),
 (64,(true,aL [.str, .str] [.str] (fun _=>True) (fun x=>Lib.trimSuffix x.1 x.2))),
 (63,(true,aL [.str, .str] [.slice .str] (fun x=>x.1.length < 4294967281/\x.2.length=1) (fun x=>parts (K8 x.2) x.1)))]
theorem Tryz.IY:bT Tryz.prog Tryz.B Tryz.X Tryz.Cr:=
 aP (aC Tryz.oC) (aP (aC Tryz.rR) (aP (aC Tryz.mX) (aP (aC Tryz.l6) (aP (aC Tryz.rS) (bW Tryz.bX)))))
def Cs (l:List (List UInt8)):cN:=[
 (0,fun st=>{X:=Nat,inv:=fun i=>i<=l.length/\∀j,j < i->(dB (nth .str l j)).isNone=false,bA:=fun i=>l.length - i,aS:=fun i=>[(11,sI i),(4, .s (.one (.app (.int .i64) (lV (l.take i)) (aQ st 4))))],aK:=fun i=>[(aQ st 4, .tok (.int .i64) (lV (l.take i)))],aX:=[9,10],eD:=[aQ st 4]})]
theorem Kr (l:List (List UInt8)) (hw:eE [.slice .str] l) (hp:(fun l=>l.length<=1000000/\∀i,(nth .str l i).length<=1000000) l):(cM Tryz.B Tryz.Cr Tryz.f65 (Cs l) [.slice .str] [.slice (.int .i64), .bool] (fun x y=>y=(fun l=>bY l) x) l).holds:=by
 refine holds_of (p:=
  let za:=List.length l
  let zb:=([],false)=bY l
  let zc:=fun (x_0:Nat)=>lV (List.take x_0 l)
  let zd:=fun (x_0:Nat)=>zc x_0++[(dP (nth Ty.str l x_0)).1]
  ((za<=aJ)->(∃(x:Nat),(x<=za/\∀(j:Nat),j < x->Option.isNone (dB (nth Ty.str l j))=false)/\((0:Int)=(↑x:Int)/\@List.nil Int=lV (List.take x l)/\True)/\@List.nil Int=lV (List.take x l)/\True)/\(∀x_0:Nat,((x_0<=za/\∀(j:Nat),j < x_0->Option.isNone (dB (nth Ty.str l j))=false)->(((decide ((↑x_0:Int) < (↑za:Int)))=true->((0:Int)<=(↑x_0:Int)/\(↑x_0:Int) < (↑za:Int))/\(List.length (nth Ty.str l x_0)<=(281474976710656:Nat))/\(((!bC.isNil (dP (nth Ty.str l x_0)).2)=true->(zb))/\((!bC.isNil (dP (nth Ty.str l x_0)).2)=false->(True)/\(((!Lib.itoa (dP (nth Ty.str l x_0)).1 == nth Ty.str l x_0)=true->(zb))/\((!Lib.itoa (dP (nth Ty.str l x_0)).1 == nth Ty.str l x_0)=false->(zc x_0=zc x_0/\List.length (zc x_0) + List.length [(dP (nth Ty.str l x_0)).1]<=(1000000000:Nat))/\((aE (↑x_0:Int))->((aE (1:Int))->(aE ((↑x_0:Int) + (1:Int)))/\(∃(x':Nat),(x'<=za/\∀(j:Nat),j < x'->Option.isNone (dB (nth Ty.str l j))=false)/\za - x' < za - x_0/\((↑x_0:Int) + (1:Int)=(↑x':Int)/\zd x_0=lV (List.take x' l)/\True)/\zd x_0=lV (List.take x' l)/\@List.nil Int = @List.nil Int/\True))))))))/\((decide ((↑x_0:Int) < (↑za:Int)))=false->((zc x_0,true)=bY l))))))) (by kernel_rfl) ?_
 dsimp -iota -proj -eta only
 refine fun h0=>⟨(⟨0,⟨Nat.zero_le _,fun j hj=>absurd hj (Nat.not_lt_zero _)⟩,⟨rfl,rfl,trivial⟩,rfl,trivial⟩),fun x_0 q_0=>iL (fun h1=>⟨(by omega),(Nat.le_trans (hp.2 _) (by decide)),iB (fun h2=>(zB (i:=x_0) (by omega) (by rw [qn,h2];rfl))) (fun h2=>⟨trivial,⟨fun h3 => ?a,fun h3=>⟨?b,fun h4 h5=>⟨?c,?d⟩⟩⟩⟩)⟩) (fun h1=>(M8 (i:=x_0) (by omega) (fun j hj _=>q_0.2 j hj)))⟩
 case a=>
  simp only [bl,reduceCtorEq] at h3
  exact zB (i:=x_0) (by omega) (by rw [qn,decide_eq_false h3];simp)
 case b=>
  simp only [bl,reduceCtorEq] at h3
  exact ⟨rfl,by unfold lV;simp only [List.length_map,List.length_take,List.length_singleton];omega⟩
 case c=>
  simp only [bl,reduceCtorEq] at h3
  simp only [aE,aJ] at *;omega
 case d=>
  simp only [bl,reduceCtorEq] at h3
  exact ⟨x_0 + 1,⟨by omega,jA q_0.2 (by rw [qn,h2,decide_eq_true h3];rfl)⟩,by omega,⟨by omega,(B9 (by omega)).symm,trivial⟩,(B9 (by omega)).symm,(by trivial)⟩
theorem Tryz.Ks:bK Tryz.prog Tryz.B.eT Tryz.X 65 [.slice .str] [.slice (.int .i64), .bool] (fun l=>l.length<=1000000/\∀i,(nth .str l i).length<=1000000) (fun x y=>y=(fun l=>bY l) x):=
 bM (X:=Tryz.X) Tryz.IY Tryz.func65 (by kernel_rfl) (fun x=>Cs x) (fun x hw hp=>Kr x hw hp)
noncomputable def Tryz.Fe:List (FuncId × (Bool × bQ)):=[(61,(true,aL [.int .i64] [.str] (fun _=>True) (fun n=>Lib.itoa n))),
 (106,(true,aL [.str] [.int .i64, .err] (fun s=>s.length<=281474976710656) (fun s=>dP s))),
 (145,(true,aL [.str, .str] [.str, .bool] (fun _=>True) (fun x=>(Lib.trimPrefix x.1 x.2,Lib.hasPrefix x.1 x.2)))),
 (64,(true,aL [.str, .str] [.str] (fun _=>True) (fun x=>Lib.trimSuffix x.1 x.2))),
 (63,(true,aL [.str, .str] [.slice .str] (fun x=>x.1.length < 4294967281/\x.2.length=1) (fun x=>parts (K8 x.2) x.1))),
 (65,(true,aL [.slice .str] [.slice (.int .i64), .bool] (fun l=>l.length<=1000000/\∀i,(nth .str l i).length<=1000000) (fun l=>bY l))),
 (29,(true,aL [aI] [.str, .err] (fun _=>True) (fun e=>eA e)))]
theorem Tryz.Kt:bT Tryz.prog Tryz.B Tryz.X Tryz.Fe:=
 aP (aC Tryz.oC) (aP (aC Tryz.rR) (aP (aC Tryz.mX) (aP (aC Tryz.l6) (aP (aC Tryz.rS) (aP (aC Tryz.Ks) (aP (aC Tryz.IX) (bW Tryz.bX)))))))
def Tryz.Ff (s:List UInt8):cN:=[
 (300004,fun st=>{X:=List Int × Bool,inv:=fun y=>qA (parts 32 (Lib.trimSuffix s [10])) y,bA:=fun _=>0,aS:=fun y=>[(5,sD (.slice (.int .i64)) y.1),(6,sB y.2)],aX:=[0,2,3,4]}),
 (300005,fun st=>{X:=Bool,inv:=fun c=>c=false ↔ pM (parts 32 (Lib.trimSuffix s [10])),bA:=fun _=>0,aS:=fun c=>[(69,sB c)],aX:=[0,2,3,4,5]}),
 (300011,fun st=>{X:=List (List UInt8),inv:=fun x=>ll (parts 32 (Lib.trimSuffix s [10])) x (Int.toNat (aZ (.int .i64) st 8)),bA:=fun _=>0,aS:=fun x=>[(9,sD (.slice .str) x)],aX:=[0,2,3,4,5,7,8,82,83,84,85]}),
 (0,fun st=>{X:=Nat,inv:=fun i=>i<=(Int.toNat (nth (.int .i64) (aZ (.slice (.int .i64)) st 5) 0)) + (Int.toNat (nth (.int .i64) (aZ (.slice (.int .i64)) st 5) 1)),bA:=fun i=>(Int.toNat (nth (.int .i64) (aZ (.slice (.int .i64)) st 5) 0)) + (Int.toNat (nth (.int .i64) (aZ (.slice (.int .i64)) st 5) 1)) - i,aS:=fun i=>[(83,sI i)],aK:=fun i=>[(aQ st 7, .cells 48 [.d .str (nth .str (parts 32 (Lib.trimSuffix s [10])) 0), .app aF (cO dI (parts 32 (Lib.trimSuffix s [10])) (Nat.min i (Int.toNat (nth (.int .i64) (aZ (.slice (.int .i64)) st 5) 0)))) (eL st (aQ st 7) 1), .app aH (cA dI (parts 32 (Lib.trimSuffix s [10])) (Int.toNat (nth (.int .i64) (aZ (.slice (.int .i64)) st 5) 0)) (i - (Int.toNat (nth (.int .i64) (aZ (.slice (.int .i64)) st 5) 0)))) (eL st (aQ st 7) 2)]),(eL st (aQ st 7) 1, .tok aF (cO dI (parts 32 (Lib.trimSuffix s [10])) (Nat.min i (Int.toNat (nth (.int .i64) (aZ (.slice (.int .i64)) st 5) 0))))),(eL st (aQ st 7) 2, .tok aH (cA dI (parts 32 (Lib.trimSuffix s [10])) (Int.toNat (nth (.int .i64) (aZ (.slice (.int .i64)) st 5) 0)) (i - (Int.toNat (nth (.int .i64) (aZ (.slice (.int .i64)) st 5) 0)))))],aX:=[0,2,4,5,7,82],eD:=[aQ st 7,eL st (aQ st 7) 1,eL st (aQ st 7) 2]})]
theorem QB (s:List UInt8) (hw:eE [.str] s) (hp:(fun s=>s.length<=100000) s):(cM Tryz.B Tryz.Fe Tryz.f32 (Tryz.Ff s) [.str] [aI, .err] (fun x y=>y=(fun s=>jQ s) x) s).holds:=by
 refine holds_of (p:=
  let za:=Lib.trimSuffix s [(10:UInt8)]
  let zb:=parts (32:UInt8) za
  let zc:=List.length zb<=aJ
  let zd:=(↑(List.length zb):Int)
  let ze:=(([],[],[],()),bC.no (4:Int))=jQ s
  let zf:=(0:Int)<=(1:Int)
  let zg:=List.drop (1:Nat) (List.take (3:Nat) zb)
  let zh:=@List.nil (List UInt8 × Int × Int × Unit) = @List.nil (List UInt8 × Int × Int × Unit)
  let zi:=@List.nil (Int × Int × Int × Unit) = @List.nil (Int × Int × Int × Unit)
  let zj:=(@List.nil UInt8 = @List.nil UInt8/\zh/\zi/\True)/\zi/\zh/\True
  let zk:=pM zb
  let zl:=∃(x':Bool),(x'=false ↔ zk)/\(true=x'/\True)/\zj
  let zm:=(0:Int)<=(0:Int)
  let zn:=fun (x_0:List Int × Bool)=>zm/\(0:Int) < (↑(List.length x_0.1):Int)
  let zo:=Ty.int IntKind.i64
  let zp:=fun (x_0:List Int × Bool)=>nth zo x_0.1 (0:Nat)
  let zq:=fun (x_0:List Int × Bool)=>zf/\(1:Int) < (↑(List.length x_0.1):Int)
  let zr:=fun (x_0:List Int × Bool)=>nth zo x_0.1 (1:Nat)
  let zs:=fun (x_0:List Int × Bool)=>aE (zp x_0 + zr x_0)
  let zt:=aE (3:Int)
  let zu:=fun (x_1:Int)=>(3:Int) + x_1
  let zv:=fun (x_0:List Int × Bool)=>Int.toNat (zp x_0)
  let zw:=fun (x_0:List Int × Bool)=>zv x_0 + Int.toNat (zr x_0)
  let zx:=nth Ty.str zb (0:Nat)
  let zy:=zx=zx
  let zz:=fun (x_2:Nat)=>aE (↑x_2:Int)
  let zaa:=fun (x_2:Nat) (x_0:List Int × Bool)=>cO dI zb (Nat.min x_2 (zv x_0))
  let zab:=fun (x_0:List Int × Bool) (x_2:Nat)=>cA dI zb (zv x_0) (x_2 - zv x_0)
  let zac:=zi/\zh/\zj
  let zad:=fun (x_3:List (List UInt8))=>(↑(List.length x_3):Int)
  let zae:=fun (x_3:List (List UInt8))=>List.drop (1:Nat) (List.take (List.length x_3) x_3)
  let zaf:=fun (x_3:List (List UInt8))=>(bY (zae x_3)).1
  let zag:=fun (x_3:List (List UInt8))=>[(nth Ty.str x_3 (0:Nat),nth zo (zaf x_3) (0:Nat),nth zo (zaf x_3) (1:Nat),())]
  let zah:=fun (x_2:Nat)=>(↑x_2:Int) + (1:Int)
  let zai:=fun (x_3:List (List UInt8))=>(bY x_3).1
  let zaj:=fun (x_3:List (List UInt8))=>(↑(List.length (zai x_3)):Int)
  let zak:=fun (x_3:List (List UInt8))=>[(nth zo (zai x_3) (0:Nat),nth zo (zai x_3) (1:Nat),nth zo (zai x_3) (2:Nat),())]
  (True)/\(List.length za < (4294967281:Nat)/\List.length [(32:UInt8)]=(1:Nat))/\((zc)->(((decide (zd < (3:Int)))=true->(ze))/\((decide (zd < (3:Int)))=false->(((zf/\(1:Int)<=(3:Int)/\(3:Int)<=zd)/\(List.length zg<=(1000000:Nat)/\∀(i:Nat),List.length (nth Ty.str zg i)<=(1000000:Nat))/\(∃(x':List Int × Bool),qA zb x'/\((bY zg).1=x'.1/\(bY zg).2=x'.2/\True)/\zj))/\((∀x_0:List Int × Bool,((qA zb x_0)->(((((!x_0.2)=true->(zl))/\((!x_0.2)=false->(zn x_0)/\(((decide (zp x_0 < (0:Int)))=true->(zl))/\((decide (zp x_0 < (0:Int)))=false->(zn x_0)/\(((decide (zp x_0 > (6:Int)))=true->(zl))/\((decide (zp x_0 > (6:Int)))=false->(zq x_0)/\(((decide (zr x_0 < (0:Int)))=true->(zl))/\((decide (zr x_0 < (0:Int)))=false->(zq x_0)/\(((decide (zr x_0 > (36:Int)))=true->(zl))/\((decide (zr x_0 > (36:Int)))=false->((zc)->(zn x_0)/\(zq x_0)/\((aE (zp x_0))->((aE (zr x_0))->(zs x_0)/\(∀x_1:Int,((x_1=(3:Int) * (zp x_0 + zr x_0))->((zt)->((zs x_0)->(aE x_1)/\((zt)->((aE x_1)->(aE (zu x_1))/\(∃(x':Bool),(x'=false ↔ zk)/\((zd != zu x_1)=x'/\True)/\zj)))))))))))))))))))))/\((∀x_1:Bool,((x_1=false ↔ zk)->(((x_1)=true->(ze))/\((x_1)=false->(zm/\(0:Int) < zd)/\(zn x_0)/\(zq x_0)/\((aE (zp x_0))->((aE (zr x_0))->(zs x_0)/\(∃(x:Nat),x<=zw x_0/\((0:Int)=(↑x:Int)/\True)/\(zy/\@List.nil (List UInt8 × Int × Int × Unit)=cO dI zb (Nat.min x (zv x_0))/\@List.nil (Int × Int × Int × Unit)=cA dI zb (zv x_0) (x - zv x_0)/\True)/\@List.nil (List UInt8 × Int × Int × Unit)=cO dI zb (Nat.min x (zv x_0))/\@List.nil (Int × Int × Int × Unit)=cA dI zb (zv x_0) (x - zv x_0)/\True)/\(∀x_2:Nat,((x_2<=zw x_0)->(((decide ((↑x_2:Int) < zp x_0 + zr x_0))=true->(((∀x_3:Int,((x_3=(3:Int) * (↑x_2:Int))->((zt)->((zz x_2)->(aE x_3)/\((zt)->((aE x_3)->(aE (zu x_3))/\(∀x_4:Int,((x_4=(3:Int) * (↑x_2:Int))->((zt)->((zz x_2)->(aE x_4)/\((aE (6:Int))->((aE x_4)->(aE ((6:Int) + x_4))/\((0:Int)<=zu x_3/\zu x_3<=(6:Int) + x_4/\(6:Int) + x_4<=zd)/\(∃(x':List (List UInt8)),ll zb x' x_2/\(List.drop (Int.toNat (zu x_3)) (List.take (Int.toNat ((6:Int) + x_4)) zb)=x'/\True)/\(zy/\zaa x_2 x_0=zaa x_2 x_0/\zab x_0 x_2=zab x_0 x_2/\True)/\zaa x_2 x_0=zaa x_2 x_0/\zab x_0 x_2=zab x_0 x_2/\zac))))))))))))))/\((∀x_3:List (List UInt8),((ll zb x_3 x_2)->(zn x_0)/\(((decide ((↑x_2:Int) < zp x_0))=true->(zf/\(1:Int)<=zad x_3/\zad x_3<=zad x_3)/\(List.length (zae x_3)<=(1000000:Nat)/\∀(i:Nat),List.length (nth Ty.str (zae x_3) i)<=(1000000:Nat))/\(((!(bY (zae x_3)).2)=true->(ze))/\((!(bY (zae x_3)).2)=false->(zm/\(0:Int) < zad x_3)/\(zm/\(0:Int) < (↑(List.length (zaf x_3)):Int))/\(zf/\(1:Int) < (↑(List.length (zaf x_3)):Int))/\(zaa x_2 x_0=zaa x_2 x_0/\List.length (zaa x_2 x_0) + List.length (zag x_3)<=(1000000000:Nat))/\((zz x_2)->((aE (1:Int))->(aE (zah x_2))/\(∃(x':Nat),x'<=zw x_0/\zw x_0 - x' < zw x_0 - x_2/\(zah x_2=(↑x':Int)/\True)/\(zy/\zaa x_2 x_0++zag x_3=cO dI zb (Nat.min x' (zv x_0))/\zab x_0 x_2=cA dI zb (zv x_0) (x' - zv x_0)/\True)/\zaa x_2 x_0++zag x_3=cO dI zb (Nat.min x' (zv x_0))/\zab x_0 x_2=cA dI zb (zv x_0) (x' - zv x_0)/\zac))))))/\((decide ((↑x_2:Int) < zp x_0))=false->(List.length x_3<=(1000000:Nat)/\∀(i:Nat),List.length (nth Ty.str x_3 i)<=(1000000:Nat))/\(((!(bY x_3).2)=true->(ze))/\((!(bY x_3).2)=false->(zm/\(0:Int) < zaj x_3)/\(zf/\(1:Int) < zaj x_3)/\((0:Int)<=(2:Int)/\(2:Int) < zaj x_3)/\(zab x_0 x_2=zab x_0 x_2/\List.length (zab x_0 x_2) + List.length (zak x_3)<=(1000000000:Nat))/\((zz x_2)->((aE (1:Int))->(aE (zah x_2))/\(∃(x':Nat),x'<=zw x_0/\zw x_0 - x' < zw x_0 - x_2/\(zah x_2=(↑x':Int)/\True)/\(zy/\zaa x_2 x_0=cO dI zb (Nat.min x' (zv x_0))/\zab x_0 x_2++zak x_3=cA dI zb (zv x_0) (x' - zv x_0)/\True)/\zaa x_2 x_0=cO dI zb (Nat.min x' (zv x_0))/\zab x_0 x_2++zak x_3=cA dI zb (zv x_0) (x' - zv x_0)/\zac))))))))))))/\((decide ((↑x_2:Int) < zp x_0 + zr x_0))=false->(True)/\(((!bC.isNil (eA (zx,zaa x_2 x_0,zab x_0 x_2,())).2)=true->(ze))/\((!bC.isNil (eA (zx,zaa x_2 x_0,zab x_0 x_2,())).2)=false->(((!(eA (zx,zaa x_2 x_0,zab x_0 x_2,())).1 == s)=true->(ze))/\((!(eA (zx,zaa x_2 x_0,zab x_0 x_2,())).1 == s)=false->(((zx,zaa x_2 x_0,zab x_0 x_2,()),bC.nil)=jQ s))))))))))))))))))))))))) (by kernel_rfl) ?_
 dsimp -iota -proj -eta only
 refine ⟨trivial,(by have:=yf s [10];exact ⟨by omega,rfl⟩),fun h0=>iL (fun h1=>(HJ (by omega))) (fun h1=>⟨⟨(by trivial),(TB hp 1 3),(⟨_,TD (by omega),⟨rfl,rfl,trivial⟩,(by trivial)⟩)⟩,fun x_0 q_0=>⟨iB (fun h2=>(⟨_,HI (q_0.2 h2),⟨rfl,trivial⟩,(by trivial)⟩)) (fun h2=>⟨?a,iL (fun h3=>(⟨_,HI (fun hd=>by have k0:=q_0.k0 hd;have:=hd.a0;omega),⟨rfl,trivial⟩,(by trivial)⟩)) (fun h3=>⟨?b,iL (fun h4=>(⟨_,HI (fun hd=>by have k0:=q_0.k0 hd;have:=hd.a6;omega),⟨rfl,trivial⟩,(by trivial)⟩)) (fun h4=>⟨?c,iL (fun h5=>(⟨_,HI (fun hd=>by have k1:=q_0.k1 hd;have:=hd.b0;omega),⟨rfl,trivial⟩,(by trivial)⟩)) (fun h5=>⟨?d,iL (fun h6=>(⟨_,HI (fun hd=>by have k1:=q_0.k1 hd;have:=hd.cP;omega),⟨rfl,trivial⟩,(by trivial)⟩)) (fun h6 h7=>⟨?e,?f,fun h8 h9=>⟨?g,fun x_1 q_1 h10 h11=>⟨?h,fun h12 h13=>⟨?i,(⟨_,UL (q_0.1 h2).2.1 (q_0.1 h2).2.2 (q_0.l0 h2) (q_0.l1 h2) (by omega) (by omega) (by omega) (by omega) q_1,⟨rfl,trivial⟩,(by trivial)⟩)⟩⟩⟩⟩)⟩)⟩)⟩)⟩),fun x_1 q_1=>⟨fun h2=>(JO (fun hd=>by rw [q_1.2 hd] at h2;cases h2)),fun h2=>⟨(by omega),?j,?k,fun h3 h4=>⟨?l,(⟨0,Nat.zero_le _,⟨rfl,trivial⟩,⟨rfl,Py _ _ _,S6 _ _ _,trivial⟩,Py _ _ _,S6 _ _ _,(by trivial)⟩),fun x_2 q_2=>iL (fun h5=>⟨fun x_3 q_3 h6 h7=>⟨?m,fun h8 h9=>⟨?n,fun x_4 q_4 h10 h11=>⟨?o,fun h12 h13=>⟨?p,(by have hd:=(q_1.1 h2);have k0:=q_0.k0 hd;have k1:=q_0.k1 hd;have a0:=hd.a0;have a6:=hd.a6;have b0:=hd.b0;have cP:=hd.cP;have hl:=hd.len;omega),(⟨_,Pv q_3 q_4 (by have hd:=(q_1.1 h2);have k0:=q_0.k0 hd;have k1:=q_0.k1 hd;have a0:=hd.a0;have a6:=hd.a6;have b0:=hd.b0;have cP:=hd.cP;have hl:=hd.len;omega),⟨rfl,trivial⟩,(by trivial)⟩)⟩⟩⟩⟩,fun x_3 q_3=>⟨?q,iL (fun h6=>⟨?r,(M9 q_3 (s9 hp)),iB (fun h7=>(JP q_3 (by have hd:=(q_1.1 h2);have k0:=q_0.k0 hd;have k1:=q_0.k1 hd;have a0:=hd.a0;have a6:=hd.a6;have b0:=hd.b0;have cP:=hd.cP;have hl:=hd.len;omega) h7)) (fun h7=>⟨?s,?t,?u,⟨rfl,JQ (by have hd:=(q_1.1 h2);have k0:=q_0.k0 hd;have k1:=q_0.k1 hd;have a0:=hd.a0;have a6:=hd.a6;have b0:=hd.b0;have cP:=hd.cP;have hl:=hd.len;omega)⟩,fun h8 h9=>⟨?v,(by exact ⟨x_2 + 1,by have hd:=(q_1.1 h2);have k0:=q_0.k0 hd;have k1:=q_0.k1 hd;have a0:=hd.a0;have a6:=hd.a6;have b0:=hd.b0;have cP:=hd.cP;have hl:=hd.len;omega,by have hd:=(q_1.1 h2);have k0:=q_0.k0 hd;have k1:=q_0.k1 hd;have a0:=hd.a0;have a6:=hd.a6;have b0:=hd.b0;have cP:=hd.cP;have hl:=hd.len;omega,⟨by omega,trivial⟩,⟨rfl,Ep q_3 h7 (by have hd:=(q_1.1 h2);have k0:=q_0.k0 hd;have k1:=q_0.k1 hd;have a0:=hd.a0;have a6:=hd.a6;have b0:=hd.b0;have cP:=hd.cP;have hl:=hd.len;omega),Er (by have hd:=(q_1.1 h2);have k0:=q_0.k0 hd;have k1:=q_0.k1 hd;have a0:=hd.a0;have a6:=hd.a6;have b0:=hd.b0;have cP:=hd.cP;have hl:=hd.len;omega),trivial⟩,Ep q_3 h7 (by have hd:=(q_1.1 h2);have k0:=q_0.k0 hd;have k1:=q_0.k1 hd;have a0:=hd.a0;have a6:=hd.a6;have b0:=hd.b0;have cP:=hd.cP;have hl:=hd.len;omega),Er (by have hd:=(q_1.1 h2);have k0:=q_0.k0 hd;have k1:=q_0.k1 hd;have a0:=hd.a0;have a6:=hd.a6;have b0:=hd.b0;have cP:=hd.cP;have hl:=hd.len;omega),(by trivial)⟩)⟩⟩)⟩) (fun h6=>⟨(Pw q_3 (s9 hp)),iB (fun h7=>(HN q_3 (by have hd:=(q_1.1 h2);have k0:=q_0.k0 hd;have k1:=q_0.k1 hd;have a0:=hd.a0;have a6:=hd.a6;have b0:=hd.b0;have cP:=hd.cP;have hl:=hd.len;omega) (by have hd:=(q_1.1 h2);have k0:=q_0.k0 hd;have k1:=q_0.k1 hd;have a0:=hd.a0;have a6:=hd.a6;have b0:=hd.b0;have cP:=hd.cP;have hl:=hd.len;omega) h7)) (fun h7=>⟨?w,?x,?y,⟨rfl,Es (by have hd:=(q_1.1 h2);have k0:=q_0.k0 hd;have k1:=q_0.k1 hd;have a0:=hd.a0;have a6:=hd.a6;have b0:=hd.b0;have cP:=hd.cP;have hl:=hd.len;omega)⟩,fun h8 h9=>⟨?z,(by exact ⟨x_2 + 1,by have hd:=(q_1.1 h2);have k0:=q_0.k0 hd;have k1:=q_0.k1 hd;have a0:=hd.a0;have a6:=hd.a6;have b0:=hd.b0;have cP:=hd.cP;have hl:=hd.len;omega,by have hd:=(q_1.1 h2);have k0:=q_0.k0 hd;have k1:=q_0.k1 hd;have a0:=hd.a0;have a6:=hd.a6;have b0:=hd.b0;have cP:=hd.cP;have hl:=hd.len;omega,⟨by omega,trivial⟩,⟨rfl,Cc (by have hd:=(q_1.1 h2);have k0:=q_0.k0 hd;have k1:=q_0.k1 hd;have a0:=hd.a0;have a6:=hd.a6;have b0:=hd.b0;have cP:=hd.cP;have hl:=hd.len;omega),HP q_3 h7 (by have hd:=(q_1.1 h2);have k0:=q_0.k0 hd;have k1:=q_0.k1 hd;have a0:=hd.a0;have a6:=hd.a6;have b0:=hd.b0;have cP:=hd.cP;have hl:=hd.len;omega),trivial⟩,Cc (by have hd:=(q_1.1 h2);have k0:=q_0.k0 hd;have k1:=q_0.k1 hd;have a0:=hd.a0;have a6:=hd.a6;have b0:=hd.b0;have cP:=hd.cP;have hl:=hd.len;omega),HP q_3 h7 (by have hd:=(q_1.1 h2);have k0:=q_0.k0 hd;have k1:=q_0.k1 hd;have a0:=hd.a0;have a6:=hd.a6;have b0:=hd.b0;have cP:=hd.cP;have hl:=hd.len;omega),(by trivial)⟩)⟩⟩)⟩)⟩⟩) (fun h5=>⟨trivial,iB (fun h6 => ?a0) (fun h6=>⟨fun h7 => ?a1,fun h7 => ?a2⟩)⟩)⟩⟩⟩⟩⟩)⟩
 case a|b|c|d|e|f=>rw [(q_0.1 h2).1];simp
 case g|h|i|v=>simp only [aE,aJ] at *;omega
 case j|k|q=>rw [q_0.get (q_1.1 h2)];simp
 case l|m|n|o|p|z=>have hd:=(q_1.1 h2);have k0:=q_0.k0 hd;have k1:=q_0.k1 hd;have a0:=hd.a0;have a6:=hd.a6;have b0:=hd.b0;have cP:=hd.cP;have hl:=hd.len;simp only [aE] at *;omega
 case r|s=>rw [q_3.len];simp
 case t|u=>rw [Eo q_3 h7];simp
 case w|x|y=>rw [HM q_3 h7];simp
 case a0=>
  rw [HQ (a:=Int.toNat (nth (.int .i64) x_0.1 0)) (b:=Int.toNat (nth (.int .i64) x_0.1 1)) (by have hd:=(q_1.1 h2);have k0:=q_0.k0 hd;have k1:=q_0.k1 hd;have a0:=hd.a0;have a6:=hd.a6;have b0:=hd.b0;have cP:=hd.cP;have hl:=hd.len;omega)] at h6
  exact zE (by have hd:=(q_1.1 h2);have k0:=q_0.k0 hd;have k1:=q_0.k1 hd;have a0:=hd.a0;have a6:=hd.a6;have b0:=hd.b0;have cP:=hd.cP;have hl:=hd.len;omega) (by have hd:=(q_1.1 h2);have k0:=q_0.k0 hd;have k1:=q_0.k1 hd;have a0:=hd.a0;have a6:=hd.a6;have b0:=hd.b0;have cP:=hd.cP;have hl:=hd.len;omega) (.inl h6)
 case a1=>
  simp only [bl,reduceCtorEq] at h7
  rw [HQ (a:=Int.toNat (nth (.int .i64) x_0.1 0)) (b:=Int.toNat (nth (.int .i64) x_0.1 1)) (by have hd:=(q_1.1 h2);have k0:=q_0.k0 hd;have k1:=q_0.k1 hd;have a0:=hd.a0;have a6:=hd.a6;have b0:=hd.b0;have cP:=hd.cP;have hl:=hd.len;omega)] at h7
  exact zE (by have hd:=(q_1.1 h2);have k0:=q_0.k0 hd;have k1:=q_0.k1 hd;have a0:=hd.a0;have a6:=hd.a6;have b0:=hd.b0;have cP:=hd.cP;have hl:=hd.len;omega) (by have hd:=(q_1.1 h2);have k0:=q_0.k0 hd;have k1:=q_0.k1 hd;have a0:=hd.a0;have a6:=hd.a6;have b0:=hd.b0;have cP:=hd.cP;have hl:=hd.len;omega) (.inr h7)
 case a2=>
  simp only [bl,reduceCtorEq] at h7
  exact Pr h6 h7
theorem Tryz.Fg:bK Tryz.prog Tryz.B.eT Tryz.X 32 [.str] [aI, .err] (fun s=>s.length<=100000) (fun x y=>y=(fun s=>jQ s) x):=
 bM (X:=Tryz.X) Tryz.Kt Tryz.func32 (by kernel_rfl) (fun x=>Tryz.Ff x) (fun x hw hp=>QB x hw hp)
end Go.Proofs.YtgokjhhcfemnhabGreatDoor

namespace Go.Proofs.YtgokjhhcfemnhabGreatDoor
open Go.Vg Go.Mrl
theorem Ku (n:Int) (hw:eE [.int .i64] n):(cM Tryz.B [] Tryz.f60 [] [.int .i64] [.bool] (fun x y=>y=(fun n=>dJ n) x) n).holds:=by
 refine holds_of (p:=
  (((decide (n>=(-2147483648:Int)))=true->(decide (n<=(2147483647:Int))=dJ n))/\((decide (n>=(-2147483648:Int)))=false->(false=dJ n)))) (by kernel_rfl) ?_
 refine iE (fun h0 => ?a) (fun h0 => ?b)
 case a|b=>unfold dJ;rw [Bool.eq_iff_iff];simp;omega
theorem Tryz.Kv:bK Tryz.prog Tryz.B.eT Tryz.X 60 [.int .i64] [.bool] (fun _=>True) (fun x y=>y=(fun n=>dJ n) x):=
 bM (X:=Tryz.X) (bW Tryz.bX) Tryz.func60 (by kernel_rfl) (fun _=>[]) (fun x hw hp=>Ku x hw)
noncomputable def Tryz.Ct:List (FuncId × (Bool × bQ)):=[(49,(true,aL [.str] [.err] (fun _=>True) (fun s=>aT (aG s)))),
 (50,(true,aL [.str] [.int .i64] (fun _=>True) (fun s=>aG s))),
 (156,(true,aL [.str] [.int .u32] (fun _=>True) (fun s=>(dD s:Int)))),
 (83,(true,aL [.str] [.int .i64] (fun _=>True) (fun s=>(dD s:Int)))),
 (11,(true,aL [.err, .int .i64] [.bool] (fun _=>True) (fun x=>cT x.1 x.2))),
 (60,(true,aL [.int .i64] [.bool] (fun _=>True) (fun n=>dJ n)))]
theorem Tryz.IZ:bT Tryz.prog Tryz.B Tryz.X Tryz.Ct:=
 aP (aC Tryz.iR) (aP (aC Tryz.eY) (aP (aC Tryz.jC) (aP (aC Tryz.iS) (aP (aC Tryz.jl) (aP (aC Tryz.Kv) (bW Tryz.bX))))))
def Cu (e:D aI):cN:=[
 (0,fun st=>{X:=Nat,inv:=fun i=>i<=List.length e.2.1/\∀j,j < i->dV (nth aF e.2.1 j)=0,bA:=fun i=>List.length e.2.1 - i,aS:=fun i=>[(4,sI i)],aX:=[1]}),
 (2,fun st=>{X:=Nat,inv:=fun i=>i<=List.length e.2.2.1/\∀j,j < i->dO e.2.1.length (nth aH e.2.2.1 j)=0,bA:=fun i=>List.length e.2.2.1 - i,aS:=fun i=>[(7,sI i)],aX:=[1]})]
theorem Dc (e:D aI) (hw:eE [aI] e):(cM Tryz.B Tryz.Ct Tryz.f28 (Cu e) [aI] [.int .i64] (fun x y=>y=(fun e=>bZ e) x) e).holds:=by
 refine holds_of (p:=
  let za:=aG e.1
  let zb:=bZ e
  let zc:=e.2.1
  let zd:=List.length zc
  let ze:=zd<=aJ
  let zf:=(↑zd:Int)
  let zg:=(2:Int)=zb
  let zh:=e.2.2.1
  let zi:=List.length zh
  let zj:=fun (x_0:Nat)=>aG (nth aF zc x_0).1
  let zk:=(1:Int)=zb
  let zl:=fun (x_0:Nat)=>(nth aF zc x_0).2.2.1
  let zm:=fun (x_0:Nat)=>(↑x_0:Int) + (1:Int)
  let zn:=(e.1=e.1/\zc=zc/\zh=zh/\True)/\True
  (True)/\(((decide (za > (0:Int)))=true->(za=zb))/\((decide (za > (0:Int)))=false->((ze)->(((decide (zf < (1:Int)))=true->(zg))/\((decide (zf < (1:Int)))=false->((ze)->(((decide (zf > (6:Int)))=true->(zg))/\((decide (zf > (6:Int)))=false->((zi<=aJ)->(((decide ((↑zi:Int) > (36:Int)))=true->(zg))/\((decide ((↑zi:Int) > (36:Int)))=false->(∃(x:Nat),(x<=zd/\∀(j:Nat),j < x->dV (nth aF zc j)=(0:Int))/\((0:Int)=(↑x:Int)/\True)/\True)/\(∀x_0:Nat,((x_0<=zd/\∀(j:Nat),j < x_0->dV (nth aF zc j)=(0:Int))->((ze)->(((decide ((↑x_0:Int) < zf))=true->((0:Int)<=(↑x_0:Int)/\(↑x_0:Int) < zf)/\(True)/\(((decide (zj x_0 > (0:Int)))=true->(zj x_0=zb))/\((decide (zj x_0 > (0:Int)))=false->(((decide ((nth aF zc x_0).2.1 < (1:Int)))=true->(zk))/\((decide ((nth aF zc x_0).2.1 < (1:Int)))=false->(((decide ((nth aF zc x_0).2.1 > (1000000:Int)))=true->(zk))/\((decide ((nth aF zc x_0).2.1 > (1000000:Int)))=false->(((decide (zl x_0 < (0:Int)))=true->(zk))/\((decide (zl x_0 < (0:Int)))=false->(((decide (zl x_0 > (255:Int)))=true->(zk))/\((decide (zl x_0 > (255:Int)))=false->((16:Int)≠(0:Int))/\(∀x_1:Int,((x_1=Int.tmod (zl x_0) (16:Int))->(((decide (x_1 > (0:Int)))=true->(zk))/\((decide (x_1 > (0:Int)))=false->((aE (↑x_0:Int))->((aE (1:Int))->(aE (zm x_0))/\(∃(x':Nat),(x'<=zd/\∀(j:Nat),j < x'->dV (nth aF zc j)=(0:Int))/\zd - x' < zd - x_0/\(zm x_0=(↑x':Int)/\True)/\zn))))))))))))))))))/\((decide ((↑x_0:Int) < zf))=false->(∃(x:Nat),(x<=zi/\∀(j:Nat),j < x->dO zd (nth aH zh j)=(0:Int))/\((0:Int)=(↑x:Int)/\True)/\True)/\(∀x_1:Nat,((x_1<=zi/\∀(j:Nat),j < x_1->dO zd (nth aH zh j)=(0:Int))->((zi<=aJ)->(((decide ((↑x_1:Int) < (↑zi:Int)))=true->((0:Int)<=(↑x_1:Int)/\(↑x_1:Int) < (↑zi:Int))/\(True)/\(((decide ((nth aH zh x_1).1 < (0:Int)))=true->(zk))/\((decide ((nth aH zh x_1).1 < (0:Int)))=false->((ze)->(((decide ((nth aH zh x_1).1>=zf))=true->(zk))/\((decide ((nth aH zh x_1).1>=zf))=false->(((decide ((nth aH zh x_1).2.1 < (0:Int)))=true->(zk))/\((decide ((nth aH zh x_1).2.1 < (0:Int)))=false->(((decide ((nth aH zh x_1).2.1 > (39:Int)))=true->(zk))/\((decide ((nth aH zh x_1).2.1 > (39:Int)))=false->(((!dJ (nth aH zh x_1).2.2.1)=true->(zk))/\((!dJ (nth aH zh x_1).2.2.1)=false->((aE (↑x_1:Int))->((aE (1:Int))->(aE (zm x_1))/\(∃(x':Nat),(x'<=zi/\∀(j:Nat),j < x'->dO zd (nth aH zh j)=(0:Int))/\zi - x' < zi - x_1/\(zm x_1=(↑x':Int)/\True)/\zn)))))))))))))))/\((decide ((↑x_1:Int) < (↑zi:Int)))=false->((0:Int)=zb))))))))))))))))))))))) (by kernel_rfl) ?_
 dsimp -iota -proj -eta only
 refine ⟨trivial,iL (fun h0=>((s6 h0).symm)) (fun h0 h1=>iL (fun h2=>((lg (by assumption:aG e.1<=0) (.inl (by omega))).symm)) (fun h2 h3=>iL (fun h4=>((lg (by assumption:aG e.1<=0) (.inr (.inl (by omega)))).symm)) (fun h4 h5=>iL (fun h6=>((lg (by assumption:aG e.1<=0) (.inr (.inr (by omega)))).symm)) (fun h6=>⟨?a,fun x_0 q_0 h7=>iL (fun h8=>⟨?b,trivial,iL (fun h9=>(((eX (by assumption:aG e.1<=0) (dX (by omega) (by omega) (by omega)) q_0.2 (by omega) (B1 h9) (by omega))).symm)) (fun h9=>iL (fun h10=>(((eX (by assumption:aG e.1<=0) (dX (by omega) (by omega) (by omega)) q_0.2 (by omega) (jZ h9 (.inl (by assumption))) (by decide))).symm)) (fun h10=>iL (fun h11=>(((eX (by assumption:aG e.1<=0) (dX (by omega) (by omega) (by omega)) q_0.2 (by omega) (jZ h9 (.inr (.inl (by assumption)))) (by decide))).symm)) (fun h11=>iL (fun h12=>(((eX (by assumption:aG e.1<=0) (dX (by omega) (by omega) (by omega)) q_0.2 (by omega) (jZ h9 (.inr (.inr (.inl (by assumption))))) (by decide))).symm)) (fun h12=>iL (fun h13=>(((eX (by assumption:aG e.1<=0) (dX (by omega) (by omega) (by omega)) q_0.2 (by omega) (jZ h9 (.inr (.inr (.inr (.inl (by assumption)))))) (by decide))).symm)) (fun h13=>⟨(by trivial),fun x_1 q_1=>iL (fun h14=>(by have hb:=vu h12 q_1;exact ((eX (by assumption:aG e.1<=0) (dX (by omega) (by omega) (by omega)) q_0.2 (by omega) (jZ h9 (.inr (.inr (.inr (.inr (by rw [hb] at h14;exact h14)))))) (by decide))).symm)) (fun h14 h15 h16=>⟨?c,(by have hb:=vu h12 q_1;exact ⟨x_0 + 1,⟨by omega,jA q_0.2 (HD h9 h10 h11 h12 h13 (by rw [hb] at h14;exact Int.le_antisymm h14 (Int.emod_nonneg _ (by decide))))⟩,by omega,⟨by omega,trivial⟩,(by trivial)⟩)⟩)⟩)))))⟩) (fun h8=>⟨?d,fun x_1 q_1 h9=>iL (fun h10=>⟨?e,trivial,iL (fun h11=>(((fI (by assumption:aG e.1<=0) (dX (by omega) (by omega) (by omega)) (fun j hj=>q_0.2 j (by omega)) q_1.2 (by omega) (j0 (.inl (by assumption))))).symm)) (fun h11 h12=>iE (fun h13=>(((fI (by assumption:aG e.1<=0) (dX (by omega) (by omega) (by omega)) (fun j hj=>q_0.2 j (by omega)) q_1.2 (by omega) (j0 (.inr (.inl (by assumption)))))).symm)) (fun h13=>iL (fun h14=>(((fI (by assumption:aG e.1<=0) (dX (by omega) (by omega) (by omega)) (fun j hj=>q_0.2 j (by omega)) q_1.2 (by omega) (j0 (.inr (.inr (.inl (by assumption))))))).symm)) (fun h14=>iL (fun h15=>(((fI (by assumption:aG e.1<=0) (dX (by omega) (by omega) (by omega)) (fun j hj=>q_0.2 j (by omega)) q_1.2 (by omega) (j0 (.inr (.inr (.inr (.inl (by assumption)))))))).symm)) (fun h15=>iB (fun h16=>(((fI (by assumption:aG e.1<=0) (dX (by omega) (by omega) (by omega)) (fun j hj=>q_0.2 j (by omega)) q_1.2 (by omega) (Na h16))).symm)) (fun h16 h17 h18=>⟨?f,(⟨x_1 + 1,⟨by omega,jA q_1.2 (JR (by assumption) (by assumption) (by assumption) (by assumption) h16)⟩,by omega,⟨by omega,trivial⟩,(by trivial)⟩)⟩)))))⟩) (fun h10=>((El (by assumption:aG e.1<=0) (dX (by omega) (by omega) (by omega)) (fun j hj=>q_0.2 j (by omega)) (fun j hj=>q_1.2 j (by omega))).symm))⟩)⟩))))⟩
 case a|d=>exact ⟨0,⟨Nat.zero_le _,fun j hj=>absurd hj (Nat.not_lt_zero _)⟩,⟨rfl,trivial⟩,trivial⟩
 case b|e=>omega
 case c|f=>simp only [aE,aJ] at *;omega
theorem Tryz.tY:bK Tryz.prog Tryz.B.eT Tryz.X 28 [aI] [.int .i64] (fun _=>True) (fun x y=>y=(fun e=>bZ e) x):=
 bM (X:=Tryz.X) Tryz.IZ Tryz.func28 (by kernel_rfl) (fun x=>Cu x) (fun x hw hp=>Dc x hw)
noncomputable def Tryz.Fh:List (FuncId × (Bool × bQ)):=[(62,(true,aL [.int .i64] [.str] (fun _=>True) (fun n=>Lib.itoa n)))]
theorem Tryz.Ky:bT Tryz.prog Tryz.B Tryz.X Tryz.Fh:=
 aP (aC Tryz.Cn) (bW Tryz.bX)
def Fi (e:D aI):cN:=[
 (0,fun st=>{X:=Nat,inv:=fun i=>i<=List.length e.2.1,bA:=fun i=>List.length e.2.1 - i,aS:=fun i=>[(4,sI i),(3,sS (gG e i))],aX:=[1,2]}),
 (2,fun st=>{X:=Nat,inv:=fun i=>i<=List.length e.2.2.1,bA:=fun i=>List.length e.2.2.1 - i,aS:=fun i=>[(5,sI i),(3,sS (fT e i))],aX:=[1,2]})]
theorem FF (e:D aI) (hw:eE [aI] e) (hp:(fun e=>bZ e=0) e):(cM Tryz.B Tryz.Fh Tryz.f31 (Fi e) [aI] [.str] (fun x y=>y=(fun e=>gH e) x) e).holds:=by
 refine holds_of (p:=
  let za:=[(32:UInt8)]
  let zb:=List.length za
  let zc:=e.2.1
  let zd:=List.length zc
  let ze:=e.2.2.1
  let zf:=List.length ze
  let zg:=Lib.itoa (↑zd:Int)
  let zh:=e.1++za++zg
  let zi:=Lib.itoa (↑zf:Int)
  let zj:=fun (x_0:Nat)=>(0:Int)<=(↑x_0:Int)/\(↑x_0:Int) < (↑zd:Int)
  let zk:=fun (x_0:Nat)=>gG e x_0++za++(nth aF zc x_0).1
  let zl:=fun (x_0:Nat)=>Lib.itoa (nth aF zc x_0).2.1
  let zm:=fun (x_0:Nat)=>zk x_0++za++zl x_0++za
  let zn:=fun (x_0:Nat)=>Lib.itoa (nth aF zc x_0).2.2.1
  let zo:=fun (x_0:Nat)=>(↑x_0:Int) + (1:Int)
  let zp:=(e.1=e.1/\zc=zc/\ze=ze/\True)/\True
  let zq:=fun (x_1:Nat)=>(0:Int)<=(↑x_1:Int)/\(↑x_1:Int) < (↑zf:Int)
  let zr:=fun (x_1:Nat)=>fT e x_1++za++Lib.itoa (nth aH ze x_1).1
  let zs:=fun (x_1:Nat)=>zr x_1++za++Lib.itoa (nth aH ze x_1).2.1
  let zt:=fun (x_1:Nat)=>Lib.itoa (nth aH ze x_1).2.2.1
  (List.length e.1 + zb<=aJ)/\((zd<=aJ)->((zf<=aJ)->(True)/\(List.length (e.1++za) + List.length zg<=aJ)/\(List.length zh + zb<=aJ)/\(True)/\(List.length (zh++za) + List.length zi<=aJ)/\(∃(x:Nat),x<=zd/\((0:Int)=(↑x:Int)/\zh++za++zi=gG e x/\True)/\True)/\(∀x_0:Nat,((x_0<=zd)->((zd<=aJ)->(((decide ((↑x_0:Int) < (↑zd:Int)))=true->(List.length (gG e x_0) + zb<=aJ)/\(zj x_0)/\(List.length (gG e x_0++za) + List.length (nth aF zc x_0).1<=aJ)/\(List.length (zk x_0) + zb<=aJ)/\(zj x_0)/\(zj x_0)/\(True)/\(List.length (zk x_0++za) + List.length (zl x_0)<=aJ)/\(List.length (zk x_0++za++zl x_0) + zb<=aJ)/\(True)/\(List.length (zm x_0) + List.length (zn x_0)<=aJ)/\((aE (↑x_0:Int))->((aE (1:Int))->(aE (zo x_0))/\(∃(x':Nat),x'<=zd/\zd - x' < zd - x_0/\(zo x_0=(↑x':Int)/\zm x_0++zn x_0=gG e x'/\True)/\zp))))/\((decide ((↑x_0:Int) < (↑zd:Int)))=false->(∃(x:Nat),x<=zf/\((0:Int)=(↑x:Int)/\gG e x_0=fT e x/\True)/\True)/\(∀x_1:Nat,((x_1<=zf)->((zf<=aJ)->(((decide ((↑x_1:Int) < (↑zf:Int)))=true->(List.length (fT e x_1) + zb<=aJ)/\(zq x_1)/\(zq x_1)/\(zq x_1)/\(True)/\(List.length (fT e x_1++za) + List.length (Lib.itoa (nth aH ze x_1).1)<=aJ)/\(List.length (zr x_1) + zb<=aJ)/\(True)/\(List.length (zr x_1++za) + List.length (Lib.itoa (nth aH ze x_1).2.1)<=aJ)/\(List.length (zs x_1) + zb<=aJ)/\(True)/\(List.length (zs x_1++za) + List.length (zt x_1)<=aJ)/\((aE (↑x_1:Int))->((aE (1:Int))->(aE (zo x_1))/\(∃(x':Nat),x'<=zf/\zf - x' < zf - x_1/\(zo x_1=(↑x':Int)/\zs x_1++za++zt x_1=fT e x'/\True)/\zp))))/\((decide ((↑x_1:Int) < (↑zf:Int)))=false->(List.length (fT e x_1) + List.length [(10:UInt8)]<=aJ)/\(fT e x_1++[(10:UInt8)]=gH e)))))))))))))) (by kernel_rfl) ?_
 dsimp -iota -proj -eta only
 refine ⟨?a,fun h0 h1=>⟨trivial,?b,?c,trivial,?d,(⟨0,by omega,⟨rfl,(B2 e).symm,trivial⟩,trivial⟩),fun x_0 q_0 h2=>iL (fun h3=>⟨?e,?f,?g,?h,?i,?j,trivial,?k,?l,trivial,?m,fun h4 h5=>⟨?n,(⟨x_0 + 1,by omega,by omega,⟨by omega,UM (by omega),trivial⟩,(by trivial)⟩)⟩⟩) (fun h3=>⟨(⟨0,by omega,⟨rfl,by rw [B3,show x_0=e.2.1.length by omega],trivial⟩,trivial⟩),fun x_1 q_1 h4=>iL (fun h5=>⟨?o,?p,?q,?r,trivial,?s,?t,trivial,?u,?v,trivial,?w,fun h6 h7=>⟨?x,(⟨x_1 + 1,by omega,by omega,⟨by omega,UN (by omega),trivial⟩,(by trivial)⟩)⟩⟩) (fun h5=>⟨(by have a:=(l5 hp).CX x_1;simp only [List.length_append,List.length_cons,List.length_nil,aJ];omega),(by rw [show x_1=e.2.2.1.length by omega];rfl)⟩)⟩)⟩⟩
 case a|b|c|d=>have a:=(l5 hp).lens;simp only [List.length_append,List.length_cons,List.length_nil,aJ];omega
 case e|g|h|k|l|m=>have a:=(l5 hp).S4 (i:=x_0) (by omega);simp only [List.length_append,List.length_cons,List.length_nil,aJ];omega
 case f|i|j|p|q|r=>omega
 case n|x=>simp only [aE,aJ] at *;omega
 case o|s|t|u|v|w=>have a:=(l5 hp).S5 (i:=x_1) (by omega);simp only [List.length_append,List.length_cons,List.length_nil,aJ];omega
theorem Tryz.vU:bK Tryz.prog Tryz.B.eT Tryz.X 31 [aI] [.str] (fun e=>bZ e=0) (fun x y=>y=(fun e=>gH e) x):=
 bM (X:=Tryz.X) Tryz.Ky Tryz.func31 (by kernel_rfl) (fun x=>Fi x) (fun x hw hp=>FF x hw hp)
noncomputable def Tryz.zF:List (FuncId × (Bool × bQ)):=[(66,(true,aL [.str] [.slice .str, .bool] (fun s=>s.length<=1000000) (fun s=>(eM s,pj s)))),
 (67,(true,aL [.str] [.slice .str] (fun s=>s.length<=1000000) (fun s=>parts 32 s))),
 (68,(true,aL [.str] [.int .i64, .bool] (fun _=>True) (fun s=>(cJ s,fW s)))),
 (28,(true,aL [aI] [.int .i64] (fun _=>True) (fun e=>bZ e))),
 (31,(true,aL [aI] [.str] (fun e=>bZ e=0) (fun e=>gH e)))]
theorem Tryz.FG:bT Tryz.prog Tryz.B Tryz.X Tryz.zF:=
 aP (aC Tryz.EM) (aP (aC Tryz.EK) (aP (aC Tryz.Co) (aP (aC Tryz.tY) (aP (aC Tryz.vU) (bW Tryz.bX)))))
def Tryz.zG (s:List UInt8):cN:=[
 (300009,fun st=>{X:=Bool,inv:=fun c=>c=false ↔ Ce (parts 32 (nth .str (eM s) 0)),bA:=fun _=>0,aS:=fun c=>[(91,sB c)],aX:=[0,2,3,6,7,9]}),
 (0,fun st=>{X:=Nat,inv:=fun i=>i<=(Int.toNat (aZ (.int .i64) st 7)),bA:=fun i=>(Int.toNat (aZ (.int .i64) st 7)) - i,aS:=fun i=>[(12,sI i)],aK:=fun i=>[(aQ st 11, .cells 48 [.d .str (nth .str (parts 32 (nth .str (eM s) 0)) 0), .app aF (cO cJ (parts 32 (nth .str (eM s) 0)) i) (eL st (aQ st 11) 1), .app aH [] (eL st (aQ st 11) 2)]),(eL st (aQ st 11) 1, .tok aF (cO cJ (parts 32 (nth .str (eM s) 0)) i)),(eL st (aQ st 11) 2, .tok aH [])],aX:=[0,2,6,7,9,11],eD:=[aQ st 11,eL st (aQ st 11) 1,eL st (aQ st 11) 2]}),
 (2,fun st=>{X:=Nat,inv:=fun i=>i<=(Int.toNat (aZ (.int .i64) st 9)),bA:=fun i=>(Int.toNat (aZ (.int .i64) st 9)) - i,aS:=fun i=>[(17,sI ((Int.toNat (aZ (.int .i64) st 7)) + i:Int))],aK:=fun i=>[(aQ st 11, .cells 48 [.d .str (nth .str (parts 32 (nth .str (eM s) 0)) 0), .app aF (cO cJ (parts 32 (nth .str (eM s) 0)) (Int.toNat (aZ (.int .i64) st 7))) (eL st (aQ st 11) 1), .app aH (cA cJ (parts 32 (nth .str (eM s) 0)) (Int.toNat (aZ (.int .i64) st 7)) i) (eL st (aQ st 11) 2)]),(eL st (aQ st 11) 1, .tok aF (cO cJ (parts 32 (nth .str (eM s) 0)) (Int.toNat (aZ (.int .i64) st 7)))),(eL st (aQ st 11) 2, .tok aH (cA cJ (parts 32 (nth .str (eM s) 0)) (Int.toNat (aZ (.int .i64) st 7)) i))],aX:=[0,2,6,7,9,11],eD:=[aQ st 11,eL st (aQ st 11) 1,eL st (aQ st 11) 2]})]
theorem Kz (s:List UInt8) (hw:eE [.str] s) (hp:(fun s=>s.length<=100000) s):(cM Tryz.B Tryz.zF Tryz.f33 (Tryz.zG s) [.str] [aI, .int .i64] (fun x y=>y=(fun s=>fJ s) x) s).holds:=by
 refine holds_of (p:=
  let za:=(([],[],[],()),(4:Int))=fJ s
  let zb:=List.length (eM s)
  let zc:=(0:Int)<=(0:Int)
  let zd:=nth Ty.str (eM s) (0:Nat)
  let ze:=parts (32:UInt8) zd
  let zf:=List.length ze<=aJ
  let zg:=(↑(List.length ze):Int)
  let zh:=nth Ty.str ze (1:Nat)
  let zi:=@List.nil (List UInt8 × Int × Int × Unit) = @List.nil (List UInt8 × Int × Int × Unit)
  let zj:=@List.nil (Int × Int × Int × Unit) = @List.nil (Int × Int × Int × Unit)
  let zk:=zj/\True
  let zl:=(@List.nil UInt8 = @List.nil UInt8/\zi/\zk)/\zj/\zi/\True
  let zm:=∃(x':Bool),(x'=false ↔ Ce ze)/\(true=x'/\True)/\zl
  let zn:=nth Ty.str ze (2:Nat)
  let zo:=cJ zh
  let zp:=cJ zn
  let zq:=aE (3:Int)
  let zr:=fun (x_0:Int)=>aE x_0
  let zs:=fun (x_0:Int)=>(3:Int) + x_0
  let zt:=Int.toNat zo
  let zu:=nth Ty.str ze (0:Nat)
  let zv:=zu=zu
  let zw:=fun (x_2:Int) (x_1:Nat)=>x_2=(3:Int) * (↑x_1:Int)
  let zx:=fun (x_1:Nat)=>aE (↑x_1:Int)
  let zy:=fun (x_2:Int)=>(0:Int)<=(4:Int) + x_2/\(4:Int) + x_2 < zg
  let zz:=fun (x_3:Int)=>(0:Int)<=(5:Int) + x_3/\(5:Int) + x_3 < zg
  let zaa:=fun (x_2:Int)=>nth Ty.str ze (Int.toNat ((4:Int) + x_2))
  let zab:=fun (x_3:Int)=>nth Ty.str ze (Int.toNat ((5:Int) + x_3))
  let zac:=fun (x_4:Int)=>(0:Int)<=zs x_4/\zs x_4 < zg
  let zad:=fun (x_1:Nat)=>cO cJ ze x_1
  let zae:=fun (x_4:Int)=>nth Ty.str ze (Int.toNat (zs x_4))
  let zaf:=zj/\zi/\zl
  let zag:=Int.toNat zp
  let zah:=(↑zt:Int)
  let zai:=cO cJ ze zt
  let zaj:=fun (x_2:Nat)=>zah + (↑x_2:Int)
  let zak:=fun (x_2:Nat)=>cA cJ ze zt x_2
  let zal:=fun (x_2:Nat)=>(zu,zai,zak x_2,())
  (List.length s<=(1000000:Nat))/\(((!pj s)=true->(za))/\((!pj s)=false->((zb<=aJ)->((((↑zb:Int) != (1:Int))=true->(za))/\(((↑zb:Int) != (1:Int))=false->(zc/\(0:Int) < (↑zb:Int))/\(List.length zd<=(1000000:Nat))/\((zf)->(((decide (zg < (3:Int)))=true->(za))/\((decide (zg < (3:Int)))=false->((0:Int)<=(1:Int)/\(1:Int) < zg)/\(True)/\((0:Int)<=(2:Int)/\(2:Int) < zg)/\(True)/\(((((!fW zh)=true->(zm))/\((!fW zh)=false->(((!fW zn)=true->(zm))/\((!fW zn)=false->(((decide (zo < (0:Int)))=true->(zm))/\((decide (zo < (0:Int)))=false->(((decide (zo > (6:Int)))=true->(zm))/\((decide (zo > (6:Int)))=false->(((decide (zp < (0:Int)))=true->(zm))/\((decide (zp < (0:Int)))=false->(((decide (zp > (36:Int)))=true->(zm))/\((decide (zp > (36:Int)))=false->((zf)->(∀x_0:Int,((x_0=(3:Int) * zo)->((zq)->((aE zo)->(zr x_0)/\((zq)->((zr x_0)->(aE (zs x_0))/\(∀x_1:Int,((x_1=(3:Int) * zp)->((zq)->((aE zp)->(zr x_1)/\((aE (zs x_0))->((zr x_1)->(aE (zs x_0 + x_1))/\(∃(x':Bool),(x'=false ↔ Ce ze)/\((zg != zs x_0 + x_1)=x'/\True)/\zl)))))))))))))))))))))))))))/\((∀x_0:Bool,((x_0=false ↔ Ce ze)->(((x_0)=true->(za))/\((x_0)=false->(zc/\(0:Int) < zg)/\(∃(x:Nat),x<=zt/\((0:Int)=(↑x:Int)/\True)/\(zv/\@List.nil (List UInt8 × Int × Int × Unit)=cO cJ ze x/\zk)/\@List.nil (List UInt8 × Int × Int × Unit)=cO cJ ze x/\zk)/\(∀x_1:Nat,((x_1<=zt)->(((decide ((↑x_1:Int) < zo))=true->(∀x_2:Int,((zw x_2 x_1)->((zq)->((zx x_1)->(zr x_2)/\((aE (4:Int))->((zr x_2)->(aE ((4:Int) + x_2))/\(zy x_2)/\(True)/\(∀x_3:Int,((zw x_3 x_1)->((zq)->((zx x_1)->(zr x_3)/\((aE (5:Int))->((zr x_3)->(aE ((5:Int) + x_3))/\(zz x_3)/\(True)/\(((!fW (zaa x_2))=true->(za))/\((!fW (zaa x_2))=false->(((!fW (zab x_3))=true->(za))/\((!fW (zab x_3))=false->(∀x_4:Int,((zw x_4 x_1)->((zq)->((zx x_1)->(zr x_4)/\((zq)->((zr x_4)->(aE (zs x_4))/\(zac x_4)/\(zad x_1=zad x_1/\List.length (zad x_1) + List.length [(zae x_4,cJ (zaa x_2),cJ (zab x_3),())]<=(1000000000:Nat))/\((zx x_1)->((aE (1:Int))->(aE ((↑x_1:Int) + (1:Int)))/\(∃(x':Nat),x'<=zt/\zt - x' < zt - x_1/\((↑x_1:Int) + (1:Int)=(↑x':Int)/\True)/\(zv/\zad x_1++[(zae x_4,cJ (zaa x_2),cJ (zab x_3),())]=cO cJ ze x'/\zk)/\zad x_1++[(zae x_4,cJ (zaa x_2),cJ (zab x_3),())]=cO cJ ze x'/\zj/\zaf))))))))))))))))))))))))))/\((decide ((↑x_1:Int) < zo))=false->(∃(x:Nat),x<=zag/\(zo=zah + (↑x:Int)/\True)/\(zv/\zad x_1=zai/\@List.nil (Int × Int × Int × Unit)=cA cJ ze zt x/\True)/\zad x_1=zai/\@List.nil (Int × Int × Int × Unit)=cA cJ ze zt x/\True)/\(∀x_2:Nat,((x_2<=zag)->((aE zo)->((aE zp)->(aE (zo + zp))/\(((decide (zaj x_2 < zo + zp))=true->(∀x_3:Int,((x_3=(3:Int) * zaj x_2)->((zq)->((aE (zaj x_2))->(zr x_3)/\((zq)->((zr x_3)->(aE (zs x_3))/\(zac x_3)/\(True)/\(∀x_4:Int,((x_4=(3:Int) * zaj x_2)->((zq)->((aE (zaj x_2))->(zr x_4)/\((aE (4:Int))->((zr x_4)->(aE ((4:Int) + x_4))/\(zy x_4)/\(True)/\(∀x_5:Int,((x_5=(3:Int) * zaj x_2)->((zq)->((aE (zaj x_2))->(zr x_5)/\((aE (5:Int))->((zr x_5)->(aE ((5:Int) + x_5))/\(zz x_5)/\(True)/\(((!fW (zae x_3))=true->(za))/\((!fW (zae x_3))=false->(((!fW (zaa x_4))=true->(za))/\((!fW (zaa x_4))=false->(((!fW (zab x_5))=true->(za))/\((!fW (zab x_5))=false->(zak x_2=zak x_2/\List.length (zak x_2) + List.length [(cJ (zae x_3),cJ (zaa x_4),cJ (zab x_5),())]<=(1000000000:Nat))/\((aE (zaj x_2))->((aE (1:Int))->(aE (zaj x_2 + (1:Int)))/\(∃(x':Nat),x'<=zag/\zag - x' < zag - x_2/\(zaj x_2 + (1:Int)=zah + (↑x':Int)/\True)/\(zv/\zai=zai/\zak x_2++[(cJ (zae x_3),cJ (zaa x_4),cJ (zab x_5),())]=cA cJ ze zt x'/\True)/\zai=zai/\zak x_2++[(cJ (zae x_3),cJ (zaa x_4),cJ (zab x_5),())]=cA cJ ze zt x'/\zaf))))))))))))))))))))))))))))/\((decide (zaj x_2 < zo + zp))=false->(True)/\(((decide (bZ (zal x_2) > (0:Int)))=true->(za))/\((decide (bZ (zal x_2) > (0:Int)))=false->(bZ (zal x_2)=(0:Int))/\(((!gH (zal x_2) == s)=true->(za))/\((!gH (zal x_2) == s)=false->((zal x_2,(0:Int))=fJ s)))))))))))))))))))))))))))))) (by kernel_rfl) ?_
 dsimp -iota -proj -eta only
 refine ⟨?a,iB (fun h0=>(RU h0)) (fun h0 h1=>iN (fun h2=>(PA h2)) (fun h2=>⟨?b,(Nb hp),fun h3=>iL (fun h4=>(PB (by omega))) (fun h4=>⟨?c,trivial,(by trivial),trivial,⟨iB (fun h5=>(⟨_,ym (fun hd=>by rw [hd.ka] at h5;cases h5),⟨rfl,trivial⟩,(by trivial)⟩)) (fun h5=>iB (fun h6=>(⟨_,ym (fun hd=>by rw [hd.kb] at h6;cases h6),⟨rfl,trivial⟩,(by trivial)⟩)) (fun h6=>iL (fun h7=>(⟨_,ym (fun hd=>by have:=hd.a0;omega),⟨rfl,trivial⟩,(by trivial)⟩)) (fun h7=>iL (fun h8=>(⟨_,ym (fun hd=>by have:=hd.a6;omega),⟨rfl,trivial⟩,(by trivial)⟩)) (fun h8=>iL (fun h9=>(⟨_,ym (fun hd=>by have:=hd.b0;omega),⟨rfl,trivial⟩,(by trivial)⟩)) (fun h9=>iL (fun h10=>(⟨_,ym (fun hd=>by have:=hd.cP;omega),⟨rfl,trivial⟩,(by trivial)⟩)) (fun h10 h11 x_0 q_0 h12 h13=>⟨?d,fun h14 h15=>⟨?e,fun x_1 q_1 h16 h17=>⟨?f,fun h18 h19=>⟨?g,(⟨_,TE h5 h6 h7 h8 h9 h10 q_0 q_1,⟨rfl,trivial⟩,(by trivial)⟩)⟩⟩⟩⟩)))))),fun x_0 q_0=>⟨fun h5=>(RV (fun hd=>by rw [q_0.2 hd] at h5;cases h5)),fun h5=>⟨?h,(⟨0,Nat.zero_le _,⟨rfl,trivial⟩,⟨rfl,rfl,rfl,trivial⟩,rfl,rfl,(by trivial)⟩),fun x_1 q_1=>iL (fun h6 x_2 q_2 h7 h8=>⟨?i,fun h9 h10=>⟨?j,?k,trivial,fun x_3 q_3 h11 h12=>⟨?l,fun h13 h14=>⟨?m,?n,trivial,iB (fun h15=>(HS rfl (by have hd:=q_0.1 h5;have a0:=hd.a0;have a6:=hd.a6;have b0:=hd.b0;have cP:=hd.cP;have hl:=hd.len;omega) q_2 q_3 (.inl h15))) (fun h15=>iB (fun h16=>(HS rfl (by have hd:=q_0.1 h5;have a0:=hd.a0;have a6:=hd.a6;have b0:=hd.b0;have cP:=hd.cP;have hl:=hd.len;omega) q_2 q_3 (.inr h16))) (fun h16 x_4 q_4 h17 h18=>⟨?o,fun h19 h20=>⟨?p,?q,⟨rfl,Cd (by have hd:=q_0.1 h5;have a0:=hd.a0;have a6:=hd.a6;have b0:=hd.b0;have cP:=hd.cP;have hl:=hd.len;omega)⟩,fun h21 h22=>⟨?r,(by exact ⟨x_1 + 1,by have hd:=q_0.1 h5;have a0:=hd.a0;have a6:=hd.a6;have b0:=hd.b0;have cP:=hd.cP;have hl:=hd.len;omega,by have hd:=q_0.1 h5;have a0:=hd.a0;have a6:=hd.a6;have b0:=hd.b0;have cP:=hd.cP;have hl:=hd.len;omega,⟨by omega,trivial⟩,⟨rfl,Ch q_2 q_3 q_4,rfl,trivial⟩,Ch q_2 q_3 q_4,(by trivial)⟩)⟩⟩⟩))⟩⟩⟩⟩) (fun h6=>⟨?s,fun x_2 q_2 h7 h8=>⟨?t,iL (fun h9 x_3 q_3 h10 h11=>⟨?u,fun h12 h13=>⟨?v,?w,trivial,fun x_4 q_4 h14 h15=>⟨?x,fun h16 h17=>⟨?y,?z,trivial,fun x_5 q_5 h18 h19=>⟨?a0,fun h20 h21=>⟨?a1,?a2,trivial,iB (fun h22=>(xG rfl (by have hd:=q_0.1 h5;have a0:=hd.a0;have a6:=hd.a6;have b0:=hd.b0;have cP:=hd.cP;have hl:=hd.len;omega) (by have hd:=q_0.1 h5;have a0:=hd.a0;have a6:=hd.a6;have b0:=hd.b0;have cP:=hd.cP;have hl:=hd.len;omega) q_3 q_4 q_5 (.inl h22))) (fun h22=>iB (fun h23=>(xG rfl (by have hd:=q_0.1 h5;have a0:=hd.a0;have a6:=hd.a6;have b0:=hd.b0;have cP:=hd.cP;have hl:=hd.len;omega) (by have hd:=q_0.1 h5;have a0:=hd.a0;have a6:=hd.a6;have b0:=hd.b0;have cP:=hd.cP;have hl:=hd.len;omega) q_3 q_4 q_5 (.inr (.inl h23)))) (fun h23=>iB (fun h24=>(xG rfl (by have hd:=q_0.1 h5;have a0:=hd.a0;have a6:=hd.a6;have b0:=hd.b0;have cP:=hd.cP;have hl:=hd.len;omega) (by have hd:=q_0.1 h5;have a0:=hd.a0;have a6:=hd.a6;have b0:=hd.b0;have cP:=hd.cP;have hl:=hd.len;omega) q_3 q_4 q_5 (.inr (.inr h24)))) (fun h24=>⟨⟨rfl,Es (by have hd:=q_0.1 h5;have a0:=hd.a0;have a6:=hd.a6;have b0:=hd.b0;have cP:=hd.cP;have hl:=hd.len;omega)⟩,fun h25 h26=>⟨?a3,(by exact ⟨x_2 + 1,by have hd:=q_0.1 h5;have a0:=hd.a0;have a6:=hd.a6;have b0:=hd.b0;have cP:=hd.cP;have hl:=hd.len;omega,by have hd:=q_0.1 h5;have a0:=hd.a0;have a6:=hd.a6;have b0:=hd.b0;have cP:=hd.cP;have hl:=hd.len;omega,⟨by omega,trivial⟩,⟨rfl,rfl,Et q_3 q_4 q_5,trivial⟩,rfl,Et q_3 q_4 q_5,(by trivial)⟩)⟩⟩)))⟩⟩⟩⟩⟩⟩) (fun h9=>⟨trivial,iL (fun h10 => ?a4) (fun h10=>⟨(Int.le_antisymm h10 (qx _)),⟨fun h11 => ?a5,fun h11 => ?a6⟩⟩)⟩)⟩⟩)⟩⟩⟩⟩)⟩))⟩
 case a|b|c|h=>omega
 case d|e|f|g|r=>simp only [aE,aJ] at *;omega
 case i|j|l|m|o|p|t|u|v|x|y|a0|a1|a3=>have hd:=q_0.1 h5;have a0:=hd.a0;have a6:=hd.a6;have b0:=hd.b0;have cP:=hd.cP;have hl:=hd.len;simp only [aE] at *;omega
 case k|n|q|w|z|a2=>have hd:=q_0.1 h5;have a0:=hd.a0;have a6:=hd.a6;have b0:=hd.b0;have cP:=hd.cP;have hl:=hd.len;omega
 case s=>
  have hx:x_1=Int.toNat (cJ (nth .str (parts 32 (nth .str (eM s) 0)) 1)):=(by have hd:=q_0.1 h5;have a0:=hd.a0;have a6:=hd.a6;have b0:=hd.b0;have cP:=hd.cP;have hl:=hd.len;omega)
  subst hx
  exact ⟨0,Nat.zero_le _,⟨by have hd:=q_0.1 h5;have a0:=hd.a0;have a6:=hd.a6;have b0:=hd.b0;have cP:=hd.cP;have hl:=hd.len;omega,trivial⟩,⟨rfl,rfl,rfl,trivial⟩,rfl,rfl,(by trivial)⟩
 case a4=>
  have hx:x_2=Int.toNat (cJ (nth .str (parts 32 (nth .str (eM s) 0)) 2)):=(by have hd:=q_0.1 h5;have a0:=hd.a0;have a6:=hd.a6;have b0:=hd.b0;have cP:=hd.cP;have hl:=hd.len;omega)
  subst hx
  exact Eu rfl rfl (.inl (by omega))
 case a5=>
  simp only [bl,reduceCtorEq] at h11
  have hx:x_2=Int.toNat (cJ (nth .str (parts 32 (nth .str (eM s) 0)) 2)):=(by have hd:=q_0.1 h5;have a0:=hd.a0;have a6:=hd.a6;have b0:=hd.b0;have cP:=hd.cP;have hl:=hd.len;omega)
  subst hx
  exact Eu rfl rfl (.inr h11)
 case a6=>
  simp only [bl,reduceCtorEq] at h11
  exact (oK (Int.le_antisymm h10 (qx _)) h11).symm
theorem Tryz.KA:bK Tryz.prog Tryz.B.eT Tryz.X 33 [.str] [aI, .int .i64] (fun s=>s.length<=100000) (fun x y=>y=(fun s=>fJ s) x):=
 bM (X:=Tryz.X) Tryz.FG Tryz.func33 (by kernel_rfl) (fun x=>Tryz.zG x) (fun x hw hp=>Kz x hw hp)
end Go.Proofs.YtgokjhhcfemnhabGreatDoor

