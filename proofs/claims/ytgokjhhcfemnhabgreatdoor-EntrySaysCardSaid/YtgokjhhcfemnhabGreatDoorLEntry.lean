/- A part of the proof that the law EntrySaysCard holds of the given program: facts that are used there. -/
import Derived.Test.YtgokjhhcfemnhabGreatDoorPart6
import Derived.Test.YtgokjhhcfemnhabGreatDoorRows
import Derived.Test.YtgokjhhcfemnhabGreatDoorTie
import Derived.Test.YtgokjhhcfemnhabGreatDoorCards
import Derived.LaidMore
set_option linter.unusedSimpArgs false
set_option linter.unusedVariables false
set_option maxRecDepth 100000
set_option maxHeartbeats 4000000
namespace Go.Proofs.YtgokjhhcfemnhabGreatDoor
open Go.Vg Go.Mrl
noncomputable def Tryz.Cv:List (FuncId × (Bool × bQ)):=[(11,(true,aL [.err, .int .i64] [.bool] (fun _=>True) (fun x=>cT x.1 x.2))),
 (32,(true,aL [.str] [aI, .err] (fun s=>s.length<=100000) (fun s=>jQ s)))]
theorem Tryz.I0:bT Tryz.prog Tryz.B Tryz.X Tryz.Cv:=
 aP (aC Tryz.jl) (aP (aC Tryz.Fg) (bW Tryz.bX))
theorem NR  (hw:eE [] ()):(cM Tryz.B Tryz.Cv Tryz.f26 [] [] [.bool] (fun x y=>y=(fun _=>true) x) ()).holds:=by
 refine holds_of (p:=
  let za:=[(97:UInt8),32,49,32,49,32,97,32,51,32,49,54,32,48,32,50,32,45,55,10]
  let zb:=List.length (fJ za).1.2.1
  let zc:=(fJ za).1.2.2.1
  let zd:=(↑(List.length zc):Int)
  let ze:=false=true
  (List.length za<=(100000:Nat))/\(True)/\(((cT (aT (fJ za).2) (0:Int))=true->((((fJ za).1.1 == [(97:UInt8)])=true->((zb<=aJ)->((((↑zb:Int) == (1:Int))=true->((List.length zc<=aJ)->(((zd == (1:Int))=true->((0:Int)<=(0:Int)/\(0:Int) < zd)/\(((nth aH zc (0:Nat)).2.2.1 == (-7:Int))=true))/\((zd == (1:Int))=false->(ze)))))/\(((↑zb:Int) == (1:Int))=false->(ze)))))/\(((fJ za).1.1 == [(97:UInt8)])=false->(ze))))/\((cT (aT (fJ za).2) (0:Int))=false->(ze)))) (by kernel_rfl) ?_
 dsimp -iota -proj -eta only
 exact ⟨(by trivial),trivial,⟨fun h0=>iQ (fun h1 h2=>iQ (fun h3 h4=>iQ (fun h5=>⟨(by omega),(by rw [show fJ _=(Az,(0:Int)) from oK pq qp];rfl)⟩) (fun h5=>(by rw [show fJ _=(Az,(0:Int)) from oK pq qp] at h5;exact absurd rfl h5))) (fun h3=>(by rw [show fJ _=(Az,(0:Int)) from oK pq qp] at h3;exact absurd rfl h3))) (fun h1=>(by rw [show fJ _=(Az,(0:Int)) from oK pq qp] at h1;exact absurd rfl h1)),fun h0=>(by rw [show fJ _=(Az,(0:Int)) from oK pq qp] at h0;exact absurd h0 (by decide))⟩⟩
theorem Tryz.NS:bK Tryz.prog Tryz.B.eT Tryz.X 26 [] [.bool] (fun _=>True) (fun x y=>y=(fun _=>true) x):=
 bM (X:=Tryz.X) Tryz.I0 Tryz.func26 (by kernel_rfl) (fun _=>[]) (fun x hw hp=>NR  hw)
noncomputable def Tryz.Fj:List (FuncId × (Bool × bQ)):=[(49,(true,aL [.str] [.err] (fun _=>True) (fun s=>aT (aG s)))),
 (50,(true,aL [.str] [.int .i64] (fun _=>True) (fun s=>aG s))),
 (156,(true,aL [.str] [.int .u32] (fun _=>True) (fun s=>(dD s:Int)))),
 (83,(true,aL [.str] [.int .i64] (fun _=>True) (fun s=>(dD s:Int)))),
 (11,(true,aL [.err, .int .i64] [.bool] (fun _=>True) (fun x=>cT x.1 x.2))),
 (27,(true,km [aI] [.bool] (fun _=>True) (fun e y=>y=true->nR e))),
 (7,(true,km [.slice bV, .int .i64] [.bool] (fun _=>True) (fun x y=>y=true->oI x.1 x.2))),
 (26,(true,aL [] [.bool] (fun _=>True) (fun _=>true))),
 (28,(true,aL [aI] [.int .i64] (fun _=>True) (fun e=>bZ e))),
 (29,(true,aL [aI] [.str, .err] (fun _=>True) (fun e=>eA e))),
 (30,(true,aL [aI] [.err] (fun _=>True) (fun e=>aT (bZ e)))),
 (31,(true,aL [aI] [.str] (fun e=>bZ e=0) (fun e=>gH e))),
 (32,(true,aL [.str] [aI, .err] (fun s=>s.length<=100000) (fun s=>jQ s))),
 (33,(true,aL [.str] [aI, .int .i64] (fun s=>s.length<=100000) (fun s=>fJ s))),
 (35,(false,bF [] [.d (.slice bV)] (fun _ _=>True) Tryz.xS)),
 (36,(false,bF Tryz.aY [.obj 0, .d .str] (fun _ x=>x.2.1.1.length<=6) Tryz.AE)),
 (37,(false,bF Tryz.aV [.obj 0, .d .str] (fun _ x=>x.1.1.length<=6) Tryz.xO)),
 (38,(false,bF Tryz.aY [.d aI, .obj 0] (fun a x=>a.1.2.1.length<=1000/\x.2.1.1.length<=6) Tryz.Db)),
 (39,(false,bF Tryz.aV [.d aI, .obj 0] (fun a x=>a.1.2.1.length<=1000/\x.1.1.length<=6) Tryz.xP)),
 (40,(false,bF Tryz.aY [.d aI, .obj 0] (fun _ _=>True) Tryz.sG)),
 (41,(false,bF Tryz.aV [.d aI, .obj 0] (fun _ _=>True) Tryz.qT)),
 (34,(true,km [aI,aI] [.bool] (fun _=>True) (fun x y=>x.1=x.2->y=true))),
 (22,(true,km [.slice bR, .slice bR] [.bool] (fun _=>True) (fun x y=>x.1=x.2->y=true))),
 (12,(false,bF Tryz.aY [.obj 0, .d .str, .d .str] (fun _ x=>x.2.1.1.length<=6/\0<=x.1.1/\x.1.1<=1000000) Tryz.qU)),
 (14,(false,bF Tryz.aY [.obj 0, .d .str] (fun _ _=>True) Tryz.p9)),
 (13,(false,bF Tryz.aV [.obj 0, .d .str, .d .str] (fun _ x=>x.1.1.length<=6/\0<=x.1.2.1/\x.1.2.1<=1000000) Tryz.qS)),
 (15,(false,bF Tryz.aV [.obj 0, .d .str] (fun _ x=>x.1.1.length<=6) Tryz.p8))]
theorem Tryz.KB:bT Tryz.prog Tryz.B Tryz.X Tryz.Fj:=
 aP (aC Tryz.iR) (aP (aC Tryz.eY) (aP (aC Tryz.jC) (aP (aC Tryz.iS) (aP (aC Tryz.jl) (aP (gu Tryz.qy) (aP (gu Tryz.xR) (aP (aC Tryz.NS) (aP (aC Tryz.tY) (aP (aC Tryz.IX) (aP (aC Tryz.Fc) (aP (aC Tryz.vU) (aP (aC Tryz.Fg) (aP (aC Tryz.KA) (aP (Tryz.SI) (aP (Tryz.TV) (aP (Tryz.P9) (aP (Tryz.U4) (aP (Tryz.Sl) (aP (Tryz.IL) (aP (Tryz.E0) (aP (gu Tryz.IN) (aP (gu Tryz.IQ) (aP (Tryz.E1) (aP (Tryz.Cq) (aP (Tryz.Ey) (aP (Tryz.Ck) (bW Tryz.bX)))))))))))))))))))))))))))
noncomputable def Tryz.Fk (l m:List (D bV)) (s:List UInt8) (e:D aI) (t:List UInt8):cN:=[
 (300006,fun st=>{X:=Bool,inv:=fun c=>c=false,bA:=fun _=>0,aS:=fun c=>[(91,sB c)],aX:=[0,1,2,4,8,10,11,14]}),
 (200000,fun st=>{X:=Nat,inv:=fun i=>i<=List.length m,bA:=fun i=>List.length m - i,aS:=fun i=>[(20,sI i)],aX:=[1,8,10,15,18,19],aU:=Tryz.vE,refs:=[(18,0),(19,2)],pd:=fun i=>((dQ (l++m.take i)).1.1,(dQ (l++m.take i)).1.2.1,(dQ (l++m.take i)).2,())}),
 (200002,fun st=>{X:=Nat,inv:=fun i=>i<=2,bA:=fun i=>2 - i,aS:=fun i=>[(196,sI i)],aX:=[18,19,194,195],aU:=Tryz.vE,refs:=[(18,0),(19,2)],pd:=fun i=>((dQ (l++m)).1.1,(dQ (l++m)).1.2.1,(dQ (l++m)).2,())})]
theorem I1 (l:List (D bV)) (m:List (D bV)) (s:List UInt8) (e:D aI) (t:List UInt8) (hw:eE [.slice bV, .slice bV, .str,aI, .str] (l,m,s,e,t)):(cM Tryz.B Tryz.Fj Tryz.f4 (Tryz.Fk l m s e t) [.slice bV, .slice bV, .str,aI, .str] [.bool] (fun _ y=>y=true) (l,m,s,e,t)).holds:=by
 refine holds_of (p:=
  let za:=true=true
  let zb:=List.length t
  let zc:=bZ e
  let zd:=(e.1=e.1/\e.2.1=e.2.1/\e.2.2.1=e.2.2.1/\True)/\True
  let ze:=∃(x':Bool),x'=false/\(true=x'/\True)/\zd
  let zf:=(((zc == (0:Int))=true->(zc=(0:Int))/\(∃(x':Bool),x'=false/\((!(eA e).1 == gH e)=x'/\True)/\zd))/\((zc == (0:Int))=false->(∃(x':Bool),x'=false/\(false=x'/\True)/\zd)))
  let zg:=false=true
  let zh:=zb<=(100000:Nat)
  let zi:=(dQ l).1
  let zj:=jf (bH zi) s
  let zk:=jf (bG (dQ l).2.1) s
  let zl:=List.length m
  let zm:=@List.nil (Int × Int × Int × Unit) = @List.nil (Int × Int × Int × Unit)
  let zn:=@List.nil (List UInt8 × Int × Int × Unit) = @List.nil (List UInt8 × Int × Int × Unit)
  let zo:=(zk.1.1=zk.1.1/\zk.1.2.1=zk.1.2.1/\zk.1.2.2.1=zk.1.2.2.1/\True)/\zm/\zn/\(zj.1.1=zj.1.1/\zj.1.2.1=zj.1.2.1/\zj.1.2.2.1=zj.1.2.2.1/\True)/\zm/\zn/\zd
  let zp:=!false
  let zq:=(zp && (zp && (zp && (zp && (zp && (zp && (zp && true)))))))=true
  let zr:=fun (x_6:Nat)=>(0:Int)<=(↑x_6:Int)/\(↑x_6:Int) < (↑zl:Int)
  let zs:=fun (x_6:Nat)=>(dQ (l++List.take x_6 m)).1
  let zt:=fun (x_6:Nat)=>(dQ (l++List.take x_6 m)).2
  let zu:=aE (1:Int)
  let zv:=fun (x_6:Nat)=>(↑x_6:Int) + (1:Int)
  let zw:=fun (x_6:Nat)=>(nth bV m x_6).2.1
  let zx:=fun (x_6:Nat)=>(gJ (zs x_6) (zw x_6) (nth bV m x_6).2.2.1).1
  let zy:=List.length [zj.1,e]
  let zz:=dQ (l++m)
  let zaa:=(zz.1.1,zz.1.2.1,zz.2,())
  let zab:=fun (x_7:Nat)=>nth aI [zj.1,e] x_7
  let zac:=fun (x_7:Nat)=>List.length (zab x_7).2.1<=(1000:Nat)
  let zad:=bG zz.2.1
  (True)/\(((!true)=true->(za))/\((!true)=false->(True)/\(∀x_0:Bool,((x_0=true->oI l (30:Int))->(((!x_0)=true->(za))/\((!x_0)=false->(True)/\(∀x_1:Bool,((x_1=true->oI m (10:Int))->(((!x_1)=true->(za))/\((!x_1)=false->((List.length s<=aJ)->(((decide ((↑(List.length s):Int) > (50:Int)))=true->(za))/\((decide ((↑(List.length s):Int) > (50:Int)))=false->(True)/\(∀x_2:Bool,((x_2=true->nR e)->(((!x_2)=true->(za))/\((!x_2)=false->((zb<=aJ)->(((decide ((↑zb:Int) > (1500:Int)))=true->(za))/\((decide ((↑zb:Int) > (1500:Int)))=false->(True)/\(True)/\(((True)/\(True)/\(((!cT (aT zc) zc)=true->(ze))/\((!cT (aT zc) zc)=false->(True)/\(((!cT (eA e).2 zc)=true->(ze))/\((!cT (eA e).2 zc)=false->(((decide (zc > (0:Int)))=true->(((!(eA e).1 == @List.nil UInt8)=true->(ze))/\((!(eA e).1 == @List.nil UInt8)=false->(zf))))/\((decide (zc > (0:Int)))=false->(zf))))))))/\((∀x_3:Bool,((x_3=false)->(((x_3)=true->(zg))/\((x_3)=false->(zh)/\(zh)/\(True)/\(((!cT (aT (fJ t).2) (fJ t).2)=true->(zg))/\((!cT (aT (fJ t).2) (fJ t).2)=false->(True)/\(∀x_4:Bool,(((fJ t).1=(fJ t).1->x_4=true)->(((!x_4)=true->(zg))/\((!x_4)=false->(True)/\((True)->(((!true)=true->(zg))/\((!true)=false->(List.length zi.2.1.1<=(6:Nat))/\((True)->(List.length (dQ l).2.1<=(6:Nat))/\((True)->(True)/\(((!cT (aT zj.2) zk.2)=true->(zg))/\((!cT (aT zj.2) zk.2)=false->(True)/\(∀x_5:Bool,((zj.1=zk.1->x_5=true)->(((!x_5)=true->(zg))/\((!x_5)=false->(((∃(x':Nat),x'<=zl/\True/\((0:Int)=(↑x':Int)/\True)/\zo/\zq/\(zi.1,zi.2.1,(dQ l).2,())=((dQ (l++List.take x' m)).1.1,(dQ (l++List.take x' m)).1.2.1,(dQ (l++List.take x' m)).2,())))/\((∀x_6:Nat,((x_6<=zl)->((zl<=aJ)->(((decide ((↑x_6:Int) < (↑zl:Int)))=true->(zr x_6)/\((((nth bV m x_6).1 == [(119:UInt8),114,105,116,101])=true->(zr x_6)/\(zr x_6)/\(List.length (zs x_6).2.1.1<=(6:Nat)/\(0:Int)<=(zs x_6).1.1/\(zs x_6).1.1<=(1000000:Int))/\((True)->(zr x_6)/\(zr x_6)/\(List.length (zt x_6).1<=(6:Nat)/\(0:Int)<=(zt x_6).2.1/\(zt x_6).2.1<=(1000000:Int))/\((True)->((aE (↑x_6:Int))->((zu)->(aE (zv x_6))/\(∃(x':Nat),x'<=zl/\zl - x' < zl - x_6/\(zv x_6=(↑x':Int)/\True)/\zo/\zq/\((zx x_6).1,(zx x_6).2.1,(gX (zt x_6) (zw x_6) (nth bV m x_6).2.2.1).1,())=((dQ (l++List.take x' m)).1.1,(dQ (l++List.take x' m)).1.2.1,(dQ (l++List.take x' m)).2,())))))))/\(((nth bV m x_6).1 == [(119:UInt8),114,105,116,101])=false->(zr x_6)/\(True)/\((True)->(zr x_6)/\(List.length (zt x_6).1<=(6:Nat))/\((True)->((aE (↑x_6:Int))->((zu)->(aE (zv x_6))/\(∃(x':Nat),x'<=zl/\zl - x' < zl - x_6/\(zv x_6=(↑x':Int)/\True)/\zo/\zq/\((fR (zs x_6) (zw x_6)).1.1,(fR (zs x_6) (zw x_6)).1.2.1,(gK (zt x_6) (zw x_6)).1,())=((dQ (l++List.take x' m)).1.1,(dQ (l++List.take x' m)).1.2.1,(dQ (l++List.take x' m)).2,())))))))))/\((decide ((↑x_6:Int) < (↑zl:Int)))=false->((zy<=aJ)->(((∃(x':Nat),x'<=(2:Nat)/\True/\((0:Int)=(↑x':Int)/\True)/\zo/\zq/\((zs x_6).1,(zs x_6).2.1,zt x_6,())=zaa))/\((∀x_7:Nat,((x_7<=(2:Nat))->(((decide ((↑x_7:Int) < (↑zy:Int)))=true->((0:Int)<=(↑x_7:Int)/\(↑x_7:Int) < (↑zy:Int))/\(zac x_7/\List.length zz.1.2.1.1<=(6:Nat))/\((True)->(zac x_7/\List.length zz.2.1<=(6:Nat))/\((True)->((fun a0:Prop=>a0/\a0) ((True)/\((True)->(True)/\((True)->(((!fX (bH zz.1) (zab x_7) == fX zad (zab x_7))=true->(zg))/\((!fX (bH zz.1) (zab x_7) == fX zad (zab x_7))=false->(True)/\(((!cT (aT (jk (bH zz.1) (zab x_7)).2) (jk zad (zab x_7)).2)=true->(zg))/\((!cT (aT (jk (bH zz.1) (zab x_7)).2) (jk zad (zab x_7)).2)=false->(True)/\(∀x_8:Bool,(((jk (bH zz.1) (zab x_7)).1=(jk zad (zab x_7)).1->x_8=true)->(((!x_8)=true->(zg))/\((!x_8)=false->((aE (↑x_7:Int))->((zu)->(aE (zv x_7))/\(∃(x':Nat),x'<=(2:Nat)/\(2:Nat) - x' < (2:Nat) - x_7/\(zv x_7=(↑x':Int)/\True)/\zo/\zq/\zaa=zaa))))))))))))))))))/\((decide ((↑x_7:Int) < (↑zy:Int)))=false->(za))))))))))))))))))))))))))))))))))))))))))))))))))))))))))) (by kernel_rfl) ?_
 dsimp -iota -proj -eta only
 refine ⟨trivial,⟨fun h0=>absurd (show false=true from h0) (by decide),fun h0=>⟨trivial,fun x_0 q_0=>iB (fun h1=>rfl) (fun h1=>⟨trivial,fun x_1 q_1=>iB (fun h2=>rfl) (fun h2 h3=>iL (fun h4=>rfl) (fun h4=>⟨trivial,fun x_2 q_2=>iB (fun h5=>rfl) (fun h5 h6=>iL (fun h7=>rfl) (fun h7=>⟨trivial,trivial,⟨⟨trivial,trivial,iB (fun h8=>(Bool.noConfusion ((Ci e).symm.trans h8))) (fun h8=>⟨trivial,iB (fun h9=>(Bool.noConfusion ((PG e).symm.trans h9))) (fun h9=>iL (fun h10=>⟨fun h11 => ?a,fun h11=>iQ (fun h12=>⟨?b,?c⟩) (fun h12 => ?d)⟩) (fun h10=>iQ (fun h11=>⟨(by trivial),(by exact ⟨false,rfl,⟨by rw [Ls h11];simp,trivial⟩,(by trivial)⟩)⟩) (fun h11=>(⟨false,rfl,⟨rfl,trivial⟩,(by trivial)⟩))))⟩)⟩,fun x_3 q_3=>⟨fun h8=>(Bool.noConfusion (q_3.symm.trans h8)),fun h8=>⟨?e,?f,trivial,iB (fun h9=>(Bool.noConfusion ((Nh t).symm.trans h9))) (fun h9=>⟨trivial,fun x_4 q_4=>iB (fun h10=>(Bool.noConfusion ((q_4 rfl).symm.trans h10))) (fun h10=>⟨trivial,fun h11=>⟨fun h12=>absurd (show false=true from h12) (by decide),fun h12=>⟨((cU l).len),fun h13=>⟨((cU l).An),fun h14=>⟨trivial,iB (fun h15=>(by rw [(cU l).rd] at h15;exact Bool.noConfusion ((PH (cS (cU l).Pf) s).symm.trans h15))) (fun h15=>⟨trivial,fun x_5 q_5=>iB (fun h16=>(Bool.noConfusion ((q_5 (by rw [(cU l).rd])).symm.trans h16))) (fun h16=>⟨(⟨0,Nat.zero_le _,trivial,⟨rfl,trivial⟩,(by trivial),rfl,by rw [List.take_zero,List.append_nil]⟩),fun x_6 q_6 h17=>iL (fun h18=>⟨?g,iQ (fun h19=>⟨?h,?i,((cU (l++List.take x_6 m)).pre),fun h20=>⟨?j,?k,((cU (l++List.take x_6 m)).Us),fun h21 h22 h23=>⟨?l,(⟨x_6 + 1,by omega,by omega,⟨by omega,trivial⟩,(by trivial),rfl,by rw [Ev (by omega),yR (by unfold rF;assumption)]⟩)⟩⟩⟩) (fun h19=>⟨?m,trivial,fun h20=>⟨?n,((cU (l++List.take x_6 m)).An),fun h21 h22 h23=>⟨?o,(⟨x_6 + 1,by omega,by omega,⟨by omega,trivial⟩,(by trivial),rfl,by rw [Ev (by omega),xc (by unfold rF;assumption)]⟩)⟩⟩⟩)⟩) (fun h18 h19=>⟨(⟨0,Nat.zero_le _,trivial,⟨rfl,trivial⟩,(by trivial),rfl,by rw [List.take_of_length_le (by omega)]⟩),fun x_7 q_7=>iL (fun h20=>⟨⟨by omega,h20⟩,?p,fun h21=>⟨?q,fun h22=>(show ∀{a0:Prop},a0->a0/\a0 from fun g0=>⟨g0,g0⟩) (⟨trivial,fun h23=>⟨trivial,fun h24=>⟨fun h25 => ?r,fun h25=>⟨trivial,iB (fun h26 => ?s) (fun h26=>⟨trivial,fun x_8 q_8=>iB (fun h27 => ?t) (fun h27 h28 h29=>⟨?u,?v⟩)⟩)⟩⟩⟩⟩)⟩⟩) (fun h20=>rfl)⟩)⟩)⟩)⟩⟩⟩⟩⟩)⟩)⟩⟩⟩⟩))⟩))⟩)⟩⟩⟩
 case a=>
  simp only [bl,reduceCtorEq] at h11
  exact absurd (R0 h10) h11
 case b=>
  simp only [bl,reduceCtorEq] at h11
  trivial
 case c=>
  simp only [bl,reduceCtorEq] at h11
  exact ⟨false,rfl,⟨by rw [Ls h12];simp,trivial⟩,(by trivial)⟩
 case d=>
  simp only [bl,reduceCtorEq] at h11
  exact ⟨false,rfl,⟨rfl,trivial⟩,(by trivial)⟩
 case e|f|g|h|i|j|k|m|n=>omega
 case l|o=>simp only [aE,aJ] at *;omega
 case p=>
  refine ⟨?_,(cU (l++m)).len⟩
  have hx2:(x_7:Int) < ((2:Nat):Int):=h20;rcases (show x_7=0\/x_7=1 by omega) with hx | hx <;> subst hx
  ·show List.length (jf (bH (dQ l).1) s).1.2.1<=1000;rw [(cU l).rd];exact HY (cS (cU l).Pf) s
  ·show List.length e.2.1<=1000;have:=(q_2 h5).2.1;omega
 case q=>
  refine ⟨?_,(cU (l++m)).An⟩
  have hx2:(x_7:Int) < ((2:Nat):Int):=h20;rcases (show x_7=0\/x_7=1 by omega) with hx | hx <;> subst hx
  ·show List.length (jf (bH (dQ l).1) s).1.2.1<=1000;rw [(cU l).rd];exact HY (cS (cU l).Pf) s
  ·show List.length e.2.1<=1000;have:=(q_2 h5).2.1;omega
 case r=>
  simp only [bl,reduceCtorEq] at h25
  rw [(cU (l++m)).rd] at h25;exact absurd rfl h25
 case s=>
  simp only [bl,reduceCtorEq] at h25
  rw [(cU (l++m)).rd] at h26;exact Bool.noConfusion ((R1 _ _).symm.trans h26)
 case t=>
  simp only [bl,reduceCtorEq] at h25
  exact Bool.noConfusion ((q_8 (by rw [(cU (l++m)).rd])).symm.trans h27)
 case u=>
  simp only [bl,reduceCtorEq] at h25
  simp only [aE,aJ] at *;omega
 case v=>
  simp only [bl,reduceCtorEq] at h25
  have hx2:(x_7:Int) < ((2:Nat):Int):=h20
  exact ⟨x_7 + 1,by omega,by omega,⟨by omega,trivial⟩,(by trivial),rfl,rfl⟩
theorem Tryz.I2:bK Tryz.prog Tryz.B.eT Tryz.X 4 [.slice bV, .slice bV, .str,aI, .str] [.bool] (fun _=>True) (fun _ y=>y=true):=
 bM (X:=Tryz.X) Tryz.KB Tryz.func4 (by kernel_rfl) (fun x=>Tryz.Fk x.1 x.2.1 x.2.2.1 x.2.2.2.1 x.2.2.2.2) (fun x hw hp=>I1 x.1 x.2.1 x.2.2.1 x.2.2.2.1 x.2.2.2.2 hw)
open Go.ChangeShapes Go.WideShapes Go.ChangeAt Go.RowKit in
theorem Tryz.yt {W:World} (hL:laidMetH Tryz.prog Rows.entrySaysRow.laid W) (hsh:W.ShapedOpen Tryz.prog):Tryz.UO W:=by
 rw [MakeChecks.laidMetH_plain _ _ _ (by kernel_rfl)] at hL
 exact ⟨HX (g:=0) (t:=286) (e:=44) (n:=20) (by kernel_rfl) (by kernel_rfl) (by kernel_rfl) (by kernel_rfl) (by kernel_rfl) (by kernel_rfl) ((show (Rows.laid_internal_strconv_uint64pow10:DataW Unit)=Lib.tabData .u64 Lib.pow10Tab from by kernel_rfl)▸Lib.laidMet.reads hL (.tail _ (.tail _ (.head _)))),
  HW (g:=1) (t:=3) (zero:=#[.int .i64 0]) hsh (of_decide_eq_true (by kernel_rfl)) (by kernel_rfl) rfl (by kernel_rfl) (by kernel_rfl) (by kernel_rfl),
  tW (g:=2) (t:=33) (by kernel_rfl) (by kernel_rfl) (by kernel_rfl) (Lib.laidMet.reads hL (.tail _ (.tail _ (.tail _ (.tail _ (.tail _ (.head _))))))),
  tW (g:=3) (t:=33) (by kernel_rfl) (by kernel_rfl) (by kernel_rfl) (Lib.laidMet.reads hL (.tail _ (.tail _ (.tail _ (.tail _ (.head _))))))⟩
open Go.ChangeShapes Go.WideShapes Go.ChangeAt Go.RowKit in
set_option maxRecDepth 100000 in
theorem AF (os:Os) (started:os.Started) (H:Type) (enc:TypeId × Value->H) :
  ReturnsInHanded {} Tryz.checked os 4 .any (fun w args=>(Rows.entrySaysSpec.pre enc Tryz.prog Tryz.f4 [] false w args/\laidMetH Tryz.prog Rows.entrySaysRow.laid w)/\sizedMet enc Tryz.prog Tryz.f4 (OpenSpec.ofChange Rows.entrySaysSpec) false w args) (Rows.entrySaysSpec.post enc Tryz.prog Tryz.f4 false true false false):=by
 refine JS (C:=Tryz.checked) (X:=fun w _=>laidMetH Tryz.prog Rows.entrySaysRow.laid w) (fun _ _ _ hh h=>h.of_heap hh) (by kernel_rfl) started (by kernel_rfl) Tryz.func4
  (ChangeSpec.witness_shaped (enc:=enc) (C:=Tryz.checked) (os:=os) (X:=fun w _=>laidMetH Tryz.prog Rows.entrySaysRow.laid w) false (World.laidAll Tryz.prog os Rows.entrySaysRow.laid) #[.slice none 0 0, .slice none 0 0, .string ⟨#[]⟩, .agg #[.string ⟨#[]⟩, .slice none 0 0, .slice none 0 0], .string ⟨#[]⟩] 8 (World.laidAll_os _ _ _) (World.shaped_of_ZipB (by kernel_rfl) (by kernel_rfl)) (by kernel_rfl) (by kernel_rfl) (by kernel_rfl)
   (by rw [MakeChecks.laidMetH_plain _ _ _ (by kernel_rfl)];exact laidMet_laidAll _ (by kernel_rfl) (by kernel_rfl))) ?_
 intro W base args ds gs before hval hW hL hsh
 exact Oy (C:=Tryz.checked) (n:=16) rfl (by kernel_rfl) (fun ds h=>by match ds,h with | [_,_,_,_,_],_=>rfl) (by kernel_rfl) (by kernel_rfl) (by kernel_rfl) (tb:=4) (by kernel_rfl) Tryz.I2 hval hW (Tryz.yt hL hsh) (fun _ _=>trivial)
open Go.ChangeShapes Go.WideShapes Go.ChangeAt Go.RowKit in
theorem Dd:Rows.EntrySaysSaid:=
 OpenClaim.holds_of_wide 4 Tryz.f4 rfl rfl rfl rfl rfl rfl rfl ⟨rfl,rfl,rfl,rfl,rfl⟩ rfl rfl rfl rfl rfl (by kernel_rfl) Tryz.func4 (by kernel_rfl)
  (of_decide_eq_true (by kernel_rfl)) (by unfold Func.isWrapper;first | (rw [if_pos (by decide +kernel)];kernel_rfl) | (rw [if_neg (by decide +kernel)];exact ⟨rfl,rfl⟩))
  (fun os started H enc _=>AF os started H enc)
theorem entrySays_holds:Rows.EntrySaysCardSaid:=
 Claim7.holds_tied_plain_at .later [] [.data, .data, .data, .data, .sentinel, .sentinel, .pinned] true (true,"64b551b93bc23007624950252e9486f0c7d9283b8d81061eb003e81ef0f36483") true
  Dd (fun _ h=>by cases h) (by kernel_rfl) (fun _ h=>by cases h) entrySays_row_tie rfl ⟨rfl,rfl⟩ (by kernel_rfl) rfl
  (fun f fn hf hfn=>by
   obtain rfl:f=4:=Option.some.inj ((show Tryz.prog.funcNamed Rows.entrySaysRow.func=some 4 by kernel_rfl).symm.trans hf) |>.symm
   obtain rfl:fn=Tryz.f4:=(Option.some.inj (Tryz.func4.symm.trans hfn)).symm
   exact ⟨by kernel_rfl,fun j t ht=>by
    have hall:(Tryz.f4.params.toList.all fun t => !Tryz.prog.wantsStandIn t)=true:=by kernel_rfl
    have hm:t∈Tryz.f4.params.toList:=Array.mem_def.1 (Array.mem_of_getElem? ht)
    exact (by simpa using List.all_eq_true.1 hall t hm:Tryz.prog.wantsStandIn t=false)⟩)
  (by kernel_rfl)
#print axioms entrySays_holds
end Go.Proofs.YtgokjhhcfemnhabGreatDoor

