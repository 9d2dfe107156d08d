/- A part of the proof that the law TopStaleCard holds of the given program: facts that are used there. -/
import Derived.Test.YtgokjhhcfemnhacGreatDoorPart4
import Derived.Test.YtgokjhhcfemnhacGreatDoorRows
import Derived.Test.YtgokjhhcfemnhacGreatDoorTie
import Derived.Test.YtgokjhhcfemnhacGreatDoorCards
import Derived.LaidMore
set_option linter.unusedSimpArgs false
set_option linter.unusedVariables false
set_option maxRecDepth 100000
set_option maxHeartbeats 4000000
namespace Go.Proofs.YtgokjhhcfemnhacGreatDoor
open Go.Vg Go.Mrl
noncomputable def Tryz.BI:List (FuncId × (Bool × bR)):=[(76,(true,aS [.str] [.err] (fun _=>True) (fun s=>aP (aK s)))),
 (99,(true,aS [.str] [.int .i64] (fun _=>True) (fun s=>aK s))),
 (21,(true,aS [.err] [.int .i64] (fun _=>True) (fun e=>eS e))),
 (56,(true,iX [bK] [.bool] (fun _=>True) (fun e y=>y=true->ml e))),
 (15,(true,iX [.slice cJ, .int .i64] [.bool] (fun _=>True) (fun x y=>y=true->mQ x.1 x.2))),
 (26,(true,aS [] [.bool] (fun _=>True) (fun _=>true))),
 (40,(false,bQ Tryz.aM [.obj 0, .d (.slice cJ)] (fun _ x=>cE x) Tryz.uX)),
 (29,(false,bQ [] [] (fun _ _=>True) Tryz.qe)),
 (30,(false,bQ Tryz.aM [.obj 0, .d .str, .d .str] (fun _ x=>x.2.1.1.length<=6/\0<=x.1.1/\x.1.1<=1000000) Tryz.mA)),
 (47,(false,bQ Tryz.aM [.obj 0, .d .str] (fun _ _=>True) Tryz.jr)),
 (41,(false,bQ Tryz.aM [.obj 0, .d .str] (fun _ _=>True) Tryz.nr)),
 (44,(false,bQ Tryz.aM [.obj 0, .d .str] (fun _ x=>x.2.1.1.length<=6) Tryz.uY)),
 (46,(false,bQ Tryz.aM [.d bK, .obj 0] (fun _ _=>True) Tryz.ph)),
 (48,(false,bQ Tryz.aM [.d bK, .obj 0] (fun a x=>a.1.2.1.length<=1000/\x.2.1.1.length<=6) Tryz.xc))]
theorem Tryz.Ff:bZ Tryz.prog Tryz.B Tryz.X Tryz.BI:=
 aW (aE Tryz.ja) (aW (aE Tryz.eX) (aW (aE Tryz.hZ) (aW (eN Tryz.nL) (aW (eN Tryz.sM) (aW (aE Tryz.IG) (aW (Tryz.JN) (aW (Tryz.w7) (aW (Tryz.sK) (aW (Tryz.na) (aW (Tryz.wv) (aW (Tryz.JP) (aW (Tryz.BH) (aW (Tryz.KF) (cS Tryz.cU))))))))))))))
noncomputable def Tryz.BJ (l:List (D cJ)) (r:List UInt8) (_w:Int) (s:List UInt8) (_t:List UInt8):dE:=[
 (0,fun st=>{X:=Nat,inv:=fun i=>i<=List.length (dV (aH (bC (((0,()),([],0,()),()):bM) l)) r).1.2.1,bW:=fun i=>List.length (dV (aH (bC (((0,()),([],0,()),()):bM) l)) r).1.2.1 - i,bJ:=fun i=>[(16,sI i),(15,sB (jl (List.take i (dV (aH (bC (((0,()),([],0,()),()):bM) l)) r).1.2.1) s))],bL:=[1,2,3,4,10,12,13,14]})]
theorem CJ (l:List (D cJ)) (r:List UInt8) (w:Int) (s:List UInt8) (t:List UInt8) (hw:gI [.slice cJ, .str, .int .i64, .str, .str] (l,r,w,s,t)):(dR Tryz.B Tryz.BI Tryz.f10 (Tryz.BJ l r w s t) [.slice cJ, .str, .int .i64, .str, .str] [.bool] (fun _ y=>y=true) (l,r,w,s,t)).holds:=by
 refine holds_of (p:=
  let za:=false=true
  let zb:=true=true
  let zc:=((0:Int),())
  let zd:=([],zc)
  let ze:=(zc,zd,())
  let zf:=bC ze l
  let zg:=List.length zf.2.1.1<=(6:Nat)
  let zh:=dV (aH zf) r
  let zi:=(dV (aH (bC (zc,zd,()) l)) r).1.2.1
  let zj:=List.length zi
  let zk:=zh.1.2.1
  let zl:=fun (x_1:Nat)=>(↑x_1:Int) < (↑(List.length zk):Int)
  let zm:=fun (x_1:Nat)=>(↑x_1:Int) + (1:Int)
  let zn:=zf.1.1
  let zo:=(zh.1.1=zh.1.1/\zk=zk/\zh.1.2.2.1=zh.1.2.2.1/\True)/\@List.nil (Int × Int × Int × Unit) = @List.nil (Int × Int × Int × Unit)/\@List.nil (List UInt8 × Int × Int × Unit) = @List.nil (List UInt8 × Int × Int × Unit)/\(C.cX (1:Nat)=C.cX (1:Nat)/\zn=zn/\True)/\zf.2.1=zf.2.1/\True
  let zp:=bF zf s t
  let zq:=zp.1
  let zr:=dP (aH zq) zh.1
  let zs:=List.length zq.2.1.1<=(6:Nat)
  let zt:=dV (aH zq) r
  let zu:=BitVec.ofInt (IntKind.bits IntKind.i64) w
  let zv:=List.length zt.1.2.1
  let zw:=(↑zv:Int)
  let zx:=fun (x_3:Int)=>(nth aJ zt.1.2.1 (Int.toNat x_3)).1
  let zy:=fun (x_3:Int)=>(dG zq (zx x_3)).1
  let zz:=fun (x_3:Int)=>bF (zy x_3) (zx x_3) (aH zq (zx x_3)).1
  let zaa:=zv<=(1000:Nat)
  let zab:=fun (x_3:Int)=>bF zq (zx x_3) (aH zq (zx x_3)).1
  let zac:=(zs)/\((True)->(((!aV.isNil (aP zt.2))=true->(zb))/\((!aV.isNil (aP zt.2))=false->(∀x_2:Int,((x_2=IntKind.wrap IntKind.i64 (↑(BitVec.toNat (zu &&& BitVec.ofInt (IntKind.bits IntKind.i64) (1023:Int))):Int))->((zv<=aL)->(zw≠(0:Int))/\(∀x_3:Int,((x_3=Int.tmod x_2 zw)->((0:Int)<=x_3/\x_3 < zw)/\(True)/\((True)->(((!aV.isNil (aP (aH zq (zx x_3)).2.2))=true->(za))/\((!aV.isNil (aP (aH zq (zx x_3)).2.2))=false->(∀x_4:Int,((x_4=IntKind.wrap IntKind.i64 (↑(BitVec.toNat (zu &&& BitVec.ofInt (IntKind.bits IntKind.i64) (1024:Int))):Int))->(((decide (x_4 > (0:Int)))=true->(True)/\((True)->(((!aV.isNil (aP (dG zq (zx x_3)).2))=true->(za))/\((!aV.isNil (aP (dG zq (zx x_3)).2))=false->(List.length (zy x_3).2.1.1<=(6:Nat)/\(0:Int)<=(zy x_3).1.1/\(zy x_3).1.1<=(1000000:Int))/\((True)->(((!aV.isNil (aP (zz x_3).2))=true->(za))/\((!aV.isNil (aP (zz x_3).2))=false->(zaa/\List.length (zz x_3).1.2.1.1<=(6:Nat))/\((True)->(True)/\((True)->(((!dP (aH (zz x_3).1) zt.1)=true->(True)/\((eS (aP (mz (aH (zz x_3).1) zt.1).2) == (10:Int))=true))/\((!dP (aH (zz x_3).1) zt.1)=false->(za))))))))))))/\((decide (x_4 > (0:Int)))=false->(zs/\(0:Int)<=zq.1.1/\zq.1.1<=(1000000:Int))/\((True)->(((!aV.isNil (aP (zab x_3).2))=true->(za))/\((!aV.isNil (aP (zab x_3).2))=false->(zaa/\List.length (zab x_3).1.2.1.1<=(6:Nat))/\((True)->(True)/\((True)->(((!dP (aH (zab x_3).1) zt.1)=true->(True)/\((eS (aP (mz (aH (zab x_3).1) zt.1).2) == (10:Int))=true))/\((!dP (aH (zab x_3).1) zt.1)=false->(za)))))))))))))))))))))))
  (True)/\(((!true)=true->(za))/\((!true)=false->(True)/\(∀x_0:Bool,((x_0=true->mQ l (30:Int))->(((!x_0)=true->(zb))/\((!x_0)=false->((List.length r<=aL)->(((decide ((↑(List.length r):Int) > (20:Int)))=true->(zb))/\((decide ((↑(List.length r):Int) > (20:Int)))=false->((List.length s<=aL)->(((decide ((↑(List.length s):Int) > (20:Int)))=true->(zb))/\((decide ((↑(List.length s):Int) > (20:Int)))=false->((List.length t<=aL)->(((decide ((↑(List.length t):Int) > (1300:Int)))=true->(zb))/\((decide ((↑(List.length t):Int) > (1300:Int)))=false->(True)/\((True)->(cE ze)/\((True)->(zg)/\((True)->(((!aV.isNil (aP zh.2))=true->(zb))/\((!aV.isNil (aP zh.2))=false->(∃(x:Nat),x<=zj/\((0:Int)=(↑x:Int)/\false=jl (List.take x zi) s/\True)/\True)/\(∀x_1:Nat,((x_1<=zj)->((List.length zk<=aL)->(((decide (zl x_1))=true->(((jl (List.take x_1 zi) s)=true->((aO (↑x_1:Int))->((aO (1:Int))->(aO (zm x_1))/\(∃(x':Nat),x'<=zj/\zj - x' < zj - x_1/\(zm x_1=(↑x':Int)/\true=jl (List.take x' zi) s/\True)/\zo))))/\((jl (List.take x_1 zi) s)=false->((0:Int)<=(↑x_1:Int)/\zl x_1)/\((aO (↑x_1:Int))->((aO (1:Int))->(aO (zm x_1))/\(∃(x':Nat),x'<=zj/\zj - x' < zj - x_1/\(zm x_1=(↑x':Int)/\((nth aJ zk x_1).1 == s)=jl (List.take x' zi) s/\True)/\zo))))))/\((decide (zl x_1))=false->(zg/\(0:Int)<=zn/\zn<=(1000000:Int))/\((True)->(True)/\((True)->(((!aV.isNil (aP zp.2))=true->(((!zr == true)=true->(za))/\((!zr == true)=false->(zac))))/\((!aV.isNil (aP zp.2))=false->(((!zr == !jl (List.take x_1 zi) s)=true->(za))/\((!zr == !jl (List.take x_1 zi) s)=false->(zac))))))))))))))))))))))))))))))))) (by kernel_rfl) ?_
 dsimp -iota -proj -eta only
 refine ⟨trivial,⟨fun h0=>absurd (show false=true from h0) (by decide),fun h0=>⟨trivial,fun x_0 q_0=>iB (fun h1=>rfl) (fun h1 h2=>iL (fun h3=>rfl) (fun h3 h4=>iL (fun h5=>rfl) (fun h5 h6=>iL (fun h7=>rfl) (fun h7=>⟨trivial,fun h8=>⟨cE.new,fun h9=>⟨(((show aG (bC (((0,()),([],0,()),()):bM) l) from aG.done l aG.new)).st.pre.1),fun h10=>iB (fun h11=>rfl) (fun h11=>⟨(⟨0,Nat.zero_le _,⟨rfl,rfl,trivial⟩,(by trivial)⟩),fun x_1 q_1 h12=>iL (fun h13=>⟨fun h14 h15 h16=>⟨?a,(⟨x_1 + 1,by omega,by omega,⟨by omega,GF (by omega) (by assumption),trivial⟩,(by trivial)⟩)⟩,fun h14=>⟨(by omega),fun h15 h16=>⟨?b,(⟨x_1 + 1,by omega,by omega,⟨by omega,GG (by omega) (by assumption),trivial⟩,(by trivial)⟩)⟩⟩⟩) (fun h13=>⟨(((show aG (bC (((0,()),([],0,()),()):bM) l) from aG.done l aG.new)).st.pre),fun h14=>⟨trivial,fun h15=>iB (fun h16=>⟨fun h17 => ?c,fun h17=>⟨?d,fun h18=>iB (fun h19=>rfl) (fun h19 x_2 q_2 h20=>⟨?e,fun x_3 q_3=>⟨?f,trivial,fun h21=>iB (fun h22 => ?g) (fun h22 x_4 q_4=>iL (fun h23=>⟨trivial,fun h24=>iB (fun h25 => ?h) (fun h25=>⟨?i,fun h26=>iB (fun h27 => ?j) (fun h27=>⟨?k,fun h28=>⟨trivial,fun h29=>iB (fun h30=>⟨trivial,?l⟩) (fun h30 => ?m)⟩⟩)⟩)⟩) (fun h23=>⟨?n,fun h24=>iB (fun h25 => ?o) (fun h25=>⟨?p,fun h26=>⟨trivial,fun h27=>iB (fun h28=>⟨trivial,?q⟩) (fun h28 => ?r)⟩⟩)⟩))⟩⟩)⟩⟩) (fun h16=>⟨fun h17 => ?s,fun h17=>⟨?t,fun h18=>iB (fun h19=>rfl) (fun h19 x_2 q_2 h20=>⟨?u,fun x_3 q_3=>⟨?v,trivial,fun h21=>iB (fun h22 => ?w) (fun h22 x_4 q_4=>iL (fun h23=>⟨trivial,fun h24=>iB (fun h25 => ?x) (fun h25=>⟨?y,fun h26=>iB (fun h27 => ?z) (fun h27=>⟨?a0,fun h28=>⟨trivial,fun h29=>iB (fun h30=>⟨trivial,?a1⟩) (fun h30 => ?a2)⟩⟩)⟩)⟩) (fun h23=>⟨?a3,fun h24=>iB (fun h25 => ?a4) (fun h25=>⟨?a5,fun h26=>⟨trivial,fun h27=>iB (fun h28=>⟨trivial,?a6⟩) (fun h28 => ?a7)⟩⟩)⟩))⟩⟩)⟩⟩)⟩⟩)⟩)⟩⟩⟩))))⟩⟩⟩
 case a|b=>simp only [aO,aL] at *;omega
 case c|s=>
  simp only [bl,reduceCtorEq] at h17
  have e:=Cn (t:=t) (s:=s) (show aG (bC (((0,()),([],0,()),()):bM) l) from aG.done l aG.new) h11
  rw [h16] at e
  (try rw [uO (by omega)] at h17)
  simp_all
 case d|t=>
  simp only [bl,reduceCtorEq] at h17
  exact ((((show aG (bC (((0,()),([],0,()),()):bM) l) from aG.done l aG.new)).write s t)).st.pre.1
 case e|u=>
  simp only [bl,reduceCtorEq] at h17
  have:=(dW (((show aG (bC (((0,()),([],0,()),()):bM) l) from aG.done l aG.new)).write s t) h19).1;omega
 case f|v=>
  simp only [bl,reduceCtorEq] at h17
  exact ⟨((gY q_2 (dW (((show aG (bC (((0,()),([],0,()),()):bM) l) from aG.done l aG.new)).write s t) h19).1 q_3)).1,((gY q_2 (dW (((show aG (bC (((0,()),([],0,()),()):bM) l) from aG.done l aG.new)).write s t) h19).1 q_3)).2.1⟩
 case g|w=>
  simp only [bl,reduceCtorEq] at h17
  exact absurd (hY (((show aG (bC (((0,()),([],0,()),()):bM) l) from aG.done l aG.new)).write s t) h19 (j:=Int.toNat x_3) ((gY q_2 (dW (((show aG (bC (((0,()),([],0,()),()):bM) l) from aG.done l aG.new)).write s t) h19).1 q_3)).2.2) (iU h22)
 case h|x=>
  simp only [bl,reduceCtorEq] at h17
  exact Bool.noConfusion ((pg (hY (((show aG (bC (((0,()),([],0,()),()):bM) l) from aG.done l aG.new)).write s t) h19 (j:=Int.toNat x_3) ((gY q_2 (dW (((show aG (bC (((0,()),([],0,()),()):bM) l) from aG.done l aG.new)).write s t) h19).1 q_3)).2.2)).1.symm.trans h25)
 case i|y=>
  simp only [bl,reduceCtorEq] at h17
  exact (((((show aG (bC (((0,()),([],0,()),()):bM) l) from aG.done l aG.new)).write s t)).remove _).st.pre
 case j|z=>
  simp only [bl,reduceCtorEq] at h17
  have hn:(bF (bC (((0,()),([],0,()),()):bM) l) s t).1.1.1 < 1000000:=(by have a:=lV (bC (((0,()),([],0,()),()):bM) l) s t;have b:=oJ l (((0,()),([],0,()),()):bM);have c:=(q_0 h1).1;simp only at b;omega)
  exact Bool.noConfusion ((qZ (((show aG (bC (((0,()),([],0,()),()):bM) l) from aG.done l aG.new)).write s t) hn (hY (((show aG (bC (((0,()),([],0,()),()):bM) l) from aG.done l aG.new)).write s t) h19 (j:=Int.toNat x_3) ((gY q_2 (dW (((show aG (bC (((0,()),([],0,()),()):bM) l) from aG.done l aG.new)).write s t) h19).1 q_3)).2.2)).symm.trans h27)
 case k|a0=>
  simp only [bl,reduceCtorEq] at h17
  exact ⟨Nat.le_trans (dW (((show aG (bC (((0,()),([],0,()),()):bM) l) from aG.done l aG.new)).write s t) h19).2 (by decide),((((((show aG (bC (((0,()),([],0,()),()):bM) l) from aG.done l aG.new)).write s t)).remove _).write _ _).st.pre.1⟩
 case l|a1=>
  simp only [bl,reduceCtorEq] at h17
  have hn:(bF (bC (((0,()),([],0,()),()):bM) l) s t).1.1.1 < 1000000:=(by have a:=lV (bC (((0,()),([],0,()),()):bM) l) s t;have b:=oJ l (((0,()),([],0,()),()):bM);have c:=(q_0 h1).1;simp only at b;omega)
  rw [sJ (nq (((show aG (bC (((0,()),([],0,()),()):bM) l) from aG.done l aG.new)).write s t) h19 (j:=Int.toNat x_3) ((gY q_2 (dW (((show aG (bC (((0,()),([],0,()),()):bM) l) from aG.done l aG.new)).write s t) h19).1 q_3)).2.2 rfl (pg (hY (((show aG (bC (((0,()),([],0,()),()):bM) l) from aG.done l aG.new)).write s t) h19 (j:=Int.toNat x_3) ((gY q_2 (dW (((show aG (bC (((0,()),([],0,()),()):bM) l) from aG.done l aG.new)).write s t) h19).1 q_3)).2.2)).2 (qZ (((show aG (bC (((0,()),([],0,()),()):bM) l) from aG.done l aG.new)).write s t) hn (hY (((show aG (bC (((0,()),([],0,()),()):bM) l) from aG.done l aG.new)).write s t) h19 (j:=Int.toNat x_3) ((gY q_2 (dW (((show aG (bC (((0,()),([],0,()),()):bM) l) from aG.done l aG.new)).write s t) h19).1 q_3)).2.2)))];rfl
 case m|a2=>
  simp only [bl,reduceCtorEq] at h17
  have hn:(bF (bC (((0,()),([],0,()),()):bM) l) s t).1.1.1 < 1000000:=(by have a:=lV (bC (((0,()),([],0,()),()):bM) l) s t;have b:=oJ l (((0,()),([],0,()),()):bM);have c:=(q_0 h1).1;simp only at b;omega)
  exact Bool.noConfusion ((nq (((show aG (bC (((0,()),([],0,()),()):bM) l) from aG.done l aG.new)).write s t) h19 (j:=Int.toNat x_3) ((gY q_2 (dW (((show aG (bC (((0,()),([],0,()),()):bM) l) from aG.done l aG.new)).write s t) h19).1 q_3)).2.2 rfl (pg (hY (((show aG (bC (((0,()),([],0,()),()):bM) l) from aG.done l aG.new)).write s t) h19 (j:=Int.toNat x_3) ((gY q_2 (dW (((show aG (bC (((0,()),([],0,()),()):bM) l) from aG.done l aG.new)).write s t) h19).1 q_3)).2.2)).2 (qZ (((show aG (bC (((0,()),([],0,()),()):bM) l) from aG.done l aG.new)).write s t) hn (hY (((show aG (bC (((0,()),([],0,()),()):bM) l) from aG.done l aG.new)).write s t) h19 (j:=Int.toNat x_3) ((gY q_2 (dW (((show aG (bC (((0,()),([],0,()),()):bM) l) from aG.done l aG.new)).write s t) h19).1 q_3)).2.2))).symm.trans h30)
 case n|a3=>
  simp only [bl,reduceCtorEq] at h17
  exact ((((show aG (bC (((0,()),([],0,()),()):bM) l) from aG.done l aG.new)).write s t)).st.pre
 case o|a4=>
  simp only [bl,reduceCtorEq] at h17
  have hn:(bF (bC (((0,()),([],0,()),()):bM) l) s t).1.1.1 < 1000000:=(by have a:=lV (bC (((0,()),([],0,()),()):bM) l) s t;have b:=oJ l (((0,()),([],0,()),()):bM);have c:=(q_0 h1).1;simp only at b;omega)
  exact Bool.noConfusion ((pI (((show aG (bC (((0,()),([],0,()),()):bM) l) from aG.done l aG.new)).write s t) hn (hY (((show aG (bC (((0,()),([],0,()),()):bM) l) from aG.done l aG.new)).write s t) h19 (j:=Int.toNat x_3) ((gY q_2 (dW (((show aG (bC (((0,()),([],0,()),()):bM) l) from aG.done l aG.new)).write s t) h19).1 q_3)).2.2)).symm.trans h25)
 case p|a5=>
  simp only [bl,reduceCtorEq] at h17
  exact ⟨Nat.le_trans (dW (((show aG (bC (((0,()),([],0,()),()):bM) l) from aG.done l aG.new)).write s t) h19).2 (by decide),(((((show aG (bC (((0,()),([],0,()),()):bM) l) from aG.done l aG.new)).write s t)).write _ _).st.pre.1⟩
 case q|a6=>
  simp only [bl,reduceCtorEq] at h17
  have hn:(bF (bC (((0,()),([],0,()),()):bM) l) s t).1.1.1 < 1000000:=(by have a:=lV (bC (((0,()),([],0,()),()):bM) l) s t;have b:=oJ l (((0,()),([],0,()),()):bM);have c:=(q_0 h1).1;simp only at b;omega)
  rw [sJ (nq (((show aG (bC (((0,()),([],0,()),()):bM) l) from aG.done l aG.new)).write s t) h19 (j:=Int.toNat x_3) ((gY q_2 (dW (((show aG (bC (((0,()),([],0,()),()):bM) l) from aG.done l aG.new)).write s t) h19).1 q_3)).2.2 rfl rfl (pI (((show aG (bC (((0,()),([],0,()),()):bM) l) from aG.done l aG.new)).write s t) hn (hY (((show aG (bC (((0,()),([],0,()),()):bM) l) from aG.done l aG.new)).write s t) h19 (j:=Int.toNat x_3) ((gY q_2 (dW (((show aG (bC (((0,()),([],0,()),()):bM) l) from aG.done l aG.new)).write s t) h19).1 q_3)).2.2)))];rfl
 case r|a7=>
  simp only [bl,reduceCtorEq] at h17
  have hn:(bF (bC (((0,()),([],0,()),()):bM) l) s t).1.1.1 < 1000000:=(by have a:=lV (bC (((0,()),([],0,()),()):bM) l) s t;have b:=oJ l (((0,()),([],0,()),()):bM);have c:=(q_0 h1).1;simp only at b;omega)
  exact Bool.noConfusion ((nq (((show aG (bC (((0,()),([],0,()),()):bM) l) from aG.done l aG.new)).write s t) h19 (j:=Int.toNat x_3) ((gY q_2 (dW (((show aG (bC (((0,()),([],0,()),()):bM) l) from aG.done l aG.new)).write s t) h19).1 q_3)).2.2 rfl rfl (pI (((show aG (bC (((0,()),([],0,()),()):bM) l) from aG.done l aG.new)).write s t) hn (hY (((show aG (bC (((0,()),([],0,()),()):bM) l) from aG.done l aG.new)).write s t) h19 (j:=Int.toNat x_3) ((gY q_2 (dW (((show aG (bC (((0,()),([],0,()),()):bM) l) from aG.done l aG.new)).write s t) h19).1 q_3)).2.2))).symm.trans h28)
theorem Tryz.CK:bV Tryz.prog Tryz.B.eT Tryz.X 10 [.slice cJ, .str, .int .i64, .str, .str] [.bool] (fun _=>True) (fun _ y=>y=true):=
 cK (X:=Tryz.X) Tryz.Ff Tryz.func10 (by kernel_rfl) (fun x=>Tryz.BJ x.1 x.2.1 x.2.2.1 x.2.2.2.1 x.2.2.2.2) (fun x hw hp=>CJ x.1 x.2.1 x.2.2.1 x.2.2.2.1 x.2.2.2.2 hw)
open Go.ChangeShapes Go.WideShapes Go.ChangeAt Go.RowKit in
theorem Tryz.uZ {W:World} (hL:laidMetH Tryz.prog Rows.topStaleRow.laid W) (hsh:W.ShapedOpen Tryz.prog):Tryz.Kt W:=by
 rw [MakeChecks.laidMetH_plain _ _ _ (by kernel_rfl)] at hL
 exact ⟨A7 (g:=1) (t:=242) (e:=23) (n:=20) (by kernel_rfl) (by kernel_rfl) (by kernel_rfl) (by kernel_rfl) (by kernel_rfl) (by kernel_rfl) ((show (Rows.laid_internal_strconv_uint64pow10:DataW Unit)=Lib.tabData .u64 Lib.pow10Tab from by kernel_rfl)▸Lib.laidMet.reads hL (.tail _ (.tail _ (.head _)))),
  A6 (g:=0) (t:=3) (zero:=#[.int .i64 0]) hsh (of_decide_eq_true (by kernel_rfl)) (by kernel_rfl) rfl (by kernel_rfl) (by kernel_rfl) (by kernel_rfl),
  qd (g:=4) (t:=36) (by kernel_rfl) (by kernel_rfl) (by kernel_rfl) (Lib.laidMet.reads hL (.tail _ (.tail _ (.tail _ (.tail _ (.tail _ (.head _))))))),
  qd (g:=5) (t:=36) (by kernel_rfl) (by kernel_rfl) (by kernel_rfl) (Lib.laidMet.reads hL (.tail _ (.tail _ (.tail _ (.tail _ (.head _))))))⟩
open Go.ChangeShapes Go.WideShapes Go.ChangeAt Go.RowKit in
set_option maxRecDepth 100000 in
theorem wA (os:Os) (started:os.Started) (H:Type) (enc:TypeId × Value->H) :
  ReturnsInHanded {} Tryz.checked os 10 .any (fun w args=>(Rows.topStaleSpec.pre enc Tryz.prog Tryz.f10 [] false w args/\laidMetH Tryz.prog Rows.topStaleRow.laid w)/\sizedMet enc Tryz.prog Tryz.f10 (OpenSpec.ofChange Rows.topStaleSpec) false w args) (Rows.topStaleSpec.post enc Tryz.prog Tryz.f10 false true false false):=by
 refine Ck (C:=Tryz.checked) (X:=fun w _=>laidMetH Tryz.prog Rows.topStaleRow.laid w) (fun _ _ _ hh h=>h.of_heap hh) (by kernel_rfl) started (by kernel_rfl) Tryz.func10
  (ChangeSpec.witness_shaped (enc:=enc) (C:=Tryz.checked) (os:=os) (X:=fun w _=>laidMetH Tryz.prog Rows.topStaleRow.laid w) false (World.laidAll Tryz.prog os Rows.topStaleRow.laid) #[.slice none 0 0, .string ⟨#[]⟩, .int .i64 0, .string ⟨#[]⟩, .string ⟨#[]⟩] 8 (World.laidAll_os _ _ _) (World.shaped_of_ZipB (by kernel_rfl) (by kernel_rfl)) (by kernel_rfl) (by kernel_rfl) (by kernel_rfl)
   (by rw [MakeChecks.laidMetH_plain _ _ _ (by kernel_rfl)];exact laidMet_laidAll _ (by kernel_rfl) (by kernel_rfl))) ?_
 intro W base args ds gs before hval hW hL hsh
 exact FV (C:=Tryz.checked) (n:=16) rfl (by kernel_rfl) (fun ds h=>by match ds,h with | [_,_,_,_,_],_=>rfl) (by kernel_rfl) (by kernel_rfl) (by kernel_rfl) (tb:=4) (by kernel_rfl) Tryz.CK hval hW (Tryz.uZ hL hsh) (fun _ _=>trivial)
open Go.ChangeShapes Go.WideShapes Go.ChangeAt Go.RowKit in
theorem yK:Rows.TopStaleSaid:=
 OpenClaim.holds_of_wide 10 Tryz.f10 rfl rfl rfl rfl rfl rfl rfl ⟨rfl,rfl,rfl,rfl,rfl⟩ rfl rfl rfl rfl rfl (by kernel_rfl) Tryz.func10 (by kernel_rfl)
  (of_decide_eq_true (by kernel_rfl)) (by unfold Func.isWrapper;first | (rw [if_pos (by decide +kernel)];kernel_rfl) | (rw [if_neg (by decide +kernel)];exact ⟨rfl,rfl⟩))
  (fun os started H enc _=>wA os started H enc)
theorem topStale_holds:Rows.TopStaleCardSaid:=
 Claim7.holds_tied_plain_at .later [] [.data, .data, .data, .data, .sentinel, .sentinel, .pinned] true (true,"6a9693e68608825ffcfea3137400340b6490202206f494b6fbc4e452f2b457e4") true
  yK (fun _ h=>by cases h) (by kernel_rfl) (fun _ h=>by cases h) topStale_row_tie rfl ⟨rfl,rfl⟩ (by kernel_rfl) rfl
  (fun f fn hf hfn=>by
   obtain rfl:f=10:=Option.some.inj ((show Tryz.prog.funcNamed Rows.topStaleRow.func=some 10 by kernel_rfl).symm.trans hf) |>.symm
   obtain rfl:fn=Tryz.f10:=(Option.some.inj (Tryz.func10.symm.trans hfn)).symm
   exact ⟨by kernel_rfl,fun j t ht=>by
    have hall:(Tryz.f10.params.toList.all fun t => !Tryz.prog.wantsStandIn t)=true:=by kernel_rfl
    have hm:t∈Tryz.f10.params.toList:=Array.mem_def.1 (Array.mem_of_getElem? ht)
    exact (by simpa using List.all_eq_true.1 hall t hm:Tryz.prog.wantsStandIn t=false)⟩)
  (by kernel_rfl)
#print axioms topStale_holds
end Go.Proofs.YtgokjhhcfemnhacGreatDoor

