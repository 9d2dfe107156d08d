/- A part of the proof that the law TopBoundCard holds of the given program: facts that are used there. -/
import Derived.Test.YtgokjhhcfemnhacGreatDoorPart4
import Derived.Test.YtgokjhhcfemnhacGreatDoorRows
import Derived.Test.YtgokjhhcfemnhacGreatDoorTie
import Derived.Test.YtgokjhhcfemnhacGreatDoorCards
import Derived.LaidMore
set_option linter.unusedSimpArgs false
set_option linter.unusedVariables false
set_option maxRecDepth 100000
set_option maxHeartbeats 4000000
namespace Go.Proofs.YtgokjhhcfemnhacGreatDoor
open Go.Vg Go.Mrl
noncomputable def Tryz.wj:List (FuncId × (Bool × bA)):=[(76,(true,aR [.str] [.err] (fun _=>True) (fun s=>bd (aK s)))),
 (99,(true,aR [.str] [.int .i64] (fun _=>True) (fun s=>aK s))),
 (21,(true,aR [.err] [.int .i64] (fun _=>True) (fun e=>dA e))),
 (56,(true,eY [du] [.bool] (fun _=>True) (fun e y=>y=true->jq e))),
 (15,(true,eY [.slice bP, .int .i64] [.bool] (fun _=>True) (fun x y=>y=true->jP x.1 x.2))),
 (26,(true,aR [] [.bool] (fun _=>True) (fun _=>true))),
 (40,(false,bW Tryz.aU [.obj 0, .d (.slice bP)] (fun _ x=>bN x) Tryz.sy)),
 (29,(false,bW [] [] (fun _ _=>True) Tryz.nH)),
 (34,(false,bW Tryz.aU [.obj 0, .d .str] (fun _ x=>x.2.1.1.length<=6) Tryz.oT)),
 (31,(false,bW Tryz.aU [.obj 0, .d .str] (fun _ x=>x.2.1.1.length<=6) Tryz.qJ)),
 (39,(true,aR [.slice aA, .str] [.int .i64, .int .i64] (fun _=>True) (fun x=>bo x))),
 (43,(true,aR [.slice ba, .int .i64] [.int .i64, .bool] (fun x=>yn x.1) (fun x=>fv x.1 x.2)))]
theorem Tryz.Ax:bM Tryz.prog Tryz.B Tryz.X Tryz.wj:=
 aX (aE Tryz.fe) (aX (aE Tryz.c8) (aX (aE Tryz.er) (aX (cU Tryz.kM) (aX (cU Tryz.qk) (aX (aE Tryz.Gi) (aX (Tryz.Hr) (aX (Tryz.uH) (aX (Tryz.Bn) (aX (Tryz.rn) (aX (aE Tryz.yX) (aX (aE Tryz.Ij) (bY Tryz.bZ))))))))))))
noncomputable def wk (l:List (D bP)) (r:List UInt8):cp:=[
 (0,fun st=>{X:=Nat,inv:=fun i=>i<=List.length (bS (.slice ba) st 7),bC:=fun i=>List.length (bS (.slice ba) st 7) - i,bk:=fun i=>[(11,sI i)],bn:=[7,10]}),
 (2,fun st=>{X:=Nat,inv:=fun k=>k<=List.length (nth aA (bS (.slice aA) st 10) (Int.toNat (bS (.int .i64) st 11))).2.2.2.1,bC:=fun k=>List.length (nth aA (bS (.slice aA) st 10) (Int.toNat (bS (.int .i64) st 11))).2.2.2.1 - k,bk:=fun k=>[(13,sI k)],aC:=fun k=>[(bI st 12, .arr .bool (jy (List.take k (nth aA (bS (.slice aA) st 10) (Int.toNat (bS (.int .i64) st 11))).2.2.2.1)))],bn:=[7,10,11,12,63,64,65,66],eH:=[bI st 12]}),
 (400026,fun st=>{X:=Int,inv:=fun a=>a=jz (nth ba (bS (.slice ba) st 7) (Int.toNat (bS (.int .i64) st 11))) (nth aH (nth aA (bS (.slice aA) st 10) (Int.toNat (bS (.int .i64) st 11))).2.2.2.1 (Int.toNat (bS (.int .i64) st 13))),bC:=fun _=>0,bk:=fun a=>[(17,sI a)],bn:=[4,7,10,11,12,13,14,15,16,63,64,65,66,69,70,71,72,73,74,75,76,79,80,81,82,83,84,85,86,87,88,89,90,91,92,93,94,95,96,97,98,99,100,101,102,103,104,105,106,107,108,109,110,111]}),
 (5,fun st=>{X:=Nat,inv:=fun k=>k<=List.length (nth aA (bS (.slice aA) st 10) (Int.toNat (bS (.int .i64) st 11))).2.1,bC:=fun k=>List.length (nth aA (bS (.slice aA) st 10) (Int.toNat (bS (.int .i64) st 11))).2.1 - k,bk:=fun k=>[(20,sI k)],bn:=[7,10,11,12,13,14,15,16,17,18,19,63,64,65,66,69,70,71,72,73,74,75,76,77,78,79,80,81,82,83,84,85,86,87,88,89,90,91,92,93,94,95,96,97,98,99,100,101,102,103,104,105,106,107,108,109,110,111,112,113,114,115,116,117,118,119,120,121,122,123,124,125,126,127,128,129,130,131,132,133,134,135,136,137,138,139,140,141,142,143,144,145,146,147,148,149,150,151,152,153,154,155,156,157,158,159,160,161,162,163,164,165,166,167,168,169,170,171,172,173,174,175,176,177,178,179,180,181,182,183,184,185,186,187,188,189]})]
theorem Ay (l:List (D bP)) (r:List UInt8) (hw:dN [.slice bP, .str] (l,r)):(cg Tryz.B Tryz.wj Tryz.f7 (wk l r) [.slice bP, .str] [.bool] (fun _ y=>y=true) (l,r)).holds:=by
 refine holds_of (p:=
  let za:=false=true
  let zb:=true=true
  let zc:=(((0:Int),()),([],(0:Int),()),())
  let zd:=aO zc l
  let ze:=List.length zd.2.1.1<=(6:Nat)
  let zf:=cJ (aJ zd) r
  let zg:=List.length zf.1
  let zh:=zg<=aL
  let zi:=(↑zg:Int)
  let zj:=(aF (aJ zd) r).2
  let zk:=(↑(List.length zj.1):Int)
  let zl:=fun (x_1:Nat)=>(↑x_1:Int)
  let zm:=fun (x_1:Nat)=>(nth aA zj.1 x_1).2.2.2.1
  let zn:=fun (x_1:Nat)=>List.length (zm x_1)
  let zo:=fun (x_1:Nat)=>(0:Int)<=zl x_1
  let zp:=fun (x_1:Nat)=>zo x_1/\zl x_1 < zk
  let zq:=fun (x_1 x_2:Nat)=>(nth aH (zm x_1) x_2).1
  let zr:=(↑(40:Nat):Int)
  let zs:=fun (x_2 x_1:Nat)=>jy (List.take x_2 (zm x_1))
  let zt:=fun (x_1:Nat)=>zo x_1/\zl x_1 < zi
  let zu:=fun (x_1:Nat)=>(nth ba zf.1 x_1).2.2.1
  let zv:=Ty.int IntKind.i64
  let zw:=fun (x_1 x_2:Nat)=>(nth aH (zm x_1) x_2).2.2.1
  let zx:=fun (x_1 x_2:Nat)=>nth zv (zu x_1) (Int.toNat (zq x_1 x_2)) - zw x_1 x_2
  let zy:=fun (x_1 x_2:Nat)=>(nth aH (zm x_1) x_2).2.1
  let zz:=fun (x_1:Nat)=>(nth ba zf.1 x_1).2.1
  let zaa:=fun (x_1 x_2:Nat)=>jz (nth ba zf.1 x_1) (nth aH (zm x_1) x_2)
  let zab:=fun (x_1 x_2:Nat)=>(nth aH (zm x_1) x_2).2.2.2.1
  let zac:=fun (x_1 x_2:Nat)=>(nth aH (zm x_1) x_2).2.2.2.2.1
  let zad:=fun (x_2 x_1:Nat)=>List.set (zs x_2 x_1) (Int.toNat (zq x_1 x_2)) true
  let zae:=(C.ct (1:Nat)=C.ct (1:Nat)/\zd.1.1=zd.1.1/\True)/\zd.2.1=zd.2.1/\True
  let zaf:=fun (x_1 x_2:Nat)=>(zq x_1 x_2=zq x_1 x_2/\zy x_1 x_2=zy x_1 x_2/\zw x_1 x_2=zw x_1 x_2/\zab x_1 x_2=zab x_1 x_2/\zac x_1 x_2=zac x_1 x_2/\True)/\zad x_2 x_1=zad x_2 x_1/\zae
  let zag:=aM (1:Int)
  let zah:=fun (x_2:Nat)=>zl x_2 + (1:Int)
  let zai:=fun (x_2:Nat) (x_1:Nat)=>((aM (zl x_2))->((zag)->(aM (zah x_2))/\(∃(x':Nat),x'<=zn x_1/\zn x_1 - x' < zn x_1 - x_2/\(zah x_2=(↑x':Int)/\True)/\zad x_2 x_1=jy (List.take x' (zm x_1))/\zae)))
  let zaj:=fun (x_1 x_2:Nat)=>(bo (zj.1,zab x_1 x_2)).1
  let zak:=fun (x_1 x_2:Nat)=>(0:Int)<=zaj x_1 x_2/\zaj x_1 x_2 < zi
  let zal:=fun (x_1 x_2:Nat)=>(0:Int)<=zaj x_1 x_2/\zaj x_1 x_2 < zk
  let zam:=fun (x_1 x_2:Nat)=>(bo (zj.1,zab x_1 x_2)).2
  let zan:=fun (x_1 x_2:Nat)=>(0:Int)<=zam x_1 x_2/\zam x_1 x_2 < (↑(List.length (nth aA zj.1 (Int.toNat (zaj x_1 x_2))).2.2.1):Int)
  let zao:=fun (x_1 x_2:Nat)=>(nth aI (nth aA zj.1 (Int.toNat (zaj x_1 x_2))).2.2.1 (Int.toNat (zam x_1 x_2))).2.1
  let zap:=fun (x_1 x_2:Nat)=>(nth ba zf.1 (Int.toNat (zaj x_1 x_2))).2.1 + zao x_1 x_2
  let zaq:=fun (x_1:Nat)=>List.length (nth aA zj.1 x_1).2.1
  let zar:=fun (x_3:Nat) (x_1:Nat) (x_2:Nat)=>((aM (zl x_3))->((zag)->(aM (zah x_3))/\(∃(x':Nat),x'<=zaq x_1/\zaq x_1 - x' < zaq x_1 - x_3/\(zah x_3=(↑x':Int)/\True)/\zs x_2 x_1=zs x_2 x_1/\zae)))
  (True)/\(((!true)=true->(za))/\((!true)=false->(True)/\(∀x_0:Bool,((x_0=true->jP l (30:Int))->(((!x_0)=true->(zb))/\((!x_0)=false->((List.length r<=aL)->(((decide ((↑(List.length r):Int) > (20:Int)))=true->(zb))/\((decide ((↑(List.length r):Int) > (20:Int)))=false->(True)/\((True)->(bN zc)/\((True)->(ze)/\((True)->(((!aY.isNil (bd zf.2))=true->((zh)->((zi == (0:Int))=true)))/\((!aY.isNil (bd zf.2))=false->(ze)/\((True)->(((!aY.isNil (bd zj.2))=true->(za))/\((!aY.isNil (bd zj.2))=false->((List.length zj.1<=aL)->((zh)->(((zk != zi)=true->(za))/\((zk != zi)=false->(∃(x:Nat),x<=zg/\((0:Int)=(↑x:Int)/\True)/\True)/\(∀x_1:Nat,((x_1<=zg)->((zh)->(((decide (zl x_1 < zi))=true->(∃(x:Nat),x<=zn x_1/\((0:Int)=(↑x:Int)/\True)/\List.replicate (40:Nat) (bL Ty.bool)=jy (List.take x (zm x_1))/\True)/\(∀x_2:Nat,((x_2<=zn x_1)->(zp x_1)/\((zn x_1<=aL)->(((decide (zl x_2 < (↑(zn x_1):Int)))=true->(zp x_1)/\(zo x_2/\zl x_2 < (↑(zn x_1):Int))/\((0:Int)<=zq x_1 x_2/\zq x_1 x_2 < zr/\zq x_1 x_2 < (↑(List.length (zs x_2 x_1)):Int))/\(Int.toNat (zq x_1 x_2) < List.length (zs x_2 x_1))/\(True)/\(zt x_1)/\((0:Int)<=zq x_1 x_2/\zq x_1 x_2 < (↑(List.length (zu x_1)):Int))/\((aM (nth zv (zu x_1) (Int.toNat (zq x_1 x_2))))->((aM (zw x_1 x_2))->(aM (zx x_1 x_2))/\(((((zy x_1 x_2 == (3:Int))=true->(zt x_1)/\((aM (zx x_1 x_2))->((aM (zz x_1))->(aM (zx x_1 x_2 + zz x_1))/\((aM (zx x_1 x_2 + zz x_1))->((aM (zq x_1 x_2))->(aM (zx x_1 x_2 + zz x_1 + zq x_1 x_2))/\(∃(x':Int),x'=zaa x_1 x_2/\(zx x_1 x_2 + zz x_1 + zq x_1 x_2=x'/\True)/\zaf x_1 x_2))))))/\((zy x_1 x_2 == (3:Int))=false->(∃(x':Int),x'=zaa x_1 x_2/\(zx x_1 x_2=x'/\True)/\zaf x_1 x_2))))/\((∀x_3:Int,((x_3=zaa x_1 x_2)->(((zy x_1 x_2 == (1:Int))=true->(zt x_1)/\(((x_3 != zz x_1)=true->(za))/\((x_3 != zz x_1)=false->(zai x_2 x_1))))/\((zy x_1 x_2 == (1:Int))=false->(((decide (zaj x_1 x_2 < (0:Int)))=true->(((x_3 != (0:Int))=true->(za))/\((x_3 != (0:Int))=false->(((!zac x_1 x_2)=true->(za))/\((!zac x_1 x_2)=false->(zai x_2 x_1))))))/\((decide (zaj x_1 x_2 < (0:Int)))=false->(yn zf.1)/\(zak x_1 x_2)/\(zal x_1 x_2)/\(zan x_1 x_2)/\((aM (nth ba zf.1 (Int.toNat (zaj x_1 x_2))).2.1)->((aM (zao x_1 x_2))->(aM (zap x_1 x_2))/\(((x_3 != zap x_1 x_2)=true->(za))/\((x_3 != zap x_1 x_2)=false->(((!(fv zf.1 x_3).2)=true->(za))/\((!(fv zf.1 x_3).2)=false->(zak x_1 x_2)/\(zal x_1 x_2)/\(zan x_1 x_2)/\((0:Int)<=zao x_1 x_2/\zao x_1 x_2 < (↑(List.length (nth ba zf.1 (Int.toNat (zaj x_1 x_2))).2.2.1):Int))/\((((fv zf.1 x_3).1 != nth zv (nth ba zf.1 (Int.toNat (zaj x_1 x_2))).2.2.1 (Int.toNat (zao x_1 x_2)))=true->(za))/\(((fv zf.1 x_3).1 != nth zv (nth ba zf.1 (Int.toNat (zaj x_1 x_2))).2.2.1 (Int.toNat (zao x_1 x_2)))=false->(zai x_2 x_1))))))))))))))))))))/\((decide (zl x_2 < (↑(zn x_1):Int)))=false->(∃(x:Nat),x<=zaq x_1/\((0:Int)=(↑x:Int)/\True)/\True)/\(∀x_3:Nat,((x_3<=zaq x_1)->(zp x_1)/\((zaq x_1<=aL)->(((decide (zl x_3 < (↑(zaq x_1):Int)))=true->(zo x_3/\zl x_3 < zr/\zl x_3 < (↑(List.length (zs x_2 x_1)):Int))/\(x_3 < List.length (zs x_2 x_1))/\(((!nth Ty.bool (zs x_2 x_1) x_3)=true->(zt x_1)/\(zo x_3/\zl x_3 < (↑(List.length (zu x_1)):Int))/\(zp x_1)/\(zo x_3/\zl x_3 < (↑(zaq x_1):Int))/\(((nth zv (zu x_1) x_3 != nth zv (nth aA zj.1 x_1).2.1 x_3)=true->(za))/\((nth zv (zu x_1) x_3 != nth zv (nth aA zj.1 x_1).2.1 x_3)=false->(zar x_3 x_1 x_2))))/\((!nth Ty.bool (zs x_2 x_1) x_3)=false->(zar x_3 x_1 x_2))))/\((decide (zl x_3 < (↑(zaq x_1):Int)))=false->((aM (zl x_1))->((zag)->(aM (zah x_1))/\(∃(x':Nat),x'<=zg/\zg - x' < zg - x_1/\(zah x_1=(↑x':Int)/\True)/\zae))))))))))))))/\((decide (zl x_1 < zi))=false->(zb)))))))))))))))))))))))))))) (by kernel_rfl) ?_
 dsimp -iota -proj -eta only
 refine ⟨trivial,⟨fun h0=>absurd (show false=true from h0) (by decide),fun h0=>⟨trivial,fun x_0 q_0=>iB (fun h1=>rfl) (fun h1 h2=>iL (fun h3=>rfl) (fun h3=>⟨trivial,fun h4=>⟨bN.new,fun h5=>⟨?a,fun h6=>iB (fun h7 h8 => ?b) (fun h7=>⟨?c,fun h8=>iB (fun h9=>(absurd (di ((show aV (aO (((0,()),([],0,()),()):bp) l) from aV.done l aV.new)).ok (root:=r) h7).1 (mA h9))) (fun h9 h10 h11=>iN (fun h12 => ?d) (fun h12=>⟨?e,fun x_1 q_1 h13=>iL (fun h14=>⟨(⟨0,Nat.zero_le _,⟨rfl,trivial⟩,rfl,(by trivial)⟩),fun x_2 q_2=>⟨?f,fun h15=>iL (fun h16=>⟨?g,?h,?i,?j,trivial,?k,?l,fun h17 h18=>⟨?m,⟨iQ (fun h19=>⟨?n,fun h20 h21=>⟨?o,fun h22 h23=>⟨?p,(by exact ⟨_,rfl,⟨by unfold jz;rw [if_pos h19];first | rfl | exact Int.add_assoc _ _ _ | exact (Int.add_assoc _ _ _).symm,trivial⟩,(by trivial)⟩)⟩⟩⟩) (fun h19=>(by exact ⟨_,rfl,⟨by unfold jz;rw [if_neg h19];first | rfl | exact (Int.add_zero _).symm | exact Int.add_zero _,trivial⟩,(by trivial)⟩)),fun x_3 q_3=>iQ (fun h19=>⟨?q,iN (fun h20 => ?r) (fun h20 h21 h22=>⟨?s,?t⟩)⟩) (fun h19=>iL (fun h20=>iN (fun h21 => ?u) (fun h21=>iB (fun h22 => ?v) (fun h22 h23 h24=>⟨?w,?x⟩))) (fun h20=>⟨(Cz ((show aV (aO (((0,()),([],0,()),()):bp) l) from aV.done l aV.new)).ok r),?y,?z,?a0,fun h21 h22=>⟨?a1,iN (fun h23 => ?a2) (fun h23=>iB (fun h24 => ?a3) (fun h24=>⟨?a4,?a5,?a6,?a7,iN (fun h25 => ?a8) (fun h25 h26 h27=>⟨?a9,?aa⟩)⟩))⟩⟩))⟩⟩⟩) (fun h16=>⟨?ab,fun x_3 q_3=>⟨?ac,fun h17=>iL (fun h18=>⟨?ad,?ae,iB (fun h19=>⟨?af,?ag,?ah,?ai,iN (fun h20 => ?aj) (fun h20 h21 h22=>⟨?ak,?al⟩)⟩) (fun h19 h20 h21=>⟨?am,?an⟩)⟩) (fun h18 h19 h20=>⟨?ao,(⟨x_1 + 1,by omega,by omega,⟨by omega,trivial⟩,(by trivial)⟩)⟩)⟩⟩)⟩⟩) (fun h14=>rfl)⟩))⟩)⟩⟩⟩))⟩⟩⟩
 case a|c=>exact ((show aV (aO (((0,()),([],0,()),()):bp) l) from aV.done l aV.new)).st.pre.1
 case b=>
  rcases lf ((show aV (aO (((0,()),([],0,()),()):bp) l) from aV.done l aV.new)).ok r with ⟨f,hf,e1,e⟩ | ⟨ns,os,bs,ps,_,_,e⟩
  ·rw [e];rfl
  ·exact absurd (by rw [e]) (mA h7)
 case d=>
  have L:=(di ((show aV (aO (((0,()),([],0,()),()):bp) l) from aV.done l aV.new)).ok (root:=r) h7).2.len
  omega
 case e|ab=>exact ⟨0,Nat.zero_le _,⟨rfl,trivial⟩,(by trivial)⟩
 case f|g|ac|ah=>
  have B:=di ((show aV (aO (((0,()),([],0,()),()):bp) l) from aV.done l aV.new)).ok (root:=r) h7;have L:=B.2.len;have hi:x_1 < List.length (aF (aJ (aO (((0,()),([],0,()),()):bp) l)) r).2.1:=(by omega)
  exact ⟨by omega,by omega⟩
 case h|k|n|q|af|ai=>omega
 case i=>
  have B:=di ((show aV (aO (((0,()),([],0,()),()):bp) l) from aV.done l aV.new)).ok (root:=r) h7;have L:=B.2.len;have hi:x_1 < List.length (aF (aJ (aO (((0,()),([],0,()),()):bp) l)) r).2.1:=(by omega)
  have hk:x_2 < List.length (nth aA (aF (aJ (aO (((0,()),([],0,()),()):bp) l)) r).2.1 x_1).2.2.2.1:=(by omega);have T:=B.2.tie x_1 hi x_2 hk;have Z:=B.2.base x_1 hi;have W3:=B.2.fc x_1 hi;have W1:=T.2.2.1;have W2:=T.2.2.2
  rw [mB]
  exact ⟨T.1,(show ∀a b c:Int,b > a->b<=c->a < c from by intros;omega) _ _ _ T.2.1 (by omega),(show ∀a b c:Int,b > a->b<=c->a < c from by intros;omega) _ _ _ T.2.1 (by omega)⟩
 case j=>
  have B:=di ((show aV (aO (((0,()),([],0,()),()):bp) l) from aV.done l aV.new)).ok (root:=r) h7;have L:=B.2.len;have hi:x_1 < List.length (aF (aJ (aO (((0,()),([],0,()),()):bp) l)) r).2.1:=(by omega)
  have hk:x_2 < List.length (nth aA (aF (aJ (aO (((0,()),([],0,()),()):bp) l)) r).2.1 x_1).2.2.2.1:=(by omega);have T:=B.2.tie x_1 hi x_2 hk;have Z:=B.2.base x_1 hi;have W3:=B.2.fc x_1 hi;have W1:=T.2.2.1;have W2:=T.2.2.2
  rw [mB]
  omega
 case l=>
  have B:=di ((show aV (aO (((0,()),([],0,()),()):bp) l) from aV.done l aV.new)).ok (root:=r) h7;have L:=B.2.len;have hi:x_1 < List.length (aF (aJ (aO (((0,()),([],0,()),()):bp) l)) r).2.1:=(by omega)
  have hk:x_2 < List.length (nth aA (aF (aJ (aO (((0,()),([],0,()),()):bp) l)) r).2.1 x_1).2.2.2.1:=(by omega);have T:=B.2.tie x_1 hi x_2 hk;have Z:=B.2.base x_1 hi;have W3:=B.2.fc x_1 hi;have W1:=T.2.2.1;have W2:=T.2.2.2
  exact ⟨T.1,(show ∀a b c:Int,b > a->b<=c->a < c from by intros;omega) _ _ _ T.2.1 (by omega)⟩
 case m|o|p=>
  have B:=di ((show aV (aO (((0,()),([],0,()),()):bp) l) from aV.done l aV.new)).ok (root:=r) h7;have L:=B.2.len;have hi:x_1 < List.length (aF (aJ (aO (((0,()),([],0,()),()):bp) l)) r).2.1:=(by omega)
  have hk:x_2 < List.length (nth aA (aF (aJ (aO (((0,()),([],0,()),()):bp) l)) r).2.1 x_1).2.2.2.1:=(by omega);have T:=B.2.tie x_1 hi x_2 hk;have Z:=B.2.base x_1 hi;have W3:=B.2.fc x_1 hi;have W1:=T.2.2.1;have W2:=T.2.2.2
  unfold Word at W1 W2
  simp only [aM]
  omega
 case r=>
  have B:=di ((show aV (aO (((0,()),([],0,()),()):bp) l) from aV.done l aV.new)).ok (root:=r) h7;have L:=B.2.len;have hi:x_1 < List.length (aF (aJ (aO (((0,()),([],0,()),()):bp) l)) r).2.1:=(by omega)
  have hk:x_2 < List.length (nth aA (aF (aJ (aO (((0,()),([],0,()),()):bp) l)) r).2.1 x_1).2.2.2.1:=(by omega);have T:=B.2.tie x_1 hi x_2 hk;have Z:=B.2.base x_1 hi;have W3:=B.2.fc x_1 hi;have W1:=T.2.2.1;have W2:=T.2.2.2
  exact absurd (q_3.trans (B.2.IF x_1 hi x_2 hk h19)) h20
 case s|w|a9|ak|am|ao=>simp only [aM,aL] at *;omega
 case t|x|aa=>exact ⟨x_2 + 1,by omega,by omega,⟨by omega,trivial⟩,(CA (by omega)).symm,(by trivial)⟩
 case u=>
  have B:=di ((show aV (aO (((0,()),([],0,()),()):bp) l) from aV.done l aV.new)).ok (root:=r) h7;have L:=B.2.len;have hi:x_1 < List.length (aF (aJ (aO (((0,()),([],0,()),()):bp) l)) r).2.1:=(by omega)
  have hk:x_2 < List.length (nth aA (aF (aJ (aO (((0,()),([],0,()),()):bp) l)) r).2.1 x_1).2.2.2.1:=(by omega);have T:=B.2.tie x_1 hi x_2 hk;have Z:=B.2.base x_1 hi;have W3:=B.2.fc x_1 hi;have W1:=T.2.2.1;have W2:=T.2.2.2
  exact absurd (q_3.trans (B.2.H5 x_1 hi x_2 hk h19 h20).1) h21
 case v=>
  have B:=di ((show aV (aO (((0,()),([],0,()),()):bp) l) from aV.done l aV.new)).ok (root:=r) h7;have L:=B.2.len;have hi:x_1 < List.length (aF (aJ (aO (((0,()),([],0,()),()):bp) l)) r).2.1:=(by omega)
  have hk:x_2 < List.length (nth aA (aF (aJ (aO (((0,()),([],0,()),()):bp) l)) r).2.1 x_1).2.2.2.1:=(by omega);have T:=B.2.tie x_1 hi x_2 hk;have Z:=B.2.base x_1 hi;have W3:=B.2.fc x_1 hi;have W1:=T.2.2.1;have W2:=T.2.2.2
  exact Bool.noConfusion ((B.2.H5 x_1 hi x_2 hk h19 h20).2.symm.trans h22)
 case y|z|a0|a4|a5|a6=>
  have B:=di ((show aV (aO (((0,()),([],0,()),()):bp) l) from aV.done l aV.new)).ok (root:=r) h7;have L:=B.2.len;have hi:x_1 < List.length (aF (aJ (aO (((0,()),([],0,()),()):bp) l)) r).2.1:=(by omega)
  have hk:x_2 < List.length (nth aA (aF (aJ (aO (((0,()),([],0,()),()):bp) l)) r).2.1 x_1).2.2.2.1:=(by omega);have T:=B.2.tie x_1 hi x_2 hk;have Z:=B.2.base x_1 hi;have W3:=B.2.fc x_1 hi;have W1:=T.2.2.1;have W2:=T.2.2.2
  have F:=fY (l:=(aF (aJ (aO (((0,()),([],0,()),()):bp) l)) r).2.1) (s:=(nth aH (nth aA (aF (aJ (aO (((0,()),([],0,()),()):bp) l)) r).2.1 x_1).2.2.2.1 x_2).2.2.2.1) (by omega);have hf:Int.toNat (bo ((aF (aJ (aO (((0,()),([],0,()),()):bp) l)) r).2.1,(nth aH (nth aA (aF (aJ (aO (((0,()),([],0,()),()):bp) l)) r).2.1 x_1).2.2.2.1 x_2).2.2.2.1)).1 < List.length (aF (aJ (aO (((0,()),([],0,()),()):bp) l)) r).2.1:=(by omega);have Y:=B.2.base _ hf;have W4:=B.2.fc _ hf;have S:=B.2.sym _ hf (Int.toNat (bo ((aF (aJ (aO (((0,()),([],0,()),()):bp) l)) r).2.1,(nth aH (nth aA (aF (aJ (aO (((0,()),([],0,()),()):bp) l)) r).2.1 x_1).2.2.2.1 x_2).2.2.2.1)).2) (by omega)
  exact ⟨by omega,by omega⟩
 case a1=>
  have B:=di ((show aV (aO (((0,()),([],0,()),()):bp) l) from aV.done l aV.new)).ok (root:=r) h7;have L:=B.2.len;have hi:x_1 < List.length (aF (aJ (aO (((0,()),([],0,()),()):bp) l)) r).2.1:=(by omega)
  have hk:x_2 < List.length (nth aA (aF (aJ (aO (((0,()),([],0,()),()):bp) l)) r).2.1 x_1).2.2.2.1:=(by omega);have T:=B.2.tie x_1 hi x_2 hk;have Z:=B.2.base x_1 hi;have W3:=B.2.fc x_1 hi;have W1:=T.2.2.1;have W2:=T.2.2.2
  have F:=fY (l:=(aF (aJ (aO (((0,()),([],0,()),()):bp) l)) r).2.1) (s:=(nth aH (nth aA (aF (aJ (aO (((0,()),([],0,()),()):bp) l)) r).2.1 x_1).2.2.2.1 x_2).2.2.2.1) (by omega);have hf:Int.toNat (bo ((aF (aJ (aO (((0,()),([],0,()),()):bp) l)) r).2.1,(nth aH (nth aA (aF (aJ (aO (((0,()),([],0,()),()):bp) l)) r).2.1 x_1).2.2.2.1 x_2).2.2.2.1)).1 < List.length (aF (aJ (aO (((0,()),([],0,()),()):bp) l)) r).2.1:=(by omega);have Y:=B.2.base _ hf;have W4:=B.2.fc _ hf;have S:=B.2.sym _ hf (Int.toNat (bo ((aF (aJ (aO (((0,()),([],0,()),()):bp) l)) r).2.1,(nth aH (nth aA (aF (aJ (aO (((0,()),([],0,()),()):bp) l)) r).2.1 x_1).2.2.2.1 x_2).2.2.2.1)).2) (by omega)
  simp only [aM]
  omega
 case a2=>
  have B:=di ((show aV (aO (((0,()),([],0,()),()):bp) l) from aV.done l aV.new)).ok (root:=r) h7;have L:=B.2.len;have hi:x_1 < List.length (aF (aJ (aO (((0,()),([],0,()),()):bp) l)) r).2.1:=(by omega)
  have hk:x_2 < List.length (nth aA (aF (aJ (aO (((0,()),([],0,()),()):bp) l)) r).2.1 x_1).2.2.2.1:=(by omega);have T:=B.2.tie x_1 hi x_2 hk;have Z:=B.2.base x_1 hi;have W3:=B.2.fc x_1 hi;have W1:=T.2.2.1;have W2:=T.2.2.2
  exact absurd (q_3.trans (B.2.IG x_1 hi x_2 hk h19 (by omega))) h23
 case a3=>
  have B:=di ((show aV (aO (((0,()),([],0,()),()):bp) l) from aV.done l aV.new)).ok (root:=r) h7;have L:=B.2.len;have hi:x_1 < List.length (aF (aJ (aO (((0,()),([],0,()),()):bp) l)) r).2.1:=(by omega)
  have hk:x_2 < List.length (nth aA (aF (aJ (aO (((0,()),([],0,()),()):bp) l)) r).2.1 x_1).2.2.2.1:=(by omega);have T:=B.2.tie x_1 hi x_2 hk;have Z:=B.2.base x_1 hi;have W3:=B.2.fc x_1 hi;have W1:=T.2.2.1;have W2:=T.2.2.2
  have F:=fY (l:=(aF (aJ (aO (((0,()),([],0,()),()):bp) l)) r).2.1) (s:=(nth aH (nth aA (aF (aJ (aO (((0,()),([],0,()),()):bp) l)) r).2.1 x_1).2.2.2.1 x_2).2.2.2.1) (by omega);have hf:Int.toNat (bo ((aF (aJ (aO (((0,()),([],0,()),()):bp) l)) r).2.1,(nth aH (nth aA (aF (aJ (aO (((0,()),([],0,()),()):bp) l)) r).2.1 x_1).2.2.2.1 x_2).2.2.2.1)).1 < List.length (aF (aJ (aO (((0,()),([],0,()),()):bp) l)) r).2.1:=(by omega);have Y:=B.2.base _ hf;have W4:=B.2.fc _ hf;have S:=B.2.sym _ hf (Int.toNat (bo ((aF (aJ (aO (((0,()),([],0,()),()):bp) l)) r).2.1,(nth aH (nth aA (aF (aJ (aO (((0,()),([],0,()),()):bp) l)) r).2.1 x_1).2.2.2.1 x_2).2.2.2.1)).2) (by omega)
  have A:=yu (B.2.one x_3) (show Int.toNat (bo ((aF (aJ (aO (((0,()),([],0,()),()):bp) l)) r).2.1,(nth aH (nth aA (aF (aJ (aO (((0,()),([],0,()),()):bp) l)) r).2.1 x_1).2.2.2.1 x_2).2.2.2.1)).1 < List.length (cJ (aJ (aO (((0,()),([],0,()),()):bp) l)) r).1 from by omega) (show qi _ _ from (show ∀a b c n:Int,a=b + c->0<=c->n > c->(b<=a/\a < b + n) from by intros;omega) _ _ _ _ h23 S.1 (by rw [W4.1];exact S.2));have E:∀a b c:Int,a=b + c->a - b=c:=(by intros;omega);rw [E _ _ _ h23] at A
  rw [A] at h24
  exact Bool.noConfusion h24
 case a7=>
  have B:=di ((show aV (aO (((0,()),([],0,()),()):bp) l) from aV.done l aV.new)).ok (root:=r) h7;have L:=B.2.len;have hi:x_1 < List.length (aF (aJ (aO (((0,()),([],0,()),()):bp) l)) r).2.1:=(by omega)
  have hk:x_2 < List.length (nth aA (aF (aJ (aO (((0,()),([],0,()),()):bp) l)) r).2.1 x_1).2.2.2.1:=(by omega);have T:=B.2.tie x_1 hi x_2 hk;have Z:=B.2.base x_1 hi;have W3:=B.2.fc x_1 hi;have W1:=T.2.2.1;have W2:=T.2.2.2
  have F:=fY (l:=(aF (aJ (aO (((0,()),([],0,()),()):bp) l)) r).2.1) (s:=(nth aH (nth aA (aF (aJ (aO (((0,()),([],0,()),()):bp) l)) r).2.1 x_1).2.2.2.1 x_2).2.2.2.1) (by omega);have hf:Int.toNat (bo ((aF (aJ (aO (((0,()),([],0,()),()):bp) l)) r).2.1,(nth aH (nth aA (aF (aJ (aO (((0,()),([],0,()),()):bp) l)) r).2.1 x_1).2.2.2.1 x_2).2.2.2.1)).1 < List.length (aF (aJ (aO (((0,()),([],0,()),()):bp) l)) r).2.1:=(by omega);have Y:=B.2.base _ hf;have W4:=B.2.fc _ hf;have S:=B.2.sym _ hf (Int.toNat (bo ((aF (aJ (aO (((0,()),([],0,()),()):bp) l)) r).2.1,(nth aH (nth aA (aF (aJ (aO (((0,()),([],0,()),()):bp) l)) r).2.1 x_1).2.2.2.1 x_2).2.2.2.1)).2) (by omega)
  exact ⟨S.1,(show ∀a b c:Int,b > a->b<=c->a < c from by intros;omega) _ _ _ S.2 (by omega)⟩
 case a8=>
  have B:=di ((show aV (aO (((0,()),([],0,()),()):bp) l) from aV.done l aV.new)).ok (root:=r) h7;have L:=B.2.len;have hi:x_1 < List.length (aF (aJ (aO (((0,()),([],0,()),()):bp) l)) r).2.1:=(by omega)
  have hk:x_2 < List.length (nth aA (aF (aJ (aO (((0,()),([],0,()),()):bp) l)) r).2.1 x_1).2.2.2.1:=(by omega);have T:=B.2.tie x_1 hi x_2 hk;have Z:=B.2.base x_1 hi;have W3:=B.2.fc x_1 hi;have W1:=T.2.2.1;have W2:=T.2.2.2
  have F:=fY (l:=(aF (aJ (aO (((0,()),([],0,()),()):bp) l)) r).2.1) (s:=(nth aH (nth aA (aF (aJ (aO (((0,()),([],0,()),()):bp) l)) r).2.1 x_1).2.2.2.1 x_2).2.2.2.1) (by omega);have hf:Int.toNat (bo ((aF (aJ (aO (((0,()),([],0,()),()):bp) l)) r).2.1,(nth aH (nth aA (aF (aJ (aO (((0,()),([],0,()),()):bp) l)) r).2.1 x_1).2.2.2.1 x_2).2.2.2.1)).1 < List.length (aF (aJ (aO (((0,()),([],0,()),()):bp) l)) r).2.1:=(by omega);have Y:=B.2.base _ hf;have W4:=B.2.fc _ hf;have S:=B.2.sym _ hf (Int.toNat (bo ((aF (aJ (aO (((0,()),([],0,()),()):bp) l)) r).2.1,(nth aH (nth aA (aF (aJ (aO (((0,()),([],0,()),()):bp) l)) r).2.1 x_1).2.2.2.1 x_2).2.2.2.1)).2) (by omega)
  have A:=yu (B.2.one x_3) (show Int.toNat (bo ((aF (aJ (aO (((0,()),([],0,()),()):bp) l)) r).2.1,(nth aH (nth aA (aF (aJ (aO (((0,()),([],0,()),()):bp) l)) r).2.1 x_1).2.2.2.1 x_2).2.2.2.1)).1 < List.length (cJ (aJ (aO (((0,()),([],0,()),()):bp) l)) r).1 from by omega) (show qi _ _ from (show ∀a b c n:Int,a=b + c->0<=c->n > c->(b<=a/\a < b + n) from by intros;omega) _ _ _ _ h23 S.1 (by rw [W4.1];exact S.2));have E:∀a b c:Int,a=b + c->a - b=c:=(by intros;omega);rw [E _ _ _ h23] at A
  rw [A] at h25
  exact absurd rfl h25
 case ad=>
  rw [mB]
  have B:=di ((show aV (aO (((0,()),([],0,()),()):bp) l) from aV.done l aV.new)).ok (root:=r) h7;have L:=B.2.len;have hi:x_1 < List.length (aF (aJ (aO (((0,()),([],0,()),()):bp) l)) r).2.1:=(by omega)
  have W3:=B.2.fc x_1 hi
  exact ⟨by omega,by omega,by omega⟩
 case ae=>
  rw [mB]
  have B:=di ((show aV (aO (((0,()),([],0,()),()):bp) l) from aV.done l aV.new)).ok (root:=r) h7;have L:=B.2.len;have hi:x_1 < List.length (aF (aJ (aO (((0,()),([],0,()),()):bp) l)) r).2.1:=(by omega)
  have W3:=B.2.fc x_1 hi
  omega
 case ag=>
  have B:=di ((show aV (aO (((0,()),([],0,()),()):bp) l) from aV.done l aV.new)).ok (root:=r) h7;have L:=B.2.len;have hi:x_1 < List.length (aF (aJ (aO (((0,()),([],0,()),()):bp) l)) r).2.1:=(by omega)
  have W3:=B.2.fc x_1 hi
  exact ⟨by omega,by omega⟩
 case aj=>
  have B:=di ((show aV (aO (((0,()),([],0,()),()):bp) l) from aV.done l aV.new)).ok (root:=r) h7;have L:=B.2.len;have hi:x_1 < List.length (aF (aJ (aO (((0,()),([],0,()),()):bp) l)) r).2.1:=(by omega)
  rw [FR (by omega)] at h19
  exact absurd (B.2.free x_1 hi x_3 (by omega) h19) h20
 case al|an=>exact ⟨x_3 + 1,by omega,by omega,⟨by omega,trivial⟩,(by trivial)⟩
theorem Tryz.Az:bB Tryz.prog Tryz.B.eT Tryz.X 7 [.slice bP, .str] [.bool] (fun _=>True) (fun _ y=>y=true):=
 bO (X:=Tryz.X) Tryz.Ax Tryz.func7 (by kernel_rfl) (fun x=>wk x.1 x.2) (fun x hw hp=>Ay x.1 x.2 hw)
open Go.ChangeShapes Go.WideShapes Go.ChangeAt Go.RowKit in
theorem Tryz.sz {W:World} (hL:laidMetH Tryz.prog Rows.topBoundRow.laid W) (hsh:W.ShapedOpen Tryz.prog):Tryz.H6 W:=by
 rw [MakeChecks.laidMetH_plain _ _ _ (by kernel_rfl)] at hL
 exact ⟨yr (g:=1) (t:=242) (e:=23) (n:=20) (by kernel_rfl) (by kernel_rfl) (by kernel_rfl) (by kernel_rfl) (by kernel_rfl) (by kernel_rfl) ((show (Rows.laid_internal_strconv_uint64pow10:DataW Unit)=Lib.tabData .u64 Lib.pow10Tab from by kernel_rfl)▸Lib.laidMet.reads hL (.tail _ (.tail _ (.head _)))),
  yq (g:=0) (t:=3) (zero:=#[.int .i64 0]) hsh (of_decide_eq_true (by kernel_rfl)) (by kernel_rfl) rfl (by kernel_rfl) (by kernel_rfl) (by kernel_rfl),
  nG (g:=4) (t:=36) (by kernel_rfl) (by kernel_rfl) (by kernel_rfl) (Lib.laidMet.reads hL (.tail _ (.tail _ (.tail _ (.tail _ (.tail _ (.head _))))))),
  nG (g:=5) (t:=36) (by kernel_rfl) (by kernel_rfl) (by kernel_rfl) (Lib.laidMet.reads hL (.tail _ (.tail _ (.tail _ (.tail _ (.head _))))))⟩
open Go.ChangeShapes Go.WideShapes Go.ChangeAt Go.RowKit in
set_option maxRecDepth 100000 in
theorem tX (os:Os) (started:os.Started) (H:Type) (enc:TypeId × Value->H) :
  ReturnsInHanded {} Tryz.checked os 7 .any (fun w args=>(Rows.topBoundSpec.pre enc Tryz.prog Tryz.f7 [] false w args/\laidMetH Tryz.prog Rows.topBoundRow.laid w)/\sizedMet enc Tryz.prog Tryz.f7 (OpenSpec.ofChange Rows.topBoundSpec) false w args) (Rows.topBoundSpec.post enc Tryz.prog Tryz.f7 false true false false):=by
 refine Ae (C:=Tryz.checked) (X:=fun w _=>laidMetH Tryz.prog Rows.topBoundRow.laid w) (fun _ _ _ hh h=>h.of_heap hh) (by kernel_rfl) started (by kernel_rfl) Tryz.func7
  (ChangeSpec.witness_shaped (enc:=enc) (C:=Tryz.checked) (os:=os) (X:=fun w _=>laidMetH Tryz.prog Rows.topBoundRow.laid w) false (World.laidAll Tryz.prog os Rows.topBoundRow.laid) #[.slice none 0 0, .string ⟨#[]⟩] 8 (World.laidAll_os _ _ _) (World.shaped_of_ZipB (by kernel_rfl) (by kernel_rfl)) (by kernel_rfl) (by kernel_rfl) (by kernel_rfl)
   (by rw [MakeChecks.laidMetH_plain _ _ _ (by kernel_rfl)];exact laidMet_laidAll _ (by kernel_rfl) (by kernel_rfl))) ?_
 intro W base args ds gs before hval hW hL hsh
 exact Dz (C:=Tryz.checked) (n:=16) rfl (by kernel_rfl) (fun ds h=>by match ds,h with | [_,_],_=>rfl) (by kernel_rfl) (by kernel_rfl) (by kernel_rfl) (tb:=4) (by kernel_rfl) Tryz.Az hval hW (Tryz.sz hL hsh) (fun _ _=>trivial)
open Go.ChangeShapes Go.WideShapes Go.ChangeAt Go.RowKit in
theorem wC:Rows.TopBoundSaid:=
 OpenClaim.holds_of_wide 7 Tryz.f7 rfl rfl rfl rfl rfl rfl rfl ⟨rfl,rfl,rfl,rfl,rfl⟩ rfl rfl rfl rfl rfl (by kernel_rfl) Tryz.func7 (by kernel_rfl)
  (of_decide_eq_true (by kernel_rfl)) (by unfold Func.isWrapper;first | (rw [if_pos (by decide +kernel)];kernel_rfl) | (rw [if_neg (by decide +kernel)];exact ⟨rfl,rfl⟩))
  (fun os started H enc _=>tX os started H enc)
theorem topBound_holds:Rows.TopBoundCardSaid:=
 Claim7.holds_tied_plain_at .later [] [.data, .data, .data, .data, .sentinel, .sentinel, .pinned] true (true,"6a9693e68608825ffcfea3137400340b6490202206f494b6fbc4e452f2b457e4") true
  wC (fun _ h=>by cases h) (by kernel_rfl) (fun _ h=>by cases h) topBound_row_tie rfl ⟨rfl,rfl⟩ (by kernel_rfl) rfl
  (fun f fn hf hfn=>by
   obtain rfl:f=7:=Option.some.inj ((show Tryz.prog.funcNamed Rows.topBoundRow.func=some 7 by kernel_rfl).symm.trans hf) |>.symm
   obtain rfl:fn=Tryz.f7:=(Option.some.inj (Tryz.func7.symm.trans hfn)).symm
   exact ⟨by kernel_rfl,fun j t ht=>by
    have hall:(Tryz.f7.params.toList.all fun t => !Tryz.prog.wantsStandIn t)=true:=by kernel_rfl
    have hm:t∈Tryz.f7.params.toList:=Array.mem_def.1 (Array.mem_of_getElem? ht)
    exact (by simpa using List.all_eq_true.1 hall t hm:Tryz.prog.wantsStandIn t=false)⟩)
  (by kernel_rfl)
#print axioms topBound_holds
end Go.Proofs.YtgokjhhcfemnhacGreatDoor

