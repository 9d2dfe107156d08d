/- A part of the proof that the law TopShiftCard holds of the given program: facts that are used there. -/
import Derived.Test.YtgokjhhcfemnhacGreatDoorPart4
import Derived.Test.YtgokjhhcfemnhacGreatDoorRows
import Derived.Test.YtgokjhhcfemnhacGreatDoorTie
import Derived.Test.YtgokjhhcfemnhacGreatDoorCards
import Derived.LaidMore
set_option linter.unusedSimpArgs false
set_option linter.unusedVariables false
set_option maxRecDepth 100000
set_option maxHeartbeats 4000000
namespace Go.Proofs.YtgokjhhcfemnhacGreatDoor
open Go.Vg Go.Mrl
noncomputable def Tryz.zP:List (FuncId × (Bool × bq)):=[(76,(true,aN [.str] [.err] (fun _=>True) (fun s=>aY (aK s)))),
 (99,(true,aN [.str] [.int .i64] (fun _=>True) (fun s=>aK s))),
 (21,(true,aN [.err] [.int .i64] (fun _=>True) (fun e=>cg e))),
 (82,(true,iv [.slice aA] [.bool] (fun _=>True) (fun l y=>y=true->iH l))),
 (70,(true,aN [aA] [.err] (fun _=>True) (fun o=>aY (bk o))))]
theorem Tryz.Dj:bF Tryz.prog Tryz.B Tryz.X Tryz.zP:=
 aX (aE Tryz.eK) (aX (aE Tryz.cL) (aX (aE Tryz.dR) (aX (dW Tryz.lQ) (aX (aE Tryz.uu) (bU Tryz.bW)))))
def zQ (l:List (D aA)):ch:=[
 (0,fun st=>{X:=Nat,inv:=fun i=>i<=List.length l/\∀j,j < i->bk (nth aA l j)=0,bx:=fun i=>List.length l - i,bd:=fun i=>[(3,sI i)],bg:=[0]})]
theorem EN (l:List (D aA)) (hw:dD [.slice aA] l):(cf Tryz.B Tryz.zP Tryz.f38 (zQ l) [.slice aA] [.bool] (fun l y=>y=true->cr l) l).holds:=by
 refine holds_of (p:=
  let za:=false=true->cr l
  let zb:=List.length l
  (True)/\(∀x_0:Bool,((x_0=true->iH l)->(((!x_0)=true->(za))/\((!x_0)=false->(∃(x:Nat),(x<=zb/\∀(j:Nat),j < x->bk (nth aA l j)=(0:Int))/\((0:Int)=(↑x:Int)/\True)/\True)/\(∀x_1:Nat,((x_1<=zb/\∀(j:Nat),j < x_1->bk (nth aA l j)=(0:Int))->((zb<=aI)->(((decide ((↑x_1:Int) < (↑zb:Int)))=true->((0:Int)<=(↑x_1:Int)/\(↑x_1:Int) < (↑zb:Int))/\(True)/\(((!aU.isNil (aY (bk (nth aA l x_1))))=true->(za))/\((!aU.isNil (aY (bk (nth aA l x_1))))=false->((aM (↑x_1:Int))->((aM (1:Int))->(aM ((↑x_1:Int) + (1:Int)))/\(∃(x':Nat),(x'<=zb/\∀(j:Nat),j < x'->bk (nth aA l j)=(0:Int))/\zb - x' < zb - x_1/\((↑x_1:Int) + (1:Int)=(↑x':Int)/\True)/\True))))))/\((decide ((↑x_1:Int) < (↑zb:Int)))=false->(true=true->cr l))))))))))) (by kernel_rfl) ?_
 dsimp -iota -proj -eta only
 refine ⟨trivial,fun x_0 q_0=>iB (fun h0 => ?a) (fun h0=>⟨(⟨0,⟨by omega,fun j hj=>absurd hj (Nat.not_lt_zero _)⟩,⟨rfl,trivial⟩,trivial⟩),fun x_1 q_1 h1=>iL (fun h2=>⟨(by omega),trivial,iB (fun h3 => ?b) (fun h3 h4 h5=>⟨(by simp only [aM,aI] at *;omega),(⟨x_1 + 1,⟨by omega,jR q_1.2 (aZ.1 (by assumption))⟩,by omega,⟨by omega,trivial⟩,(by trivial)⟩)⟩)⟩) (fun h2=>(fun _=>CL (q_0 (by assumption)) fun j hj=>q_1.2 j (by omega)))⟩)⟩
 case a|b=>simp_all
theorem Tryz.EO:bu Tryz.prog Tryz.B.eT Tryz.X 38 [.slice aA] [.bool] (fun _=>True) (fun l y=>y=true->cr l):=
 bH (X:=Tryz.X) Tryz.Dj Tryz.func38 (by kernel_rfl) (fun x=>zQ x) (fun x hw hp=>EN x hw)
noncomputable def Tryz.xw:List (FuncId × (Bool × bq)):=[(76,(true,aN [.str] [.err] (fun _=>True) (fun s=>aY (aK s)))),
 (99,(true,aN [.str] [.int .i64] (fun _=>True) (fun s=>aK s))),
 (21,(true,aN [.err] [.int .i64] (fun _=>True) (fun e=>cg e))),
 (26,(true,aN [] [.bool] (fun _=>True) (fun _=>true))),
 (38,(true,iv [.slice aA] [.bool] (fun _=>True) (fun l y=>y=true->cr l))),
 (35,(true,aN [.slice aA, .slice (.int .i64)] [.slice aT, .err] (fun x=>cr x.1) (fun x=>br x))),
 (39,(true,aN [.slice aA, .str] [.int .i64, .int .i64] (fun _=>True) (fun x=>bo x)))]
theorem Tryz.Bt:bF Tryz.prog Tryz.B Tryz.X Tryz.xw:=
 aX (aE Tryz.eK) (aX (aE Tryz.cL) (aX (aE Tryz.dR) (aX (aE Tryz.EM) (aX (dW Tryz.EO) (aX (aE Tryz.C8) (aX (aE Tryz.xn) (bU Tryz.bW)))))))
noncomputable def xx (l:List (D aA)) (b:List Int) (d:Int):ch:=[
 (0,fun st=>{X:=Nat,inv:=fun i=>i<=List.length b/\∀j,j < i->(0:Int)<=nth (.int .i64) b j/\nth (.int .i64) b j + d<=(256:Int),bx:=fun i=>List.length b - i,bd:=fun i=>[(9,sI i),(8, .s (.one (.app (.int .i64) (ct (List.take i b) d) (bA st 8))))],aC:=fun i=>[(bA st 8, .tok (.int .i64) (ct (List.take i b) d))],bg:=[0,1,2],eI:=[bA st 8]}),
 (2,fun st=>{X:=Nat,inv:=fun i=>i<=List.length l,bx:=fun i=>List.length l - i,bd:=fun i=>[(15,sI i),(14,sI (cN l i))],bg:=[0,2,10,12]}),
 (4,fun st=>{X:=Nat,inv:=fun k=>k<=List.length (nth aA l (b5 (.int .i64) st 15).toNat).2.2.2.1,bx:=fun k=>List.length (nth aA l (b5 (.int .i64) st 15).toNat).2.2.2.1 - k,bd:=fun k=>[(16,sI k),(14,sI ((cN l (b5 (.int .i64) st 15).toNat:Int) + (k:Int)))],bg:=[0,2,10,12,15,116,117,118,119]}),
 (400030,fun st=>{X:=Int,inv:=fun w=>w=(if (nth aJ (nth aA l (Int.toNat (b5 (.int .i64) st 15))).2.2.2.1 (Int.toNat (b5 (.int .i64) st 16))).2.1=(3:Int) then 0 else d),bx:=fun _=>0,bd:=fun w=>[(20,sI w)],bg:=[0,2,6,10,12,14,15,16,17,18,116,117,118,119,122,123,124,125,126,127,128,129,132,133,134,135,136,137,138,139,140,141,142,143,144,145,146,147,148,149,150]}),
 (400032,fun st=>{X:=Int,inv:=fun w=>w=jn l d (nth aJ (nth aA l (Int.toNat (b5 (.int .i64) st 15))).2.2.2.1 (Int.toNat (b5 (.int .i64) st 16))),bx:=fun _=>0,bd:=fun w=>[(20,sI w)],bg:=[0,2,6,10,12,14,15,16,17,18,116,117,118,119,122,123,124,125,126,127,128,129,132,133,134,135,136,137,138,139,140,141,142,143,144,145,146,147,148,149,150,151,152,153,154,155,156,157]})]
theorem yw (l:List (D aA)) (b:List Int) (d:Int) (hw:dD [.slice aA, .slice (.int .i64), .int .i64] (l,b,d)):(cf (Aw Tryz.B) Tryz.xw Tryz.f5 (xx l b d) [.slice aA, .slice (.int .i64), .int .i64] [.bool] (fun _ y=>y=true) (l,b,d)).holds:=by
 refine holds_of (p:=
  let za:=false=true
  let zb:=cr l
  let zc:=true=true
  let zd:=List.length b
  let ze:=List.length l
  let zf:=Ty.int IntKind.i64
  let zg:=fun (x_1:Nat)=>(↑x_1:Int)
  let zh:=fun (x_1:Nat)=>(0:Int)<=zg x_1
  let zi:=fun (x_1:Nat)=>zh x_1/\zg x_1 < (↑zd:Int)
  let zj:=fun (x_1:Nat)=>ct (List.take x_1 b) d
  let zk:=fun (x_4:Int) (x_1:Nat)=>x_4=IntKind.wrap IntKind.i64 (zg x_1 + (1:Int))
  let zl:=(br (l,b)).2
  let zm:=fun (x_1:Nat)=>(True)/\(True)/\(((cg zl == cg (br (l,zj x_1)).2)=true->(zc))/\((cg zl == cg (br (l,zj x_1)).2)=false->(True)/\(((cg zl == (7:Int))=true->(zc))/\((cg zl == (7:Int))=false->(True)/\((cg (br (l,zj x_1)).2 == (7:Int))=true)))))
  let zn:=(br (l,b)).1
  let zo:=List.length zn<=aI
  let zp:=(↑(List.length zn):Int)
  let zq:=fun (x_1:Nat)=>(↑(List.length (br (l,zj x_1)).1):Int)
  let zr:=fun (x_2:Nat)=>List.length (nth aA l x_2).2.2.2.1
  let zs:=fun (x_2:Nat)=>(↑(cN l x_2):Int)
  let zt:=fun (x_2:Nat)=>zh x_2/\zg x_2 < (↑ze:Int)
  let zu:=fun (x_2 x_3:Nat)=>nth aJ (nth aA l x_2).2.2.2.1 x_3
  let zv:=fun (x_2 x_3:Nat)=>if (zu x_2 x_3).2.1=(3:Int) then (0:Int) else d
  let zw:=fun (x_1:Nat)=>zj x_1=zj x_1/\True
  let zx:=fun (x_2 x_3 x_1:Nat)=>((zu x_2 x_3).1=(zu x_2 x_3).1/\(zu x_2 x_3).2.1=(zu x_2 x_3).2.1/\(zu x_2 x_3).2.2.1=(zu x_2 x_3).2.2.1/\(zu x_2 x_3).2.2.2.1=(zu x_2 x_3).2.2.2.1/\(zu x_2 x_3).2.2.2.2.1=(zu x_2 x_3).2.2.2.2.1/\True)/\zw x_1
  let zy:=fun (x_2 x_3:Nat) (x_4:Int) (x_1:Nat)=>∃(x':Int),x'=jn l d (zu x_2 x_3)/\(x_4=x'/\True)/\zx x_2 x_3 x_1
  let zz:=fun (x_2 x_3:Nat)=>zs x_2 + zg x_3
  let zaa:=fun (x_2 x_3:Nat)=>(0:Int)<=zz x_2 x_3/\zz x_2 x_3 < zp
  let zab:=fun (x_2 x_3 x_1:Nat)=>(0:Int)<=zz x_2 x_3/\zz x_2 x_3 < zq x_1
  let zac:=fun (x_2:Nat) (x_3:Nat) (x_1:Nat)=>(∀x_5:Int,((x_5=jn l d (zu x_2 x_3))->(zaa x_2 x_3)/\((((nth aT zn (Int.toNat (zz x_2 x_3))).1 != zg x_2)=true->(za))/\(((nth aT zn (Int.toNat (zz x_2 x_3))).1 != zg x_2)=false->(zaa x_2 x_3)/\((((nth aT zn (Int.toNat (zz x_2 x_3))).2.1 != (zu x_2 x_3).1)=true->(za))/\(((nth aT zn (Int.toNat (zz x_2 x_3))).2.1 != (zu x_2 x_3).1)=false->(zab x_2 x_3 x_1)/\((((nth aT (br (l,zj x_1)).1 (Int.toNat (zz x_2 x_3))).1 != zg x_2)=true->(za))/\(((nth aT (br (l,zj x_1)).1 (Int.toNat (zz x_2 x_3))).1 != zg x_2)=false->(zab x_2 x_3 x_1)/\((((nth aT (br (l,zj x_1)).1 (Int.toNat (zz x_2 x_3))).2.1 != (zu x_2 x_3).1)=true->(za))/\(((nth aT (br (l,zj x_1)).1 (Int.toNat (zz x_2 x_3))).2.1 != (zu x_2 x_3).1)=false->(zab x_2 x_3 x_1)/\(zaa x_2 x_3)/\(∀x_6:Int,((x_6=IntKind.wrap IntKind.i64 ((nth aT zn (Int.toNat (zz x_2 x_3))).2.2.1 + x_5))->((((nth aT (br (l,zj x_1)).1 (Int.toNat (zz x_2 x_3))).2.2.1 != x_6)=true->(za))/\(((nth aT (br (l,zj x_1)).1 (Int.toNat (zz x_2 x_3))).2.2.1 != x_6)=false->(∀x_7:Int,((x_7=IntKind.wrap IntKind.i64 (zz x_2 x_3 + (1:Int)))->(∀x_8:Int,((zk x_8 x_3)->(∃(x':Nat),x'<=zr x_2/\zr x_2 - x' < zr x_2 - x_3/\(x_8=(↑x':Int)/\x_7=zs x_2 + (↑x':Int)/\True)/\zw x_1)))))))))))))))))))
  (True)/\(((!true)=true->(za))/\((!true)=false->(True)/\(∀x_0:Bool,((x_0=true->zb)->(((!x_0)=true->(zc))/\((!x_0)=false->((zd<=aI)->((ze<=aI)->((((↑zd:Int) != (↑ze:Int))=true->(zc))/\(((↑zd:Int) != (↑ze:Int))=false->(((decide (d < (0:Int)))=true->(zc))/\((decide (d < (0:Int)))=false->(((decide (d > (256:Int)))=true->(zc))/\((decide (d > (256:Int)))=false->(∃(x:Nat),(x<=zd/\∀(j:Nat),j < x->(0:Int)<=nth zf b j/\nth zf b j + d<=(256:Int))/\((0:Int)=(↑x:Int)/\@List.nil Int=ct (List.take x b) d/\True)/\@List.nil Int=ct (List.take x b) d/\True)/\(∀x_1:Nat,((x_1<=zd/\∀(j:Nat),j < x_1->(0:Int)<=nth zf b j/\nth zf b j + d<=(256:Int))->((zd<=aI)->(((decide (zg x_1 < (↑zd:Int)))=true->(zi x_1)/\(((decide (nth zf b x_1 < (0:Int)))=true->(zc))/\((decide (nth zf b x_1 < (0:Int)))=false->(zi x_1)/\(∀x_2:Int,((x_2=IntKind.wrap IntKind.i64 (nth zf b x_1 + d))->(((decide (x_2 > (256:Int)))=true->(zc))/\((decide (x_2 > (256:Int)))=false->(zi x_1)/\(((decide (nth zf b x_1 > (256:Int)))=true->(zc))/\((decide (nth zf b x_1 > (256:Int)))=false->(zi x_1)/\(∀x_3:Int,((x_3=IntKind.wrap IntKind.i64 (nth zf b x_1 + d))->(zj x_1=zj x_1/\List.length (zj x_1) + List.length [x_3]<=(1000000000:Nat))/\(∀x_4:Int,((zk x_4 x_1)->(∃(x':Nat),(x'<=zd/\∀(j:Nat),j < x'->(0:Int)<=nth zf b j/\nth zf b j + d<=(256:Int))/\zd - x' < zd - x_1/\(x_4=(↑x':Int)/\zj x_1++[x_3]=ct (List.take x' b) d/\True)/\zj x_1++[x_3]=ct (List.take x' b) d/\True))))))))))))))/\((decide (zg x_1 < (↑zd:Int)))=false->(zb)/\(zb)/\(((!aU.isNil zl)=true->(zm x_1))/\((!aU.isNil zl)=false->(((!aU.isNil (br (l,zj x_1)).2)=true->(zm x_1))/\((!aU.isNil (br (l,zj x_1)).2)=false->((zo)->((List.length (br (l,zj x_1)).1<=aI)->(((zp != zq x_1)=true->(za))/\((zp != zq x_1)=false->(∃(x:Nat),x<=ze/\((0:Int)=(↑x:Int)/\(0:Int)=(↑(cN l x):Int)/\True)/\True)/\(∀x_2:Nat,((x_2<=ze)->((ze<=aI)->(((decide (zg x_2 < (↑ze:Int)))=true->(∃(x:Nat),x<=zr x_2/\((0:Int)=(↑x:Int)/\zs x_2=zs x_2 + (↑x:Int)/\True)/\True)/\(∀x_3:Nat,((x_3<=zr x_2)->(zt x_2)/\((zr x_2<=aI)->(((decide (zg x_3 < (↑(zr x_2):Int)))=true->(zt x_2)/\(zh x_3/\zg x_3 < (↑(zr x_2):Int))/\(True)/\((((((zu x_2 x_3).2.1 == (3:Int))=true->(∃(x':Int),x'=zv x_2 x_3/\((0:Int)=x'/\True)/\zx x_2 x_3 x_1))/\(((zu x_2 x_3).2.1 == (3:Int))=false->(∃(x':Int),x'=zv x_2 x_3/\(d=x'/\True)/\zx x_2 x_3 x_1))))/\((∀x_4:Int,((x_4=zv x_2 x_3)->((((zu x_2 x_3).2.1 != (1:Int))=true->(((((decide ((bo (l,(zu x_2 x_3).2.2.2.1)).1 < (0:Int)))=true->((aM x_4)->((aM d)->(aM (x_4 - d))/\(∃(x':Int),x'=jn l d (zu x_2 x_3)/\(x_4 - d=x'/\True)/\zx x_2 x_3 x_1))))/\((decide ((bo (l,(zu x_2 x_3).2.2.2.1)).1 < (0:Int)))=false->(zy x_2 x_3 x_4 x_1))))/\((zac x_2 x_3 x_1))))/\(((zu x_2 x_3).2.1 != (1:Int))=false->(((zy x_2 x_3 x_4 x_1))/\((zac x_2 x_3 x_1))))))))))/\((decide (zg x_3 < (↑(zr x_2):Int)))=false->(∀x_4:Int,((zk x_4 x_2)->(∃(x':Nat),x'<=ze/\ze - x' < ze - x_2/\(x_4=(↑x':Int)/\zz x_2 x_3=(↑(cN l x'):Int)/\True)/\zw x_1)))))))))/\((decide (zg x_2 < (↑ze:Int)))=false->((zo)->((zs x_2 == zp)=true))))))))))))))))))))))))))))))))))) (by kernel_rfl) ?_
 dsimp -iota -proj -eta only
 refine ⟨trivial,⟨fun h0=>absurd (show false=true from h0) (by decide),fun h0=>⟨trivial,fun x_0 q_0=>iB (fun h1=>rfl) (fun h1 h2 h3=>iN (fun h4=>rfl) (fun h4=>iL (fun h5=>rfl) (fun h5=>iL (fun h6=>rfl) (fun h6=>⟨(⟨0,⟨Nat.zero_le _,fun j hj=>absurd hj (Nat.not_lt_zero _)⟩,⟨rfl,rfl,trivial⟩,rfl,(by trivial)⟩),fun x_1 q_1 h7=>iL (fun h8=>⟨?a,iL (fun h9=>rfl) (fun h9=>⟨?b,fun x_2 q_2=>iL (fun h10=>rfl) (fun h10=>⟨?c,iL (fun h11=>rfl) (fun h11=>⟨?d,fun x_3 q_3=>⟨(by exact ⟨rfl,by rw [nH,List.length_take];have:=(q_0 h1).1;simp only [List.length_singleton];omega⟩),fun x_4 q_4 => ?e⟩⟩)⟩)⟩)⟩) (fun h8=>⟨?f,?g,iB (fun h9=>⟨trivial,trivial,iQ (fun h10=>rfl) (fun h10=>⟨trivial,iQ (fun h11=>rfl) (fun h11=>⟨trivial,?h⟩)⟩)⟩) (fun h9=>iB (fun h10=>⟨trivial,trivial,iQ (fun h11=>rfl) (fun h11=>⟨trivial,iQ (fun h12=>rfl) (fun h12=>⟨trivial,?i⟩)⟩)⟩) (fun h10 h11 h12=>iN (fun h13=>(by rw [pa h9,pa h10] at h13;exact absurd rfl h13)) (fun h13=>⟨(⟨0,Nat.zero_le _,⟨rfl,rfl,trivial⟩,(by trivial)⟩),fun x_2 q_2 h14=>iL (fun h15=>⟨(⟨0,Nat.zero_le _,⟨rfl,(Int.add_zero _).symm,trivial⟩,(by trivial)⟩),fun x_3 q_3=>⟨?j,fun h16=>iL (fun h17=>⟨?k,?l,trivial,⟨iQ (fun h18 => ?m) (fun h18 => ?n),fun x_4 q_4=>iN (fun h18=>⟨iL (fun h19 h20 h21=>⟨(by simp only [aM,aI] at *;omega),(by exact ⟨_,by rw [q_4];unfold jn;rw [if_pos (c:=_/\_) ⟨h18,h19⟩],⟨rfl,trivial⟩,(by trivial)⟩)⟩) (fun h19=>(by exact ⟨_,by rw [q_4];unfold jn;rw [if_neg (c:=_/\_) (fun e=>Int.not_lt.2 h19 e.2),Int.sub_zero],⟨rfl,trivial⟩,(by trivial)⟩)),fun x_5 q_5=>⟨?o,iN (fun h19 => ?p) (fun h19=>⟨?q,iN (fun h20 => ?r) (fun h20=>⟨?s,iN (fun h21 => ?t) (fun h21=>⟨?u,iN (fun h22 => ?v) (fun h22=>⟨?w,?x,fun x_6 q_6=>iN (fun h23 => ?y) (fun h23 x_7 q_7 x_8 q_8 => ?z)⟩)⟩)⟩)⟩)⟩⟩) (fun h18=>⟨?a0,fun x_5 q_5=>⟨?a1,iN (fun h19 => ?a2) (fun h19=>⟨?a3,iN (fun h20 => ?a4) (fun h20=>⟨?a5,iN (fun h21 => ?a6) (fun h21=>⟨?a7,iN (fun h22 => ?a8) (fun h22=>⟨?a9,?aa,fun x_6 q_6=>iN (fun h23 => ?ab) (fun h23 x_7 q_7 x_8 q_8 => ?ac)⟩)⟩)⟩)⟩)⟩⟩)⟩⟩) (fun h17 x_4 q_4 => ?ad)⟩⟩) (fun h15 h16=>(by rw [show x_2=List.length l by omega,pa h9];simp))⟩)))⟩)⟩))))⟩⟩⟩
 case a|b|c|d|j|k|l=>omega
 case e=>
  have ws:=Eo h9 h11 h5 h6
  have e2:x_2=nth (.int .i64) b x_1 + d:=q_2.trans ws
  have e3:x_3=nth (.int .i64) b x_1 + d:=q_3.trans ws
  have w4:x_4=(x_1:Int) + 1:=(by rw [q_4];exact dX (by omega) (by have e:(aI:Int)=9223372036854775807:=rfl;omega))
  have em:ct (List.take x_1 b) d++[x_3]=ct (List.take (x_1 + 1) b) d:=(by rw [e3];exact yb (by omega))
  exact ⟨x_1 + 1,⟨by omega,jR q_1.2 ⟨h9,e2▸h10⟩⟩,by omega,⟨by omega,em,trivial⟩,em,(by trivial)⟩
 case f|g|m|n=>simp_all
 case h|i=>exact beq_iff_eq.2 (((CI (by omega:List.length b=List.length l) ((CM (by omega:¬ x_1 < List.length b)).trans (by omega:List.length b=List.length l)) ((wS h5 (by omega:¬ x_1 < List.length b) q_1.2)).1 ((wS h5 (by omega:¬ x_1 < List.length b) q_1.2)).2).resolve_left (by assumption)).resolve_left (by assumption))
 case o|q|s|u|w|x|a1|a3|a5|a7|a9|aa=>have hs:=(iz (d:=d) (by omega:List.length b=List.length l) (by omega:¬ x_1 < List.length b) h9 h10 (i:=x_2) (k:=x_3) (by omega) (by omega) (j:=Int.toNat ((cN l x_2:Int) + (x_3:Int))) (by omega));have h1:=hs.1;have h2:=hs.2.1;omega
 case p|a2=>exact absurd ((iz (d:=d) (by omega:List.length b=List.length l) (by omega:¬ x_1 < List.length b) h9 h10 (i:=x_2) (k:=x_3) (by omega) (by omega) (j:=Int.toNat ((cN l x_2:Int) + (x_3:Int))) (by omega))).2.2.1 h19
 case r|a4=>exact absurd ((iz (d:=d) (by omega:List.length b=List.length l) (by omega:¬ x_1 < List.length b) h9 h10 (i:=x_2) (k:=x_3) (by omega) (by omega) (j:=Int.toNat ((cN l x_2:Int) + (x_3:Int))) (by omega))).2.2.2.1 h20
 case t|a6=>exact absurd ((iz (d:=d) (by omega:List.length b=List.length l) (by omega:¬ x_1 < List.length b) h9 h10 (i:=x_2) (k:=x_3) (by omega) (by omega) (j:=Int.toNat ((cN l x_2:Int) + (x_3:Int))) (by omega))).2.2.2.2.1 h21
 case v|a8=>exact absurd ((iz (d:=d) (by omega:List.length b=List.length l) (by omega:¬ x_1 < List.length b) h9 h10 (i:=x_2) (k:=x_3) (by omega) (by omega) (j:=Int.toNat ((cN l x_2:Int) + (x_3:Int))) (by omega))).2.2.2.2.2.1 h22
 case y|ab=>exact absurd (((iz (d:=d) (by omega:List.length b=List.length l) (by omega:¬ x_1 < List.length b) h9 h10 (i:=x_2) (k:=x_3) (by omega) (by omega) (j:=Int.toNat ((cN l x_2:Int) + (x_3:Int))) (by omega))).2.2.2.2.2.2.trans (by rw [q_6,q_5])) h23
 case z|ac=>
  have w7:x_7=(cN l x_2:Int) + (x_3:Int) + 1:=(by rw [q_7];exact dX (by omega) (by have hs:=((iz (d:=d) (by omega:List.length b=List.length l) (by omega:¬ x_1 < List.length b) h9 h10 (i:=x_2) (k:=x_3) (by omega) (by omega) (j:=Int.toNat ((cN l x_2:Int) + (x_3:Int))) (by omega))).1;have hb:=(by assumption:List.length l<=aI);have e:(aI:Int)=9223372036854775807:=rfl;omega))
  have w8:x_8=(x_3:Int) + 1:=(by rw [q_8];exact dX (by omega) (by have e:(aI:Int)=9223372036854775807:=rfl;omega))
  exact ⟨x_3 + 1,by omega,by omega,⟨by omega,by omega,trivial⟩,(by trivial)⟩
 case a0=>
  have hn:¬ (¬ (nth aJ (nth aA l x_2).2.2.2.1 x_3).2.1=(1:Int)/\(bo (l,(nth aJ (nth aA l x_2).2.2.2.1 x_3).2.2.2.1)).1 < 0):=fun e=>e.1 h18
  exact ⟨_,by rw [q_4];unfold jn;rw [if_neg hn,Int.sub_zero],⟨rfl,trivial⟩,(by trivial)⟩
 case ad=>
  have w4:x_4=(x_2:Int) + 1:=(by rw [q_4];exact dX (by omega) (by have e:(aI:Int)=9223372036854775807:=rfl;omega))
  exact ⟨x_2 + 1,by omega,by omega,⟨by omega,by show _=((cN l x_2 + (nth aA l x_2).2.2.2.1.length:Nat):Int);omega,trivial⟩,(by trivial)⟩
theorem Tryz.yx:bu Tryz.prog Tryz.B.eT Tryz.X 5 [.slice aA, .slice (.int .i64), .int .i64] [.bool] (fun _=>True) (fun _ y=>y=true):=
 bH (B:=(Aw Tryz.B)) (X:=Tryz.X) (bF.wrap Tryz.Bt) Tryz.func5 (by kernel_rfl) (fun x=>xx x.1 x.2.1 x.2.2) (fun x hw hp=>yw x.1 x.2.1 x.2.2 hw)
open Go.ChangeShapes Go.WideShapes Go.ChangeAt Go.RowKit in
theorem Tryz.qY {W:World} (hL:laidMetH Tryz.prog Rows.topShiftRow.laid W) (hsh:W.ShapedOpen Tryz.prog):Tryz.Gv W:=by
 rw [MakeChecks.laidMetH_plain _ _ _ (by kernel_rfl)] at hL
 exact ⟨wP (g:=1) (t:=242) (e:=23) (n:=20) (by kernel_rfl) (by kernel_rfl) (by kernel_rfl) (by kernel_rfl) (by kernel_rfl) (by kernel_rfl) ((show (Rows.laid_internal_strconv_uint64pow10:DataW Unit)=Lib.tabData .u64 Lib.pow10Tab from by kernel_rfl)▸Lib.laidMet.reads hL (.tail _ (.tail _ (.head _)))),
  wO (g:=0) (t:=3) (zero:=#[.int .i64 0]) hsh (of_decide_eq_true (by kernel_rfl)) (by kernel_rfl) rfl (by kernel_rfl) (by kernel_rfl) (by kernel_rfl),
  mI (g:=4) (t:=36) (by kernel_rfl) (by kernel_rfl) (by kernel_rfl) (Lib.laidMet.reads hL (.tail _ (.tail _ (.tail _ (.tail _ (.tail _ (.head _))))))),
  mI (g:=5) (t:=36) (by kernel_rfl) (by kernel_rfl) (by kernel_rfl) (Lib.laidMet.reads hL (.tail _ (.tail _ (.tail _ (.tail _ (.head _))))))⟩
open Go.ChangeShapes Go.WideShapes Go.ChangeAt Go.RowKit in
set_option maxRecDepth 100000 in
theorem sj (os:Os) (started:os.Started) (H:Type) (enc:TypeId × Value->H) :
  ReturnsInHanded {} Tryz.checked os 5 .any (fun w args=>(Rows.topShiftSpec.pre enc Tryz.prog Tryz.f5 [] false w args/\laidMetH Tryz.prog Rows.topShiftRow.laid w)/\sizedMet enc Tryz.prog Tryz.f5 (OpenSpec.ofChange Rows.topShiftSpec) false w args) (Rows.topShiftSpec.post enc Tryz.prog Tryz.f5 false true false false):=by
 refine ya (C:=Tryz.checked) (X:=fun w _=>laidMetH Tryz.prog Rows.topShiftRow.laid w) (fun _ _ _ hh h=>h.of_heap hh) (by kernel_rfl) started (by kernel_rfl) Tryz.func5
  (ChangeSpec.witness_shaped (enc:=enc) (C:=Tryz.checked) (os:=os) (X:=fun w _=>laidMetH Tryz.prog Rows.topShiftRow.laid w) false (World.laidAll Tryz.prog os Rows.topShiftRow.laid) #[.slice none 0 0, .slice none 0 0, .int .i64 0] 8 (World.laidAll_os _ _ _) (World.shaped_of_ZipB (by kernel_rfl) (by kernel_rfl)) (by kernel_rfl) (by kernel_rfl) (by kernel_rfl)
   (by rw [MakeChecks.laidMetH_plain _ _ _ (by kernel_rfl)];exact laidMet_laidAll _ (by kernel_rfl) (by kernel_rfl))) ?_
 intro W base args ds gs before hval hW hL hsh
 exact B5 (C:=Tryz.checked) (n:=16) rfl (by kernel_rfl) (fun ds h=>by match ds,h with | [_,_,_],_=>rfl) (by kernel_rfl) (by kernel_rfl) (by kernel_rfl) (tb:=4) (by kernel_rfl) Tryz.yx hval hW (Tryz.qY hL hsh) (fun _ _=>trivial)
open Go.ChangeShapes Go.WideShapes Go.ChangeAt Go.RowKit in
theorem uM:Rows.TopShiftSaid:=
 OpenClaim.holds_of_wide 5 Tryz.f5 rfl rfl rfl rfl rfl rfl rfl ⟨rfl,rfl,rfl,rfl,rfl⟩ rfl rfl rfl rfl rfl (by kernel_rfl) Tryz.func5 (by kernel_rfl)
  (of_decide_eq_true (by kernel_rfl)) (by unfold Func.isWrapper;first | (rw [if_pos (by decide +kernel)];kernel_rfl) | (rw [if_neg (by decide +kernel)];exact ⟨rfl,rfl⟩))
  (fun os started H enc _=>sj os started H enc)
theorem topShift_holds:Rows.TopShiftCardSaid:=
 Claim7.holds_tied_plain_at .later [] [.data, .data, .data, .data, .sentinel, .sentinel, .pinned] true (true,"6a9693e68608825ffcfea3137400340b6490202206f494b6fbc4e452f2b457e4") true
  uM (fun _ h=>by cases h) (by kernel_rfl) (fun _ h=>by cases h) topShift_row_tie rfl ⟨rfl,rfl⟩ (by kernel_rfl) rfl
  (fun f fn hf hfn=>by
   obtain rfl:f=5:=Option.some.inj ((show Tryz.prog.funcNamed Rows.topShiftRow.func=some 5 by kernel_rfl).symm.trans hf) |>.symm
   obtain rfl:fn=Tryz.f5:=(Option.some.inj (Tryz.func5.symm.trans hfn)).symm
   exact ⟨by kernel_rfl,fun j t ht=>by
    have hall:(Tryz.f5.params.toList.all fun t => !Tryz.prog.wantsStandIn t)=true:=by kernel_rfl
    have hm:t∈Tryz.f5.params.toList:=Array.mem_def.1 (Array.mem_of_getElem? ht)
    exact (by simpa using List.all_eq_true.1 hall t hm:Tryz.prog.wantsStandIn t=false)⟩)
  (by kernel_rfl)
#print axioms topShift_holds
end Go.Proofs.YtgokjhhcfemnhacGreatDoor

