/- A part of the proof that the law TopScopeCard holds of the given program: facts that are used there. -/
import Derived.Test.YtgokjhhcfemnhacDoorPart4
import Derived.Test.YtgokjhhcfemnhacDoorRows
import Derived.Test.YtgokjhhcfemnhacDoorTie
import Derived.Test.YtgokjhhcfemnhacDoorCards
import Derived.LaidMore
set_option linter.unusedSimpArgs false
set_option linter.unusedVariables false
set_option maxRecDepth 100000
set_option maxHeartbeats 4000000
namespace Go.Proofs.YtgokjhhcfemnhacDoor
open Go.Vg Go.Mrl
noncomputable def Tryd.tf:List (FuncId × (Bool × bB)):=[(26,(true,aZ [.str] [.err] (fun _=>True) (fun s=>aW (aJ s)))),
 (28,(true,gD [dX] [.bool] (fun _=>True) (fun e y=>y=true->hY e))),
 (13,(true,gD [.slice br, .int .i64] [.bool] (fun _=>True) (fun x y=>y=true->iG x.1 x.2))),
 (14,(false,bZ Tryd.aV [.obj 0, .d (.slice br)] (fun _ x=>bq x) Tryd.p3)),
 (9,(false,bZ [] [] (fun _ _=>True) Tryd.oS)),
 (10,(false,bZ Tryd.aV [.obj 0, .d .str, .d .str] (fun _ x=>x.2.1.1.length<=6/\0<=x.1.1/\x.1.1<=1000000) Tryd.jM)),
 (15,(false,bZ Tryd.aV [.obj 0, .d .str] (fun _ _=>True) Tryd.jv)),
 (11,(false,bZ Tryd.aV [.obj 0, .d .str] (fun _ x=>x.2.1.1.length<=6) Tryd.rP)),
 (5,(true,aZ [.str] [aB, .err] (fun _=>True) (fun s=>fA s))),
 (12,(true,aZ [.slice .str, .slice .str] [.bool] (fun _=>True) (fun x=>dw x.1 x.2))),
 (8,(true,aZ [aB,aB] [.bool] (fun _=>True) (fun x=>dL x.1 x.2)))]
theorem Tryd.wT:bW Tryd.prog Tryd.B Tryd.X Tryd.tf:=
 bj (aK Tryd.gG) (bj (dA Tryd.jB) (bj (dA Tryd.oq) (bj (Tryd.C6) (bj (Tryd.xz) (bj (Tryd.sX) (bj (Tryd.p0) (bj (Tryd.wS) (bj (aK Tryd.tc) (bj (aK Tryd.ou) (bj (aK Tryd.tA) (cU Tryd.cX)))))))))))
def Tryd.tg (l:List (D br)) (r:List UInt8):cA:=[
 (0,fun st=>{X:=Nat,inv:=fun i=>i<=List.length (b7 (.slice .str) st 10),bF:=fun i=>List.length (b7 (.slice .str) st 10) - i,bg:=fun i=>[(12,sI i)],bf:=[9,10,11]}),
 (2,fun st=>{X:=Nat,inv:=fun k=>k<=List.length (b7 (.slice .str) st 10),bF:=fun k=>List.length (b7 (.slice .str) st 10) - k,bg:=fun k=>[(19,sI k),(18,sB (ed (b7 (.slice .str) st 10) (b7 (.slice aB) st 11) (Int.toNat (b7 (.int .i64) st 12)) k))],bf:=[9,10,11,12,13,15,16,17,86,87,88,89,92,93,94,95,96,97,98,99,100,101,102,103,104,105,106,107,108,109,110,111,112,113,114,115,116,117,118,119,120,121,122,123]}),
 (300027,fun st=>{X:=Bool,inv:=fun c=>c=false,bF:=fun _=>0,bg:=fun c=>[(143,sB c)],bf:=[4,9,10,11,12,13,15,16,17,18,19,86,87,88,89,92,93,94,95,96,97,98,99,100,101,102,103,104,105,106,107,108,109,110,111,112,113,114,115,116,117,118,119,120,121,122,123,124,125,126,127]}),
 (4,fun st=>{X:=Nat,inv:=fun j=>j<=List.length (nth aB (b7 (.slice aB) st 11) (Int.toNat (b7 (.int .i64) st 19))).1,bF:=fun j=>List.length (nth aB (b7 (.slice aB) st 11) (Int.toNat (b7 (.int .i64) st 19))).1 - j,bg:=fun j=>[(20,sI j),(18,sB (c6 (b7 (.slice .str) st 10) (b7 (.slice aB) st 11) (Int.toNat (b7 (.int .i64) st 12)) (Int.toNat (b7 (.int .i64) st 19)) j))],bf:=[4,9,10,11,12,13,15,16,17,19,86,87,88,89,92,93,94,95,96,97,98,99,100,101,102,103,104,105,106,107,108,109,110,111,112,113,114,115,116,117,118,119,120,121,122,123,124,125,126,127,130,131,132,133,134,135,136,137,138,139,140,141,142,143]}),
 (6,fun st=>{X:=Nat,inv:=fun j=>j<=List.length ((yj aB st (dj st 16))).1,bF:=fun j=>List.length ((yj aB st (dj st 16))).1 - j,bg:=fun j=>[(21,sI j)],bf:=[9,10,11,12,13,15,16,17,18,19,20,86,87,88,89,92,93,94,95,96,97,98,99,100,101,102,103,104,105,106,107,108,109,110,111,112,113,114,115,116,117,118,119,120,121,122,123,124,125,126,127,128,129,130,131,132,133,134,135,136,137,138,139,140,141,142,143,144,145,146,147,148,149,150,151,152,153,154,155,156,157,158,159,160,161,162,163,164,165,166,167,168,169,170,171,172,173,174,175,176]}),
 (8,fun st=>{X:=Nat,inv:=fun k=>k<=List.length (b7 (.slice .str) st 10),bF:=fun k=>List.length (b7 (.slice .str) st 10) - k,bg:=fun k=>[(23,sI k),(22,sB ((List.take k (b7 (.slice .str) st 10)).any (· == nth .str ((yj aB st (dj st 16))).1 (Int.toNat (b7 (.int .i64) st 21)))))],bf:=[4,9,10,11,12,13,15,16,17,18,19,20,21,86,87,88,89,92,93,94,95,96,97,98,99,100,101,102,103,104,105,106,107,108,109,110,111,112,113,114,115,116,117,118,119,120,121,122,123,124,125,126,127,128,129,130,131,132,133,134,135,136,137,138,139,140,141,142,143,144,145,146,147,148,149,150,151,152,153,154,155,156,157,158,159,160,161,162,163,164,165,166,167,168,169,170,171,172,173,174,175,176,177,178,179,180,181]})]
theorem wU (l:List (D br)) (r:List UInt8) (hw:gL [.slice br, .str] (l,r)):(dW Tryd.B Tryd.tf Tryd.f4 (Tryd.tg l r) [.slice br, .str] [.bool] (fun _ y=>y=true) (l,r)).holds:=by
 refine holds_of (p:=
  let za:=(0:Int)<=(0:Int)
  let zb:=false=true
  let zc:=[(97:UInt8)]
  let zd:=(0:Int) + (1:Int)
  let ze:=ch b8 (@List.nil FE) zc ([(119:UInt8),111,114,100,32,49,10],zd,()) (0:Int)
  let zf:=(ze,fM b8 (@List.nil FE) zc (0:Int),())
  let zg:=bD (bI ((zd,()),zf,())) zc
  let zh:=true=true
  let zi:=(((0:Int),()),([],(0:Int),()),())
  let zj:=bJ zi l
  let zk:=bD (bI zj) r
  let zl:=zk.1
  let zm:=List.length zl
  let zn:=zm<=aI
  let zo:=zk.2.1
  let zp:=List.length zo<=aI
  let zq:=(↑zm:Int)
  let zr:=(↑(List.length zo):Int)
  let zs:=fun (x_1:Nat)=>(↑x_1:Int)
  let zt:=fun (x_1:Nat)=>decide (zs x_1 < zq)
  let zu:=fun (x_1:Nat)=>(0:Int)<=zs x_1
  let zv:=fun (x_1:Nat)=>zu x_1/\zs x_1 < zq
  let zw:=fun (x_1:Nat)=>nth Ty.str zl x_1
  let zx:=fun (x_1:Nat)=>zu x_1/\zs x_1 < zr
  let zy:=fun (x_1:Nat)=>(bG (bI zj (zw x_1)).1).1
  let zz:=List.length Tryd.aV
  let zaa:=C.bX ((0:Nat) + zz + zz + zz + (1:Nat))
  let zab:=(zaa=zaa/\zj.1.1=zj.1.1/\True)/\zj.2.1=zj.2.1/\(C.bX (1:Nat)=C.bX (1:Nat)/\zd=zd/\True)/\zf=zf/\True
  let zac:=fun (x_1:Nat)=>((zy x_1).1=(zy x_1).1/\(zy x_1).2.1=(zy x_1).2.1/\(zy x_1).2.2.1=(zy x_1).2.2.1/\(zy x_1).2.2.2.1=(zy x_1).2.2.2.1/\True)/\@List.nil (Int × Int × Int × List UInt8 × Bool × Unit) = @List.nil (Int × Int × Int × List UInt8 × Bool × Unit)/\@List.nil (List UInt8 × Int × Bool × Unit) = @List.nil (List UInt8 × Int × Bool × Unit)/\@List.nil Int = @List.nil Int/\@List.nil (List UInt8) = @List.nil (List UInt8)/\zab
  let zad:=fun (x_2:Nat)=>List.length (nth aB zo x_2).1
  let zae:=fun (x_4:Nat)=>aY (zs x_4)
  let zaf:=aY (1:Int)
  let zag:=fun (x_4:Nat)=>zs x_4 + (1:Int)
  let zah:=fun (x_4:Nat)=>aY (zag x_4)
  let zai:=fun (x_1:Nat)=>List.length (zy x_1).1
  let zaj:=fun (x_1 x_3:Nat) (x:List UInt8)=>x == nth Ty.str (zy x_1).1 x_3
  (True)/\((True)->(List.length (@List.nil FE)<=(6:Nat)/\za/\(0:Int)<=(1000000:Int))/\((True)->(((!bp.isNil (aW (0:Int)))=true->(zb))/\((!bp.isNil (aW (0:Int)))=false->(List.length ze<=(6:Nat))/\((True)->(((!bp.isNil (aW zg.2.2))=true->(zb))/\((!bp.isNil (aW zg.2.2))=false->(True)/\(((!dw zg.1 [zc])=true->(zb))/\((!dw zg.1 [zc])=false->(True)/\(∀x_0:Bool,((x_0=true->iG l (30:Int))->(((!x_0)=true->(zh))/\((!x_0)=false->((List.length r<=aI)->(((decide ((↑(List.length r):Int) > (20:Int)))=true->(zh))/\((decide ((↑(List.length r):Int) > (20:Int)))=false->(True)/\((True)->(bq zi)/\((True)->(List.length zj.2.1.1<=(6:Nat))/\((True)->(((!bp.isNil (aW zk.2.2))=true->((zn)->((zp)->((aY zq)->((aY zr)->(aY (zq + zr))/\((zq + zr == (0:Int))=true))))))/\((!bp.isNil (aW zk.2.2))=false->((zn)->(((decide (zq < (1:Int)))=true->(zb))/\((decide (zq < (1:Int)))=false->(za/\(0:Int) < zq)/\(((!nth Ty.str zl (0:Nat) == r)=true->(zb))/\((!nth Ty.str zl (0:Nat) == r)=false->((zp)->((zn)->(((zr != zq)=true->(zb))/\((zr != zq)=false->(∃(x:Nat),x<=zm/\((0:Int)=(↑x:Int)/\True)/\True)/\(∀x_1:Nat,((x_1<=zm)->((zn)->(((zt x_1)=true->(zv x_1)/\(True)/\((True)->(True)/\(((!bp.isNil (aW (bI zj (zw x_1)).2.2))=true->(zb))/\((!bp.isNil (aW (bI zj (zw x_1)).2.2))=false->(((!bp.isNil (aW (bG (bI zj (zw x_1)).1).2))=true->(zb))/\((!bp.isNil (aW (bG (bI zj (zw x_1)).1).2))=false->(zx x_1)/\(True)/\(((!dL (zy x_1) (nth aB zo x_1))=true->(zb))/\((!dL (zy x_1) (nth aB zo x_1))=false->(∃(x:Nat),x<=zm/\((0:Int)=(↑x:Int)/\(zs x_1 == (0:Int))=ed zl zo x_1 x/\True)/\True)/\(∀x_2:Nat,((x_2<=zm)->((zn)->(((zt x_2)=true->(((((decide (zs x_2 < zs x_1))=true->(zv x_2)/\(zv x_1)/\(∃(x':Bool),x'=false/\((zw x_2 == zw x_1)=x'/\True)/\zac x_1))/\((decide (zs x_2 < zs x_1))=false->(∃(x':Bool),x'=false/\(false=x'/\True)/\zac x_1))))/\((∀x_3:Bool,((x_3=false)->(((x_3)=true->(zb))/\((x_3)=false->(∃(x:Nat),x<=zad x_2/\((0:Int)=(↑x:Int)/\ed zl zo x_1 x_2=c6 zl zo x_1 x_2 x/\True)/\True)/\(∀x_4:Nat,((x_4<=zad x_2)->(zx x_2)/\((zad x_2<=aI)->(((decide (zs x_4 < (↑(zad x_2):Int)))=true->(((c6 zl zo x_1 x_2 x_4)=true->((zae x_4)->((zaf)->(zah x_4)/\(∃(x':Nat),x'<=zad x_2/\zad x_2 - x' < zad x_2 - x_4/\(zag x_4=(↑x':Int)/\true=c6 zl zo x_1 x_2 x'/\True)/\zac x_1))))/\((c6 zl zo x_1 x_2 x_4)=false->(((decide (zs x_2 < zs x_1))=true->(zx x_2)/\(zu x_4/\zs x_4 < (↑(zad x_2):Int))/\(zv x_1)/\((zae x_4)->((zaf)->(zah x_4)/\(∃(x':Nat),x'<=zad x_2/\zad x_2 - x' < zad x_2 - x_4/\(zag x_4=(↑x':Int)/\(nth Ty.str (nth aB zo x_2).1 x_4 == zw x_1)=c6 zl zo x_1 x_2 x'/\True)/\zac x_1))))/\((decide (zs x_2 < zs x_1))=false->((zae x_4)->((zaf)->(zah x_4)/\(∃(x':Nat),x'<=zad x_2/\zad x_2 - x' < zad x_2 - x_4/\(zag x_4=(↑x':Int)/\false=c6 zl zo x_1 x_2 x'/\True)/\zac x_1))))))))/\((decide (zs x_4 < (↑(zad x_2):Int)))=false->((zae x_2)->((zaf)->(zah x_2)/\(∃(x':Nat),x'<=zm/\zm - x' < zm - x_2/\(zag x_2=(↑x':Int)/\c6 zl zo x_1 x_2 x_4=ed zl zo x_1 x'/\True)/\zac x_1)))))))))))))))/\((zt x_2)=false->(((!ed zl zo x_1 x_2)=true->(zb))/\((!ed zl zo x_1 x_2)=false->(∃(x:Nat),x<=zai x_1/\((0:Int)=(↑x:Int)/\True)/\True)/\(∀x_3:Nat,((x_3<=zai x_1)->((zai x_1<=aI)->(((decide (zs x_3 < (↑(zai x_1):Int)))=true->(∃(x:Nat),x<=zm/\((0:Int)=(↑x:Int)/\false=List.any (List.take x zl) (zaj x_1 x_3)/\True)/\True)/\(∀x_4:Nat,((x_4<=zm)->((zn)->(((zt x_4)=true->(((List.any (List.take x_4 zl) (zaj x_1 x_3))=true->((zae x_4)->((zaf)->(zah x_4)/\(∃(x':Nat),x'<=zm/\zm - x' < zm - x_4/\(zag x_4=(↑x':Int)/\true=List.any (List.take x' zl) (zaj x_1 x_3)/\True)/\zac x_1))))/\((List.any (List.take x_4 zl) (zaj x_1 x_3))=false->(zv x_4)/\(zu x_3/\zs x_3 < (↑(zai x_1):Int))/\((zae x_4)->((zaf)->(zah x_4)/\(∃(x':Nat),x'<=zm/\zm - x' < zm - x_4/\(zag x_4=(↑x':Int)/\(zw x_4 == nth Ty.str (zy x_1).1 x_3)=List.any (List.take x' zl) (zaj x_1 x_3)/\True)/\zac x_1))))))/\((zt x_4)=false->(((!List.any (List.take x_4 zl) (zaj x_1 x_3))=true->(zb))/\((!List.any (List.take x_4 zl) (zaj x_1 x_3))=false->((zae x_3)->((zaf)->(zah x_3)/\(∃(x':Nat),x'<=zai x_1/\zai x_1 - x' < zai x_1 - x_3/\(zag x_3=(↑x':Int)/\True)/\zac x_1)))))))))))/\((decide (zs x_3 < (↑(zai x_1):Int)))=false->((zae x_1)->((zaf)->(zah x_1)/\(∃(x':Nat),x'<=zm/\zm - x' < zm - x_1/\(zag x_1=(↑x':Int)/\True)/\zab)))))))))))))))))))))))/\((zt x_1)=false->(zh))))))))))))))))))))))))))))))))))))) (by kernel_rfl) ?_
 dsimp -iota -proj -eta only
 refine ⟨trivial,fun h0=>⟨?a,fun h1=>⟨fun h2=>absurd (show false=true from h2) (by decide),fun h2=>⟨?b,fun h3=>iB (fun h4=>(absurd (congrArg (fun z=>z.2.2) AP) (ju h4))) (fun h4=>⟨trivial,iB (fun h5=>(Bool.noConfusion ((congrArg (fun z=>dw z.1 [[97]]) AP).symm.trans h5))) (fun h5=>⟨trivial,fun x_0 q_0=>iB (fun h6=>rfl) (fun h6 h7=>iL (fun h8=>rfl) (fun h8=>⟨trivial,fun h9=>⟨bq.new,fun h10=>⟨(((show aS (bJ (((0,()),([],0,()),()):cn) l) from aS.done l aS.new)).st.pre.1),fun h11=>iB (fun h12 h13 h14 h15 h16=>⟨(by have b:=sW ((show aS (bJ (((0,()),([],0,()),()):cn) l) from aS.done l aS.new)).ok (root:=r) (ju h12);rw [b.1,b.2.1];simp [aY]),(by have b:=sW ((show aS (bJ (((0,()),([],0,()),()):cn) l) from aS.done l aS.new)).ok (root:=r) (ju h12);rw [b.1,b.2.1];decide)⟩) (fun h12 h13=>iL (fun h14 => ?c) (fun h14=>⟨?d,⟨fun h15 => ?e,fun h15 h16 h17=>iN (fun h18 => ?f) (fun h18=>⟨?g,fun x_1 q_1 h19=>iL (fun h20=>⟨?h,trivial,fun h21=>⟨trivial,iB (fun h22 => ?i) (fun h22=>iB (fun h23 => ?j) (fun h23=>⟨?k,trivial,iB (fun h24 => ?l) (fun h24=>⟨?m,fun x_2 q_2 h25=>iL (fun h26=>⟨iL (fun h27=>⟨?n,?o,?p⟩) (fun h27 => ?q),fun x_3 q_3=>⟨fun h27 => ?r,fun h27=>⟨?s,fun x_4 q_4=>⟨?t,fun h28=>iL (fun h29=>⟨fun h30 h31 h32=>⟨?u,?v⟩,fun h30=>iL (fun h31=>⟨?w,?x,?y,fun h32 h33=>⟨?z,?a0⟩⟩) (fun h31 h32 h33=>⟨?a1,?a2⟩)⟩) (fun h29 h30 h31=>⟨?a3,?a4⟩)⟩⟩⟩⟩) (fun h26=>iB (fun h27 => ?a5) (fun h27=>⟨?a6,fun x_3 q_3 h28=>iL (fun h29=>⟨?a7,fun x_4 q_4 h30=>iL (fun h31=>⟨fun h32 h33 h34=>⟨?a8,?a9⟩,fun h32=>⟨?aa,?ab,fun h33 h34=>⟨?ac,?ad⟩⟩⟩) (fun h31=>iB (fun h32 => ?ae) (fun h32 h33 h34=>⟨?af,?ag⟩))⟩) (fun h29 h30 h31=>⟨?ah,?ai⟩)⟩))⟩)⟩))⟩⟩) (fun h20=>rfl)⟩)⟩⟩))⟩⟩⟩))⟩)⟩)⟩⟩⟩⟩
 case a|b=>trivial
 case c|d=>have:=((eh ((show aS (bJ (((0,()),([],0,()),()):cn) l) from aS.done l aS.new)).ok (aR.1 h12))).pos;omega
 case e=>
  simp only [bl,reduceCtorEq] at h15
  exact absurd ((eh ((show aS (bJ (((0,()),([],0,()),()):cn) l) from aS.done l aS.new)).ok (aR.1 h12))).head h15
 case f|k|t|w=>
  simp only [bl,reduceCtorEq] at h15
  have hl:=((eh ((show aS (bJ (((0,()),([],0,()),()):cn) l) from aS.done l aS.new)).ok (aR.1 h12))).len;omega
 case g|a6=>
  simp only [bl,reduceCtorEq] at h15
  exact ⟨0,Nat.zero_le _,⟨rfl,trivial⟩,(by trivial)⟩
 case h|n|o|x|y|aa|ab=>
  simp only [bl,reduceCtorEq] at h15
  omega
 case i=>
  simp only [bl,reduceCtorEq] at h15
  exact absurd ((((eh ((show aS (bJ (((0,()),([],0,()),()):cn) l) from aS.done l aS.new)).ok (aR.1 h12))).read ((show aS (bJ (((0,()),([],0,()),()):cn) l) from aS.done l aS.new)).ok (i:=x_1) (by omega))).1 (ju h22)
 case j=>
  simp only [bl,reduceCtorEq] at h15
  exact absurd ((((eh ((show aS (bJ (((0,()),([],0,()),()):cn) l) from aS.done l aS.new)).ok (aR.1 h12))).read ((show aS (bJ (((0,()),([],0,()),()):cn) l) from aS.done l aS.new)).ok (i:=x_1) (by omega))).2.1 (ju h23)
 case l=>
  simp only [bl,reduceCtorEq] at h15
  rw [((((eh ((show aS (bJ (((0,()),([],0,()),()):cn) l) from aS.done l aS.new)).ok (aR.1 h12))).read ((show aS (bJ (((0,()),([],0,()),()):cn) l) from aS.done l aS.new)).ok (i:=x_1) (by omega))).2.2,re] at h24;cases h24
 case m=>
  simp only [bl,reduceCtorEq] at h15
  exact ⟨0,Nat.zero_le _,⟨rfl,yR _ _ _,trivial⟩,(by trivial)⟩
 case p=>
  simp only [bl,reduceCtorEq] at h15
  exact ⟨false,rfl,⟨beq_eq_false_iff_ne.2 (((eh ((show aS (bJ (((0,()),([],0,()),()):cn) l) from aS.done l aS.new)).ok (aR.1 h12))).apart (by omega) (by omega)),trivial⟩,(by trivial)⟩
 case q=>
  simp only [bl,reduceCtorEq] at h15
  exact ⟨false,rfl,⟨rfl,trivial⟩,(by trivial)⟩
 case r=>
  simp only [bl,reduceCtorEq] at h15
  rw [q_3] at h27;cases h27
 case s=>
  simp only [bl,reduceCtorEq] at h15
  exact ⟨0,Nat.zero_le _,⟨rfl,yT _ _ _ _,trivial⟩,(by trivial)⟩
 case u|z|a1|a3|a8|ac|af|ah=>
  simp only [bl,reduceCtorEq] at h15
  simp only [aY,aI] at *;omega
 case v=>
  simp only [bl,reduceCtorEq] at h15
  exact ⟨x_4 + 1,by omega,by omega,⟨by omega,AQ (by omega) h30,trivial⟩,(by trivial)⟩
 case a0=>
  simp only [bl,reduceCtorEq] at h15
  exact ⟨x_4 + 1,by omega,by omega,⟨by omega,AS (by omega) (by omega) h30,trivial⟩,(by trivial)⟩
 case a2=>
  simp only [bl,reduceCtorEq] at h15
  exact ⟨x_4 + 1,by omega,by omega,⟨by omega,AR (by omega) h30,trivial⟩,(by trivial)⟩
 case a4=>
  simp only [bl,reduceCtorEq] at h15
  exact ⟨x_2 + 1,by omega,by omega,⟨by omega,yU (by omega),trivial⟩,(by trivial)⟩
 case a5=>
  simp only [bl,reduceCtorEq] at h15
  rw [((eh ((show aS (bJ (((0,()),([],0,()),()):cn) l) from aS.done l aS.new)).ok (aR.1 h12))).wanted (by omega) (by omega)] at h27;cases h27
 case a7=>
  simp only [bl,reduceCtorEq] at h15
  exact ⟨0,Nat.zero_le _,⟨rfl,rfl,trivial⟩,(by trivial)⟩
 case a9=>
  simp only [bl,reduceCtorEq] at h15
  exact ⟨x_4 + 1,by omega,by omega,⟨by omega,C2 (by omega) h32,trivial⟩,(by trivial)⟩
 case ad=>
  simp only [bl,reduceCtorEq] at h15
  exact ⟨x_4 + 1,by omega,by omega,⟨by omega,C3 (by omega) h32,trivial⟩,(by trivial)⟩
 case ae=>
  simp only [bl,reduceCtorEq] at h15
  rw [((eh ((show aS (bJ (((0,()),([],0,()),()):cn) l) from aS.done l aS.new)).ok (aR.1 h12))).Ed (by omega) ((((eh ((show aS (bJ (((0,()),([],0,()),()):cn) l) from aS.done l aS.new)).ok (aR.1 h12))).read ((show aS (bJ (((0,()),([],0,()),()):cn) l) from aS.done l aS.new)).ok (i:=x_1) (by omega))).2.2 (by omega) (by omega)] at h32;cases h32
 case ag=>
  simp only [bl,reduceCtorEq] at h15
  exact ⟨x_3 + 1,by omega,by omega,⟨by omega,trivial⟩,(by trivial)⟩
 case ai=>
  simp only [bl,reduceCtorEq] at h15
  exact ⟨x_1 + 1,by omega,by omega,⟨by omega,trivial⟩,(by trivial)⟩
theorem Tryd.wV:bU Tryd.prog Tryd.B.eT Tryd.X 4 [.slice br, .str] [.bool] (fun _=>True) (fun _ y=>y=true):=
 cM (X:=Tryd.X) Tryd.wT Tryd.func4 (by kernel_rfl) (fun x=>Tryd.tg x.1 x.2) (fun x hw hp=>wU x.1 x.2 hw)
open Go.ChangeShapes Go.WideShapes Go.ChangeAt Go.RowKit in
theorem Tryd.p8 {W:World} (hL:laidMetH Tryd.prog Rows.topScopeRow.laid W) (hsh:W.ShapedOpen Tryd.prog):Tryd.DL W:=by
 rw [MakeChecks.laidMetH_plain _ _ _ (by kernel_rfl)] at hL
 exact ⟨vy (g:=1) (t:=125) (e:=80) (n:=20) (by kernel_rfl) (by kernel_rfl) (by kernel_rfl) (by kernel_rfl) (by kernel_rfl) (by kernel_rfl) ((show (Rows.laid_internal_strconv_uint64pow10:DataW Unit)=Lib.tabData .u64 Lib.pow10Tab from by kernel_rfl)▸Lib.laidMet.reads hL (.tail _ (.tail _ (.head _)))),
  vw (g:=0) (t:=3) (zero:=#[.int .i64 0]) hsh (of_decide_eq_true (by kernel_rfl)) (by kernel_rfl) rfl (by kernel_rfl) (by kernel_rfl) (by kernel_rfl),
  lY (g:=4) (t:=29) (by kernel_rfl) (by kernel_rfl) (by kernel_rfl) (Lib.laidMet.reads hL (.tail _ (.tail _ (.tail _ (.tail _ (.tail _ (.head _))))))),
  lY (g:=5) (t:=29) (by kernel_rfl) (by kernel_rfl) (by kernel_rfl) (Lib.laidMet.reads hL (.tail _ (.tail _ (.tail _ (.tail _ (.head _))))))⟩
open Go.ChangeShapes Go.WideShapes Go.ChangeAt Go.RowKit in
set_option maxRecDepth 100000 in
theorem rh (os:Os) (started:os.Started) (H:Type) (enc:TypeId × Value->H) :
  ReturnsInHanded {} Tryd.checked os 4 .any (fun w args=>(Rows.topScopeSpec.pre enc Tryd.prog Tryd.f4 [] false w args/\laidMetH Tryd.prog Rows.topScopeRow.laid w)/\sizedMet enc Tryd.prog Tryd.f4 (OpenSpec.ofChange Rows.topScopeSpec) false w args) (Rows.topScopeSpec.post enc Tryd.prog Tryd.f4 false true false false):=by
 refine wE (C:=Tryd.checked) (X:=fun w _=>laidMetH Tryd.prog Rows.topScopeRow.laid w) (fun _ _ _ hh h=>h.of_heap hh) (by kernel_rfl) started (by kernel_rfl) Tryd.func4
  (ChangeSpec.witness_shaped (enc:=enc) (C:=Tryd.checked) (os:=os) (X:=fun w _=>laidMetH Tryd.prog Rows.topScopeRow.laid w) false (World.laidAll Tryd.prog os Rows.topScopeRow.laid) #[.slice none 0 0, .string ⟨#[]⟩] 8 (World.laidAll_os _ _ _) (World.shaped_of_ZipB (by kernel_rfl) (by kernel_rfl)) (by kernel_rfl) (by kernel_rfl) (by kernel_rfl)
   (by rw [MakeChecks.laidMetH_plain _ _ _ (by kernel_rfl)];exact laidMet_laidAll _ (by kernel_rfl) (by kernel_rfl))) ?_
 intro W base args ds gs before hval hW hL hsh
 exact Am (C:=Tryd.checked) (n:=16) rfl (by kernel_rfl) (fun ds h=>by match ds,h with | [_,_],_=>rfl) (by kernel_rfl) (by kernel_rfl) (by kernel_rfl) (tb:=4) (by kernel_rfl) Tryd.wV hval hW (Tryd.p8 hL hsh) (fun _ _=>trivial)
open Go.ChangeShapes Go.WideShapes Go.ChangeAt Go.RowKit in
theorem tB:Rows.TopScopeSaid:=
 OpenClaim.holds_of_wide 4 Tryd.f4 rfl rfl rfl rfl rfl rfl rfl ⟨rfl,rfl,rfl,rfl,rfl⟩ rfl rfl rfl rfl rfl (by kernel_rfl) Tryd.func4 (by kernel_rfl)
  (of_decide_eq_true (by kernel_rfl)) (by unfold Func.isWrapper;first | (rw [if_pos (by decide +kernel)];kernel_rfl) | (rw [if_neg (by decide +kernel)];exact ⟨rfl,rfl⟩))
  (fun os started H enc _=>rh os started H enc)
theorem topScope_holds:Rows.TopScopeCardSaid:=
 Claim7.holds_tied_plain_at .later [] [.data, .data, .data, .data, .sentinel, .sentinel, .pinned] true (true,"3ae5d83ab2c43b541dce7104a51828822da873c8263d1ff47f10708efe6775d8") true
  tB (fun _ h=>by cases h) (by kernel_rfl) (fun _ h=>by cases h) topScope_row_tie rfl ⟨rfl,rfl⟩ (by kernel_rfl) rfl
  (fun f fn hf hfn=>by
   obtain rfl:f=4:=Option.some.inj ((show Tryd.prog.funcNamed Rows.topScopeRow.func=some 4 by kernel_rfl).symm.trans hf) |>.symm
   obtain rfl:fn=Tryd.f4:=(Option.some.inj (Tryd.func4.symm.trans hfn)).symm
   exact ⟨by kernel_rfl,fun j t ht=>by
    have hall:(Tryd.f4.params.toList.all fun t => !Tryd.prog.wantsStandIn t)=true:=by kernel_rfl
    have hm:t∈Tryd.f4.params.toList:=Array.mem_def.1 (Array.mem_of_getElem? ht)
    exact (by simpa using List.all_eq_true.1 hall t hm:Tryd.prog.wantsStandIn t=false)⟩)
  (by kernel_rfl)
#print axioms topScope_holds
end Go.Proofs.YtgokjhhcfemnhacDoor

