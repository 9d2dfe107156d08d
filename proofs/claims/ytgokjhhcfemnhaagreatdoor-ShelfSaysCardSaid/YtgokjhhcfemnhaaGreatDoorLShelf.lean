/- A part of the proof that the law ShelfSaysCard holds of the given program: facts that are used there. -/
import Derived.Test.YtgokjhhcfemnhaaGreatDoorPart4
import Derived.Test.YtgokjhhcfemnhaaGreatDoorRows
import Derived.Test.YtgokjhhcfemnhaaGreatDoorTie
import Derived.Test.YtgokjhhcfemnhaaGreatDoorCards
import Derived.LaidMore
set_option linter.unusedSimpArgs false
set_option linter.unusedVariables false
set_option maxRecDepth 100000
set_option maxHeartbeats 4000000
namespace Go.Proofs.YtgokjhhcfemnhaaGreatDoor
open Go.Vg Go.Mrl
noncomputable def Tryz.vy:List (FuncId × (Bool × aY)):=[(87,(true,aM [.str] [.err] (fun _=>True) (fun s=>au (ao s)))),
 (94,(true,aM [.str] [.int .i64] (fun _=>True) (fun s=>ao s))),
 (9,(true,aM [.err, .int .i64] [.bool] (fun _=>True) (fun x=>cT x.1 x.2))),
 (48,(false,aB Tryz.az [.obj 0, .d (.int .i64), .d .str] (fun _ x => -1<=x.1.1/\x.2.2.2.1.length<=900000000) Tryz.ic)),
 (44,(false,aB Tryz.az [.obj 0, .d (.int .i64)] (fun _ _=>True) Tryz.mH)),
 (49,(false,aB Tryz.az [.obj 0] (fun _ x => -1<=x.1.1/\x.2.1.length=x.2.2.1.length) Tryz.ie)),
 (42,(false,aB Tryz.az [.obj 0] (fun _ _=>True) Tryz.kK)),
 (43,(false,aB Tryz.az [.obj 0] (fun _ _=>True) Tryz.fm)),
 (8,(false,aB [] [.d (.int .i64)] (fun _ _=>True) Tryz.oy)),
 (37,(false,aB [] [] (fun _ _=>True) Tryz.nL)),
 (12,(false,aB Tryz.aL [.obj 0, .d af] (fun a x=>(a.1.2.1.length<=1000000/\a.1.2.2.1.length<=1000000)/\x.1.2.1.length<=99/\0<=(x.1.1:Int)/\(x.1.1:Int)<=1000000000/\bf x.2 1000000) Tryz.rL)),
 (16,(false,aB Tryz.aL [.obj 0, .d .str] (fun _ x=>∀i,i < x.1.2.1.length->(nth af x.1.2.1 i).2.1.length<=1000000/\(nth af x.1.2.1 i).2.2.1.length<=1000000) Tryz.rN)),
 (20,(false,aB Tryz.aL [.obj 0] (fun _ x=>x.1.2.1.length<=1000000) Tryz.nr)),
 (10,(false,aB Tryz.az [.obj 0] (fun _ x=>bf x 1000000/\∀i,i < x.2.2.1.length->(nth .str x.2.2.1 i).length=64) Tryz.mJ))]
theorem Tryz.Bm:bn Tryz.prog Tryz.B Tryz.X Tryz.vy:=
 aG (ar Tryz.kJ) (aG (ar Tryz.fH) (aG (ar Tryz.mc) (aG (Tryz.lD) (aG (Tryz.tL) (aG (Tryz.lE) (aG (Tryz.pF) (aG (Tryz.iY) (aG (Tryz.wc) (aG (Tryz.EJ) (aG (Tryz.GO) (aG (Tryz.GQ) (aG (Tryz.A7) (aG (Tryz.wj) (bA Tryz.bz))))))))))))))
theorem EL  (hw:er [] ()):(cG Tryz.B Tryz.vy Tryz.f6 [] [] [.bool] (fun x y=>y=(fun _=>true) x) ()).holds:=by
 refine holds_of (p:=
  let za:=false=true
  let zb:=(dq (fC (112:Int))).1
  let zc:=[(97:UInt8)]
  let zd:=[(zc,(1:Int),(0:Int),())]
  let ze:=b8 zb (2:Int) (@List.nil (List UInt8 × List (List UInt8 × Int × Int × Unit) × List (Int × Int × Int × Unit) × Unit)++[(zc,zd,@List.nil (Int × Int × Int × Unit),())])
  let zf:=ze.1.2.2.2.1
  let zg:=zf=zf
  let zh:=(bu ze.1).2
  let zi:=(bu ze.1).1.2
  let zj:=List.length (bm zi)
  (True)/\((True)->(((!true)=true->(za))/\((!true)=false->(zb.2.2.2.1=zb.2.2.2.1)/\((List.length zd<=(1000000:Nat)/\List.length (@List.nil (Int × Int × Int × Unit))<=(1000000:Nat))/\List.length (@List.nil (List UInt8 × List (List UInt8 × Int × Int × Unit) × List (Int × Int × Int × Unit) × Unit))<=(99:Nat)/\(0:Int)<=(2:Int)/\(2:Int)<=(1000000000:Int)/\bf zb (1000000:Nat))/\((True)->(((!aF.isNil (au ze.2))=true->(za))/\((!aF.isNil (au ze.2))=false->(zg)/\(bf ze.1 (1000000:Nat)/\∀(i:Nat),i < List.length ze.1.2.2.1->List.length (nth Ty.str ze.1.2.2.1 i)=(64:Nat))/\((((zh≠(0:Int))->(((!aF.isNil (au zh))=true->(za))/\((!aF.isNil (au zh))=false->(za)))))/\(((zh=(0:Int))->(((!aF.isNil aF.nil)=true->(za))/\((!aF.isNil aF.nil)=false->(zg)/\(∀(i:Nat),i < List.length zi->List.length (nth af zi i).2.1<=(1000000:Nat)/\List.length (nth af zi i).2.2.1<=(1000000:Nat))/\((True)->((((bG zi zc).2)=true->((((bG zi zc).1.1 == zc)=true->(zg)/\(List.length zi<=(1000000:Nat))/\((True)->((zj<=av)->(((↑zj:Int) == (1:Int))=true))))/\(((bG zi zc).1.1 == zc)=false->(za))))/\(((bG zi zc).2)=false->(za)))))))))))))))) (by kernel_rfl) ?_
 dsimp -iota -proj -eta only
 refine ⟨trivial,fun h0=>⟨fun h1=>absurd (show false=true from h1) (by decide),fun h1=>⟨rfl,(⟨⟨by decide,by decide⟩,by decide,by decide,by decide,kj.lX⟩),fun h2=>iB (fun h3=>(absurd cQ.1 (c6 h3))) (fun h3=>⟨rfl,⟨cQ.2.lX,cQ.2.sec⟩,⟨fun h4=>iB (fun h5 => ?a) (fun h5 => ?b),fun h4=>⟨fun h5=>absurd (show false=true from h5) (by decide),fun h5=>⟨rfl,cQ.2.IU,fun h6=>⟨fun h7=>iQ (fun h8=>⟨rfl,cQ.2.KA,fun h9 h10=>((congrArg (fun z:List (D af)=>(((bm z).length:Int) == 1)) cQ.2.nq).trans (by rw [cQ.2.list];rfl))⟩) (fun h8 => ?c),fun h7 => ?d⟩⟩⟩⟩⟩)⟩⟩⟩
 case a|b=>exact absurd cQ.2.rI h4
 case c=>
  have e:=cQ.2.nq.trans cQ.2.list
  exact absurd (congrArg (fun z:List (D af)=>(bG z [97]).1.1) e) h8
 case d=>
  have e:=cQ.2.nq.trans cQ.2.list
  exact absurd ((congrArg (fun z:List (D af)=>(bG z [97]).2) e).symm.trans h7) (by decide)
theorem Tryz.EM:bj Tryz.prog Tryz.B.eT Tryz.X 6 [] [.bool] (fun _=>True) (fun x y=>y=(fun _=>true) x):=
 bN (X:=Tryz.X) Tryz.Bm Tryz.func6 (by kernel_rfl) (fun _=>[]) (fun x hw hp=>EL  hw)
@[reducible] def Tryz.JS:List Ob:=[.box 105 [.obj 1, .d (.int .i64), .d (.slice af)], .box 101 [.obj 2, .obj 3, .obj 4, .d (.int .i64), .d .bool], .row true .str, .row true .str, .tok mZ, .box 38 [.d (.slice af)]]
noncomputable def Tryz.xQ:List (FuncId × (Bool × aY)):=[(87,(true,aM [.str] [.err] (fun _=>True) (fun s=>au (ao s)))),
 (94,(true,aM [.str] [.int .i64] (fun _=>True) (fun s=>ao s))),
 (9,(true,aM [.err, .int .i64] [.bool] (fun _=>True) (fun x=>cT x.1 x.2))),
 (48,(false,aB Tryz.az [.obj 0, .d (.int .i64), .d .str] (fun _ x => -1<=x.1.1/\x.2.2.2.1.length<=900000000) Tryz.ic)),
 (44,(false,aB Tryz.az [.obj 0, .d (.int .i64)] (fun _ _=>True) Tryz.mH)),
 (49,(false,aB Tryz.az [.obj 0] (fun _ x => -1<=x.1.1/\x.2.1.length=x.2.2.1.length) Tryz.ie)),
 (42,(false,aB Tryz.az [.obj 0] (fun _ _=>True) Tryz.kK)),
 (43,(false,aB Tryz.az [.obj 0] (fun _ _=>True) Tryz.fm)),
 (8,(false,aB [] [.d (.int .i64)] (fun _ _=>True) Tryz.oy)),
 (38,(true,kA [af] [.bool] (fun _=>True) (fun e y=>y=true->lq e))),
 (7,(true,kA [.slice bW, .int .i64] [.bool] (fun _=>True) (fun x y=>y=true->l6 x.1 x.2))),
 (75,(true,aM [.slice (.int .i64), .slice (.int .i64)] [.bool] (fun _=>True) (fun x=>jW x.1 x.2))),
 (19,(true,aM [.slice .str, .slice .str] [.bool] (fun _=>True) (fun x=>eL x.1 x.2))),
 (6,(true,aM [] [.bool] (fun _=>True) (fun _=>true))),
 (12,(false,aB Tryz.aL [.obj 0, .d af] (fun a x=>(a.1.2.1.length<=1000000/\a.1.2.2.1.length<=1000000)/\x.1.2.1.length<=99/\0<=(x.1.1:Int)/\(x.1.1:Int)<=1000000000/\bf x.2 1000000) Tryz.rL)),
 (14,(false,aB Tryz.aL [.obj 0, .d .str] (fun _ x=>x.1.2.1.length<=100/\0<=(x.1.1:Int)/\(x.1.1:Int)<=1000000000/\bf x.2 1000000) Tryz.tM)),
 (16,(false,aB Tryz.aL [.obj 0, .d .str] (fun _ x=>∀i,i < x.1.2.1.length->(nth af x.1.2.1 i).2.1.length<=1000000/\(nth af x.1.2.1 i).2.2.1.length<=1000000) Tryz.rN)),
 (20,(false,aB Tryz.aL [.obj 0] (fun _ x=>x.1.2.1.length<=1000000) Tryz.nr)),
 (10,(false,aB Tryz.az [.obj 0] (fun _ x=>bf x 1000000/\∀i,i < x.2.2.1.length->(nth .str x.2.2.1 i).length=64) Tryz.mJ)),
 (11,(false,aB Tryz.az [.obj 0] (fun _ x=>bf x 1000000) Tryz.lY)),
 (13,(false,aB Tryz.cd [.obj 0, .d af] (fun _ x=>x.1.1.length<=1000000) Tryz.tN)),
 (15,(false,aB Tryz.cd [.obj 0, .d .str] (fun _ x=>x.1.1.length<=1000000) Tryz.q8)),
 (17,(false,aB Tryz.cd [.obj 0, .d .str] (fun _ _=>True) Tryz.tO)),
 (21,(false,aB Tryz.cd [.obj 0] (fun _ x=>x.1.1.length<=1000000) Tryz.pH)),
 (18,(true,kA [af,af] [.bool] (fun _=>True) (fun x y=>x.1=x.2->y=true)))]
theorem Tryz.Cd:bn Tryz.prog Tryz.B Tryz.X Tryz.xQ:=
 aG (ar Tryz.kJ) (aG (ar Tryz.fH) (aG (ar Tryz.mc) (aG (Tryz.lD) (aG (Tryz.tL) (aG (Tryz.lE) (aG (Tryz.pF) (aG (Tryz.iY) (aG (Tryz.wc) (aG (fB Tryz.pU) (aG (fB Tryz.Bl) (aG (ar Tryz.wq) (aG (ar Tryz.Bf) (aG (ar Tryz.EM) (aG (Tryz.GO) (aG (Tryz.JN) (aG (Tryz.GQ) (aG (Tryz.A7) (aG (Tryz.wj) (aG (Tryz.xK) (aG (Tryz.JP) (aG (Tryz.Iw) (aG (Tryz.JR) (aG (Tryz.GZ) (aG (fB Tryz.Bi) (bA Tryz.bz)))))))))))))))))))))))))
noncomputable def Tryz.xR (n:Int) (l:List (D bW)):cC:=[
 (200000,fun st=>{X:=Nat × Sh,inv:=fun x=>x.1<=List.length l/\bt x.2 x.2.1.2.1 x.1,bV:=fun x=>List.length l - x.1,ba:=fun x=>[(12,sI x.1)],keep:=[1,6,11],ak:=Tryz.JS,refs:=[(6,1),(9,0),(11,5)],pd:=fun x=>(x.2.1,x.2.2.1,x.2.2.2.1,x.2.2.2.2.1,x.2.2.2.2.2.1,(x.2.1.2.1,()),())})]
theorem Bn (n:Int) (l:List (D bW)) (hw:er [.int .i64, .slice bW] (n,l)):(cG Tryz.B Tryz.xQ Tryz.f3 (Tryz.xR n l) [.int .i64, .slice bW] [.bool] (fun _ y=>y=true) (n,l)).holds:=by
 refine holds_of (p:=
  let za:=true=true
  let zb:=decide (n < (1:Int))
  let zc:=(True)/\(cT (aF.no (1:Int)) (1:Int)=true)
  let zd:=decide (n > (120:Int))
  let ze:=false=true
  let zf:=(True)/\(cT aF.nil (1:Int)=true)
  let zg:=!aF.isNil aF.nil
  let zh:=@List.nil (Int × List UInt8 × Unit) = @List.nil (Int × List UInt8 × Unit)
  let zi:=List.replicate (Int.toNat n) (bE (@List.nil UInt8))
  let zj:=(((-1:Int),false,()),zi,zi,[],())
  let zk:=bf zj (1000000:Nat)
  let zl:=(bu zj).2
  let zm:=au (dq zj).2
  let zn:=(dq zj).1
  let zo:=zn.2.2.2.1
  let zp:=zn.2.2.1
  let zq:=(bu zn).2
  let zr:=!aF.isNil zm
  let zs:=Nat × Sh
  let zt:=List.length l
  let zu:=@List.nil (List UInt8 × List (List UInt8 × Int × Int × Unit) × List (Int × Int × Int × Unit) × Unit) = @List.nil (List UInt8 × List (List UInt8 × Int × Int × Unit) × List (Int × Int × Int × Unit) × Unit)/\True
  let zv:=(!false && true)=true
  let zw:=fun (x_1:Nat × Sh)=>x_1.2.1.2.1
  let zx:=fun (x_1:Nat × Sh)=>(↑x_1.1:Int) < (↑zt:Int)
  let zy:=fun (x_1:Nat × Sh)=>x_1.2.2.2.2.2.1=x_1.2.2.2.2.2.1
  let zz:=fun (x_1:Nat × Sh)=>(nth bW l x_1.1).2.2.2.2.2.1
  let zaa:=fun (x_1:Nat × Sh)=>(0:Int)<=x_1.2.1.1/\x_1.2.1.1<=(1000000000:Int)/\bf x_1.2.2 (1000000:Nat)
  let zab:=fun (x_1:Nat × Sh)=>List.length (zw x_1)<=(1000000:Nat)
  let zac:=fun (x_1:Nat × Sh)=>(dh x_1.2 (zz x_1)).1.2.2.2.2.1
  let zad:=fun (x_1:Nat × Sh)=>(dh x_1.2 (zz x_1)).1.1.2.1
  let zae:=fun (x_1:Nat × Sh)=>(nth bW l x_1.1).2.1
  let zaf:=fun (x_1:Nat × Sh)=>(fl (zw x_1) (zz x_1)).1
  let zag:=fun (x_1:Nat × Sh)=>aC (↑x_1.1:Int)
  let zah:=aC (1:Int)
  let zai:=fun (x_1:Nat × Sh)=>(↑x_1.1:Int) + (1:Int)
  let zaj:=fun (x_1:Nat × Sh)=>(df x_1.2 (zae x_1)).1.2.2.2
  let zak:=fun (x_1:Nat × Sh)=>(zaj x_1).2.1=(zaj x_1).2.1
  let zal:=fun (x_1:Nat × Sh)=>(df x_1.2 (zae x_1)).1.1.2.1
  let zam:=fun (x_1:Nat × Sh)=>(dU (zw x_1) (zae x_1)).1
  let zan:=fun (x_1:Nat × Sh)=>(bu x_1.2.2).1.2
  (True)/\(((!true)=true->(za))/\((!true)=false->(True)/\(∀x_0:Bool,((x_0=true->l6 l (40:Int))->(((!x_0)=true->(za))/\((!x_0)=false->(True)/\((((n < (1:Int)\/(120:Int) < n)->(((zb)=true->(zc))/\((zb)=false->(((zd)=true->(zc))/\((zd)=false->(((!aF.isNil (aF.no (1:Int)))=true->(ze))/\((!aF.isNil (aF.no (1:Int)))=false->(ze)))))))))/\((((1:Int)<=n/\n<=(120:Int))->(((zb)=true->(zf))/\((zb)=false->(((zd)=true->(zf))/\((zd)=false->(((zg)=true->(ze))/\((zg)=false->(zh)/\(zk/\∀(i:Nat),i < List.length zi->List.length (nth Ty.str zi i)=(64:Nat))/\((((zl≠(0:Int))->(True)/\(((!cT (au zl) (4:Int))=true->(ze))/\((!cT (au zl) (4:Int))=false->(zh)/\(zk)/\((True)->(((decide (n < (112:Int)))=true->(True)/\(cT zm (8:Int)=true))/\((decide (n < (112:Int)))=false->(zo=zo)/\(bf zn (1000000:Nat)/\∀(i:Nat),i < List.length zp->List.length (nth Ty.str zp i)=(64:Nat))/\((((zq≠(0:Int))->(((zr)=true->(ze))/\((zr)=false->(((!aF.isNil (au zq))=true->(ze))/\((!aF.isNil (au zq))=false->(ze)))))))/\(((zq=(0:Int))->(((zr)=true->(ze))/\((zr)=false->(((zg)=true->(ze))/\((zg)=false->(((zo=zo/\∃(x':zs),(Prod.fst x'<=zt/\bt (Prod.snd x') (Prod.snd x').1.2.1 (Prod.fst x'))/\True/\((0:Int)=(↑(Prod.fst x'):Int)/\True)/\zu/\zv/\(((bu zn).1.1,(bu zn).1.2,()),zn.1,zn.2.1,zp,zo,([],()),())=((Prod.snd x').1,(Prod.snd x').2.1,(Prod.snd x').2.2.1,(Prod.snd x').2.2.2.1,(Prod.snd x').2.2.2.2.1,(Prod.snd x').1.2,())))/\((∀x_1:Nat × Sh,((x_1.1<=zt/\bt x_1.2 (zw x_1) x_1.1)->((zt<=av)->(((decide (zx x_1))=true->((0:Int)<=(↑x_1.1:Int)/\zx x_1)/\((((nth bW l x_1.1).1 == [(112:UInt8),117,116])=true->((fun a0:Prop=>a0/\a0) ((zy x_1)/\((List.length (zz x_1).2.1<=(1000000:Nat)/\List.length (zz x_1).2.2.1<=(1000000:Nat))/\List.length (zw x_1)<=(99:Nat)/\zaa x_1)/\((True)->(zab x_1)/\((True)->(True)/\(zac x_1=zac x_1)/\(∀(i:Nat),i < List.length (zad x_1)->List.length (nth af (zad x_1) i).2.1<=(1000000:Nat)/\List.length (nth af (zad x_1) i).2.2.1<=(1000000:Nat))/\((True)->(True)/\((True)->(((!cT (au (dh x_1.2 (zz x_1)).2) (fl (zw x_1) (zz x_1)).2)=true->(ze))/\((!cT (au (dh x_1.2 (zz x_1)).2) (fl (zw x_1) (zz x_1)).2)=false->(((!(bG (zad x_1) (zae x_1)).2 == (bG (zaf x_1) (zae x_1)).2)=true->(ze))/\((!(bG (zad x_1) (zae x_1)).2 == (bG (zaf x_1) (zae x_1)).2)=false->(True)/\(∀x_2:Bool,(((bG (zad x_1) (zae x_1)).1=(bG (zaf x_1) (zae x_1)).1->x_2=true)->(((!x_2)=true->(ze))/\((!x_2)=false->(zac x_1=zac x_1)/\(List.length (zad x_1)<=(1000000:Nat))/\((True)->(List.length (zaf x_1)<=(1000000:Nat))/\((True)->(True)/\(((!eL (bm (zad x_1)) (bm (zaf x_1)))=true->(ze))/\((!eL (bm (zad x_1)) (bm (zaf x_1)))=false->((zag x_1)->((zah)->(aC (zai x_1))/\(zac x_1=zac x_1/\∃(x':zs),(Prod.fst x'<=zt/\bt (Prod.snd x') (Prod.snd x').1.2.1 (Prod.fst x'))/\zt - Prod.fst x' < zt - x_1.1/\(zai x_1=(↑(Prod.fst x'):Int)/\True)/\zu/\zv/\((dh x_1.2 (zz x_1)).1.1,(dh x_1.2 (zz x_1)).1.2.1,(dh x_1.2 (zz x_1)).1.2.2.1,(dh x_1.2 (zz x_1)).1.2.2.2.1,zac x_1,(zaf x_1,()),())=((Prod.snd x').1,(Prod.snd x').2.1,(Prod.snd x').2.2.1,(Prod.snd x').2.2.2.1,(Prod.snd x').2.2.2.2.1,(Prod.snd x').1.2,())))))))))))))))))))))))/\(((nth bW l x_1.1).1 == [(112:UInt8),117,116])=false->((((nth bW l x_1.1).1 == [(100:UInt8),114,111,112])=true->((fun a0:Prop=>a0/\a0) ((zy x_1)/\(List.length (zw x_1)<=(100:Nat)/\zaa x_1)/\((True)->(zab x_1)/\((True)->(True)/\(zak x_1)/\(∀(i:Nat),i < List.length (zal x_1)->List.length (nth af (zal x_1) i).2.1<=(1000000:Nat)/\List.length (nth af (zal x_1) i).2.2.1<=(1000000:Nat))/\((True)->(True)/\((True)->(((!cT (au (df x_1.2 (zae x_1)).2) (dU (zw x_1) (zae x_1)).2)=true->(ze))/\((!cT (au (df x_1.2 (zae x_1)).2) (dU (zw x_1) (zae x_1)).2)=false->(((!(bG (zal x_1) (zae x_1)).2 == (bG (zam x_1) (zae x_1)).2)=true->(ze))/\((!(bG (zal x_1) (zae x_1)).2 == (bG (zam x_1) (zae x_1)).2)=false->(True)/\(∀x_2:Bool,(((bG (zal x_1) (zae x_1)).1=(bG (zam x_1) (zae x_1)).1->x_2=true)->(((!x_2)=true->(ze))/\((!x_2)=false->(zak x_1)/\(List.length (zal x_1)<=(1000000:Nat))/\((True)->(List.length (zam x_1)<=(1000000:Nat))/\((True)->(True)/\(((!eL (bm (zal x_1)) (bm (zam x_1)))=true->(ze))/\((!eL (bm (zal x_1)) (bm (zam x_1)))=false->((zag x_1)->((zah)->(aC (zai x_1))/\(zak x_1/\∃(x':zs),(Prod.fst x'<=zt/\bt (Prod.snd x') (Prod.snd x').1.2.1 (Prod.fst x'))/\zt - Prod.fst x' < zt - x_1.1/\(zai x_1=(↑(Prod.fst x'):Int)/\True)/\zu/\zv/\((df x_1.2 (zae x_1)).1.1,(df x_1.2 (zae x_1)).1.2.1,(df x_1.2 (zae x_1)).1.2.2.1,(zaj x_1).1,(zaj x_1).2.1,(zam x_1,()),())=((Prod.snd x').1,(Prod.snd x').2.1,(Prod.snd x').2.2.1,(Prod.snd x').2.2.2.1,(Prod.snd x').2.2.2.2.1,(Prod.snd x').1.2,())))))))))))))))))))))))/\(((nth bW l x_1.1).1 == [(100:UInt8),114,111,112])=false->(zy x_1)/\(bf x_1.2.2 (1000000:Nat)/\∀(i:Nat),i < List.length x_1.2.2.2.2.1->List.length (nth Ty.str x_1.2.2.2.2.1 i)=(64:Nat))/\(((((bu x_1.2.2).2≠(0:Int))->(((!aF.isNil (au (bu x_1.2.2).2))=true->(ze))/\((!aF.isNil (au (bu x_1.2.2).2))=false->(ze)))))/\((((bu x_1.2.2).2=(0:Int))->(((zg)=true->(ze))/\((zg)=false->(zy x_1)/\(∀(i:Nat),i < List.length (zan x_1)->List.length (nth af (zan x_1) i).2.1<=(1000000:Nat)/\List.length (nth af (zan x_1) i).2.2.1<=(1000000:Nat))/\((True)->(True)/\((True)->(((!(bG (zan x_1) (zae x_1)).2 == (bG (zw x_1) (zae x_1)).2)=true->(ze))/\((!(bG (zan x_1) (zae x_1)).2 == (bG (zw x_1) (zae x_1)).2)=false->(True)/\(∀x_2:Bool,(((bG (zan x_1) (zae x_1)).1=(bG (zw x_1) (zae x_1)).1->x_2=true)->(((!x_2)=true->(ze))/\((!x_2)=false->(zy x_1)/\(List.length (zan x_1)<=(1000000:Nat))/\((True)->(zab x_1)/\((True)->(True)/\(((!eL (bm (zan x_1)) (bm (zw x_1)))=true->(ze))/\((!eL (bm (zan x_1)) (bm (zw x_1)))=false->((zag x_1)->((zah)->(aC (zai x_1))/\(zy x_1/\∃(x':zs),(Prod.fst x'<=zt/\bt (Prod.snd x') (Prod.snd x').1.2.1 (Prod.fst x'))/\zt - Prod.fst x' < zt - x_1.1/\(zai x_1=(↑(Prod.fst x'):Int)/\True)/\zu/\zv/\(((bu x_1.2.2).1.1,zan x_1,()),x_1.2.2.1,x_1.2.2.2.1,x_1.2.2.2.2.1,x_1.2.2.2.2.2.1,x_1.2.1.2,())=((Prod.snd x').1,(Prod.snd x').2.1,(Prod.snd x').2.2.1,(Prod.snd x').2.2.2.1,(Prod.snd x').2.2.2.2.1,(Prod.snd x').1.2,()))))))))))))))))))))))))))/\((decide (zx x_1))=false->(za))))))))))))))))))))))/\(((zl=(0:Int))->(True)/\(((!cT aF.nil (4:Int))=true->(ze))/\((!cT aF.nil (4:Int))=false->(ze)))))))))))))))))))))) (by kernel_rfl) ?_
 dsimp -iota -proj -eta only
 refine ⟨trivial,⟨fun h0=>absurd (show false=true from h0) (by decide),fun h0=>⟨trivial,fun x_0 q_0=>iB (fun h1=>rfl) (fun h1=>⟨trivial,⟨fun h2=>iL (fun h3=>⟨trivial,?a⟩) (fun h3=>iL (fun h4=>⟨trivial,?b⟩) (fun h4=>⟨fun h5 => ?c,fun h5=>absurd (show true=false from h5) (by decide)⟩)),fun h2=>iL (fun h3=>⟨trivial,?d⟩) (fun h3=>iL (fun h4=>⟨trivial,?e⟩) (fun h4=>⟨fun h5=>absurd (show false=true from h5) (by decide),fun h5=>⟨rfl,(AJ n),⟨fun h6=>⟨trivial,iB (fun h7=>(Bool.noConfusion ((Ib (n:=n) (by omega)).symm.trans h7))) (fun h7=>⟨rfl,((AJ n).1),fun h8=>iL (fun h9=>⟨trivial,(Ew (by omega))⟩) (fun h9=>⟨rfl,⟨(mG (n:=n) (by omega)).lX,(mG (n:=n) (by omega)).sec⟩,⟨fun h10=>iB (fun h11 => ?f) (fun h11=>iB (fun h12 => ?g) (fun h12 => ?h)),fun h10=>iB (fun h11=>(absurd (jA (kI (n:=n) (by omega))).1 (c6 h11))) (fun h11=>⟨fun h12=>absurd (show false=true from h12) (by decide),fun h12=>⟨(⟨rfl,(0,((2,[],()),(dq (fC n)).1)),⟨Nat.zero_le _,mG (by omega)⟩,trivial,⟨rfl,trivial⟩,⟨rfl,trivial⟩,rfl,Prod.ext (mG (n:=n) (by omega)).again rfl⟩),fun x_1 q_1 h13=>iL (fun h14=>⟨?i,iQ (fun h15=>(show ∀{a0:Prop},a0->a0/\a0 from fun g0=>⟨g0,g0⟩) (⟨rfl,?j,fun h16=>⟨q_1.2.len,fun h17=>⟨trivial,rfl,?k,fun h18=>⟨trivial,fun h19=>iB (fun h20 => ?l) (fun h20=>⟨fun h21 => ?m,fun h21=>⟨trivial,fun x_2 q_2=>iB (fun h22 => ?n) (fun h22=>⟨rfl,?o,fun h23=>⟨?p,fun h24=>⟨trivial,iB (fun h25 => ?q) (fun h25 h26 h27=>⟨?r,?s⟩)⟩⟩⟩)⟩⟩)⟩⟩⟩⟩)) (fun h15=>iQ (fun h16=>(show ∀{a0:Prop},a0->a0/\a0 from fun g0=>⟨g0,g0⟩) (⟨rfl,?t,fun h17=>⟨q_1.2.len,fun h18=>⟨trivial,rfl,?u,fun h19=>⟨trivial,fun h20=>iB (fun h21 => ?v) (fun h21=>⟨fun h22 => ?w,fun h22=>⟨trivial,fun x_2 q_2=>iB (fun h23 => ?x) (fun h23=>⟨rfl,?y,fun h24=>⟨?z,fun h25=>⟨trivial,iB (fun h26 => ?a0) (fun h26 h27 h28=>⟨?a1,?a2⟩)⟩⟩⟩)⟩⟩)⟩⟩⟩⟩)) (fun h16=>⟨rfl,⟨q_1.2.lX,q_1.2.sec⟩,⟨fun h17=>iB (fun h18 => ?a3) (fun h18 => ?a4),fun h17=>⟨fun h18=>absurd (show false=true from h18) (by decide),fun h18=>⟨rfl,q_1.2.IU,fun h19=>⟨trivial,fun h20=>⟨fun h21 => ?a5,fun h21=>⟨trivial,fun x_2 q_2=>iB (fun h22 => ?a6) (fun h22=>⟨rfl,?a7,fun h23=>⟨?a8,fun h24=>⟨trivial,iB (fun h25 => ?a9) (fun h25 h26 h27=>⟨?aa,?ab⟩)⟩⟩⟩)⟩⟩⟩⟩⟩⟩⟩))⟩) (fun h14=>rfl)⟩⟩)⟩⟩)⟩)⟩,fun h6=>⟨trivial,⟨fun h7=>(absurd ((congrArg Prod.snd (AF (n:=n) (by omega))).symm.trans h6) (by decide)),fun h7=>absurd (show true=false from h7) (by decide)⟩⟩⟩⟩⟩))⟩⟩)⟩⟩⟩
 case a|b=>trivial
 case c|d|e|i=>omega
 case f|g|h=>exact absurd (mG (n:=n) (by omega)).rI h10
 case j=>
  have hk:x_1.1<=1000:=(by have a:=(q_0 h1).1;have b:=q_1.1;omega)
  have hl:=((q_0 h1).2 x_1.1 (by omega)).2.2;exact ⟨⟨by have:=hl.2.1;omega,by have:=hl.2.2.1;omega⟩,q_1.2.Js hk⟩
 case k=>
  have hk:x_1.1<=1000:=(by have a:=(q_0 h1).1;have b:=q_1.1;omega)
  exact (gj q_1.2 hk _).2.each
 case l=>
  have hk:x_1.1<=1000:=(by have a:=(q_0 h1).1;have b:=q_1.1;omega)
  exact Bool.noConfusion ((q_1.2.fR hk _).symm.trans h20)
 case m=>
  simp only [bl,reduceCtorEq] at h21
  have hk:x_1.1<=1000:=(by have a:=(q_0 h1).1;have b:=q_1.1;omega)
  exact absurd (congrArg (fun z=>(bG z (nth bW l x_1.1).2.1).2) (gj q_1.2 hk (nth bW l x_1.1).2.2.2.2.2.1).2.list) h21
 case n=>
  simp only [bl,reduceCtorEq] at h21
  have hk:x_1.1<=1000:=(by have a:=(q_0 h1).1;have b:=q_1.1;omega)
  exact Bool.noConfusion ((q_2 (congrArg (fun z=>(bG z (nth bW l x_1.1).2.1).1) (gj q_1.2 hk (nth bW l x_1.1).2.2.2.2.2.1).2.list)).symm.trans h22)
 case o=>
  simp only [bl,reduceCtorEq] at h21
  have hk:x_1.1<=1000:=(by have a:=(q_0 h1).1;have b:=q_1.1;omega)
  exact (gj q_1.2 hk _).2.len
 case p=>
  simp only [bl,reduceCtorEq] at h21
  have hk:x_1.1<=1000:=(by have a:=(q_0 h1).1;have b:=q_1.1;omega)
  exact (gj q_1.2 hk _).2.KB
 case q=>
  simp only [bl,reduceCtorEq] at h21
  have hk:x_1.1<=1000:=(by have a:=(q_0 h1).1;have b:=q_1.1;omega)
  exact Bool.noConfusion ((tG (congrArg bm (gj q_1.2 hk (nth bW l x_1.1).2.2.2.2.2.1).2.list)).symm.trans h25)
 case r|aa=>
  simp only [bl,reduceCtorEq] at h21
  have hk:x_1.1<=1000:=(by have a:=(q_0 h1).1;have b:=q_1.1;omega)
  simp only [aC];omega
 case s=>
  simp only [bl,reduceCtorEq] at h21
  have hk:x_1.1<=1000:=(by have a:=(q_0 h1).1;have b:=q_1.1;omega)
  have hb:=(gj q_1.2 hk (nth bW l x_1.1).2.2.2.2.2.1).2
  exact ⟨rfl,(x_1.1 + 1,(dh x_1.2 _).1),⟨by simp only;omega,hb.self⟩,by simp only;omega,⟨by simp only;omega,trivial⟩,⟨rfl,trivial⟩,rfl,congrArg (fun z=>(_,_,_,_,_,(z,()),())) hb.list.symm⟩
 case t=>
  have hk:x_1.1<=1000:=(by have a:=(q_0 h1).1;have b:=q_1.1;omega)
  exact q_1.2.Ia hk
 case u=>
  have hk:x_1.1<=1000:=(by have a:=(q_0 h1).1;have b:=q_1.1;omega)
  exact (fM q_1.2 hk _).2.each
 case v=>
  have hk:x_1.1<=1000:=(by have a:=(q_0 h1).1;have b:=q_1.1;omega)
  exact Bool.noConfusion ((q_1.2.KX hk _).symm.trans h21)
 case w=>
  simp only [bl,reduceCtorEq] at h22
  have hk:x_1.1<=1000:=(by have a:=(q_0 h1).1;have b:=q_1.1;omega)
  exact absurd (congrArg (fun z=>(bG z (nth bW l x_1.1).2.1).2) (fM q_1.2 hk (nth bW l x_1.1).2.1).2.list) h22
 case x=>
  simp only [bl,reduceCtorEq] at h22
  have hk:x_1.1<=1000:=(by have a:=(q_0 h1).1;have b:=q_1.1;omega)
  exact Bool.noConfusion ((q_2 (congrArg (fun z=>(bG z (nth bW l x_1.1).2.1).1) (fM q_1.2 hk (nth bW l x_1.1).2.1).2.list)).symm.trans h23)
 case y=>
  simp only [bl,reduceCtorEq] at h22
  have hk:x_1.1<=1000:=(by have a:=(q_0 h1).1;have b:=q_1.1;omega)
  exact (fM q_1.2 hk _).2.len
 case z=>
  simp only [bl,reduceCtorEq] at h22
  have hk:x_1.1<=1000:=(by have a:=(q_0 h1).1;have b:=q_1.1;omega)
  exact (fM q_1.2 hk _).2.KB
 case a0=>
  simp only [bl,reduceCtorEq] at h22
  have hk:x_1.1<=1000:=(by have a:=(q_0 h1).1;have b:=q_1.1;omega)
  exact Bool.noConfusion ((tG (congrArg bm (fM q_1.2 hk (nth bW l x_1.1).2.1).2.list)).symm.trans h26)
 case a1=>
  simp only [bl,reduceCtorEq] at h22
  have hk:x_1.1<=1000:=(by have a:=(q_0 h1).1;have b:=q_1.1;omega)
  simp only [aC];omega
 case a2=>
  simp only [bl,reduceCtorEq] at h22
  have hk:x_1.1<=1000:=(by have a:=(q_0 h1).1;have b:=q_1.1;omega)
  have hb:=(fM q_1.2 hk (nth bW l x_1.1).2.1).2
  exact ⟨rfl,(x_1.1 + 1,(df x_1.2 _).1),⟨by simp only;omega,hb.self⟩,by simp only;omega,⟨by simp only;omega,trivial⟩,⟨rfl,trivial⟩,rfl,congrArg (fun z=>(_,_,_,_,_,(z,()),())) hb.list.symm⟩
 case a3|a4=>exact absurd q_1.2.rI h17
 case a5=>
  simp only [bl,reduceCtorEq] at h21
  exact absurd (congrArg (fun z=>(bG z (nth bW l x_1.1).2.1).2) q_1.2.nq) h21
 case a6=>
  simp only [bl,reduceCtorEq] at h21
  exact Bool.noConfusion ((q_2 (congrArg (fun z=>(bG z (nth bW l x_1.1).2.1).1) q_1.2.nq)).symm.trans h22)
 case a7=>
  simp only [bl,reduceCtorEq] at h21
  exact q_1.2.KA
 case a8=>
  simp only [bl,reduceCtorEq] at h21
  exact q_1.2.len
 case a9=>
  simp only [bl,reduceCtorEq] at h21
  exact Bool.noConfusion ((tG (congrArg bm q_1.2.nq)).symm.trans h25)
 case ab=>
  simp only [bl,reduceCtorEq] at h21
  exact ⟨rfl,(x_1.1 + 1,x_1.2),⟨by simp only;omega,q_1.2.next⟩,by simp only;omega,⟨by simp only;omega,trivial⟩,⟨rfl,trivial⟩,rfl,Prod.ext q_1.2.again rfl⟩
theorem Tryz.Bo:bj Tryz.prog Tryz.B.eT Tryz.X 3 [.int .i64, .slice bW] [.bool] (fun _=>True) (fun _ y=>y=true):=
 bN (X:=Tryz.X) Tryz.Cd Tryz.func3 (by kernel_rfl) (fun x=>Tryz.xR x.1 x.2) (fun x hw hp=>Bn x.1 x.2 hw)
open Go.ChangeShapes Go.WideShapes Go.ChangeAt Go.RowKit in
theorem Tryz.rR {W:World} (hL:laidMetH Tryz.prog Rows.shelfSaysRow.laid W) (hsh:W.ShapedOpen Tryz.prog):Tryz.KC W:=by
 rw [MakeChecks.laidMetH_plain _ _ _ (by kernel_rfl)] at hL
 exact ⟨AL (g:=5) (t:=283) (e:=39) (n:=20) (by kernel_rfl) (by kernel_rfl) (by kernel_rfl) (by kernel_rfl) (by kernel_rfl) (by kernel_rfl) ((show (Rows.laid_internal_strconv_uint64pow10:DataW Unit)=Lib.tabData .u64 Lib.pow10Tab from by kernel_rfl)▸Lib.laidMet.reads hL (.tail _ (.tail _ (.head _)))),
  AK (g:=0) (t:=3) (zero:=#[.int .i64 0]) hsh (of_decide_eq_true (by kernel_rfl)) (by kernel_rfl) rfl (by kernel_rfl) (by kernel_rfl) (by kernel_rfl),
  ox (g:=3) (t:=27) (by kernel_rfl) (by kernel_rfl) (by kernel_rfl) (Lib.laidMet.reads hL (.tail _ (.tail _ (.tail _ (.tail _ (.tail _ (.head _))))))),
  ox (g:=4) (t:=27) (by kernel_rfl) (by kernel_rfl) (by kernel_rfl) (Lib.laidMet.reads hL (.tail _ (.tail _ (.tail _ (.tail _ (.head _))))))⟩
open Go.ChangeShapes Go.WideShapes Go.ChangeAt Go.RowKit in
set_option maxRecDepth 100000 in
theorem tP (os:Os) (started:os.Started) (H:Type) (enc:TypeId × Value->H) :
  ReturnsInHanded {} Tryz.checked os 3 .any (fun w args=>(Rows.shelfSaysSpec.pre enc Tryz.prog Tryz.f3 [] false w args/\laidMetH Tryz.prog Rows.shelfSaysRow.laid w)/\sizedMet enc Tryz.prog Tryz.f3 (OpenSpec.ofChange Rows.shelfSaysSpec) false w args) (Rows.shelfSaysSpec.post enc Tryz.prog Tryz.f3 false true false false):=by
 refine BX (C:=Tryz.checked) (X:=fun w _=>laidMetH Tryz.prog Rows.shelfSaysRow.laid w) (fun _ _ _ hh h=>h.of_heap hh) (by kernel_rfl) started (by kernel_rfl) Tryz.func3
  (ChangeSpec.witness_shaped (enc:=enc) (C:=Tryz.checked) (os:=os) (X:=fun w _=>laidMetH Tryz.prog Rows.shelfSaysRow.laid w) false (World.laidAll Tryz.prog os Rows.shelfSaysRow.laid) #[.int .i64 0, .slice none 0 0] 8 (World.laidAll_os _ _ _) (World.shaped_of_ZipB (by kernel_rfl) (by kernel_rfl)) (by kernel_rfl) (by kernel_rfl) (by kernel_rfl)
   (by rw [MakeChecks.laidMetH_plain _ _ _ (by kernel_rfl)];exact laidMet_laidAll _ (by kernel_rfl) (by kernel_rfl))) ?_
 intro W base args ds gs before hval hW hL hsh
 exact Ft (C:=Tryz.checked) (n:=16) rfl (by kernel_rfl) (fun ds h=>by match ds,h with | [_,_],_=>rfl) (by kernel_rfl) (by kernel_rfl) (by kernel_rfl) (tb:=4) (by kernel_rfl) Tryz.Bo hval hW (Tryz.rR hL hsh) (fun _ _=>trivial)
open Go.ChangeShapes Go.WideShapes Go.ChangeAt Go.RowKit in
theorem wx:Rows.ShelfSaysSaid:=
 OpenClaim.holds_of_wide 3 Tryz.f3 rfl rfl rfl rfl rfl rfl rfl ⟨rfl,rfl,rfl,rfl,rfl⟩ rfl rfl rfl rfl rfl (by kernel_rfl) Tryz.func3 (by kernel_rfl)
  (of_decide_eq_true (by kernel_rfl)) (by unfold Func.isWrapper;first | (rw [if_pos (by decide +kernel)];kernel_rfl) | (rw [if_neg (by decide +kernel)];exact ⟨rfl,rfl⟩))
  (fun os started H enc _=>tP os started H enc)
theorem shelfSays_holds:Rows.ShelfSaysCardSaid:=
 Claim7.holds_tied_plain_at .later [] [.data, .data, .data, .data, .sentinel, .sentinel, .pinned] true (true,"e38ec6478babe08333945fe4633e79946dcc9369f26e0deb9e463de81cb3737d") true
  wx (fun _ h=>by cases h) (by kernel_rfl) (fun _ h=>by cases h) shelfSays_row_tie rfl ⟨rfl,rfl⟩ (by kernel_rfl) rfl
  (fun f fn hf hfn=>by
   obtain rfl:f=3:=Option.some.inj ((show Tryz.prog.funcNamed Rows.shelfSaysRow.func=some 3 by kernel_rfl).symm.trans hf) |>.symm
   obtain rfl:fn=Tryz.f3:=(Option.some.inj (Tryz.func3.symm.trans hfn)).symm
   exact ⟨by kernel_rfl,fun j t ht=>by
    have hall:(Tryz.f3.params.toList.all fun t => !Tryz.prog.wantsStandIn t)=true:=by kernel_rfl
    have hm:t∈Tryz.f3.params.toList:=Array.mem_def.1 (Array.mem_of_getElem? ht)
    exact (by simpa using List.all_eq_true.1 hall t hm:Tryz.prog.wantsStandIn t=false)⟩)
  (by kernel_rfl)
#print axioms shelfSays_holds
end Go.Proofs.YtgokjhhcfemnhaaGreatDoor

