/- A part of the proof that the law ImageSaysCard holds of the given program: facts that are used there. -/
import Derived.Test.YtgokjhhcfemnhaaGreatDoorPart5
import Derived.Test.YtgokjhhcfemnhaaGreatDoorRows
import Derived.Test.YtgokjhhcfemnhaaGreatDoorTie
import Derived.Test.YtgokjhhcfemnhaaGreatDoorCards
import Derived.LaidMore
set_option linter.unusedSimpArgs false
set_option linter.unusedVariables false
set_option maxRecDepth 100000
set_option maxHeartbeats 4000000
namespace Go.Proofs.YtgokjhhcfemnhaaGreatDoor
open Go.Vg Go.Mrl
noncomputable def Tryz.An:List (FuncId × (Bool × bQ)):=[(75,(true,aM [.slice (.int .i64), .slice (.int .i64)] [.bool] (fun _=>True) (fun x=>iu x.1 x.2)))]
theorem Tryz.EG:bU Tryz.prog Tryz.B Tryz.X Tryz.An:=
 aS (aE Tryz.p5) (bY Tryz.bZ)
def Ao (a:List (D bE)) (b:List (D bE)):cy:=[
 (0,fun st=>{X:=Nat,inv:=fun i=>i<=a.length,aW:=fun i=>a.length - i,aQ:=fun i=>[(5,sI i)],aU:=[0,1]})]
theorem Dr (a:List (D bE)) (b:List (D bE)) (hw:c8 [.slice bE, .slice bE] (a,b)):(cp Tryz.B Tryz.An Tryz.f33 (Ao a b) [.slice bE, .slice bE] [.bool] (fun x y=>x.1=x.2->y=true) (a,b)).holds:=by
 refine holds_of (p:=
  let za:=List.length a
  let zb:=(↑(List.length b):Int)
  let zc:=a=b->false=true
  let zd:=fun (x_0:Nat)=>(0:Int)<=(↑x_0:Int)/\(↑x_0:Int) < (↑za:Int)
  let ze:=fun (x_0:Nat)=>(0:Int)<=(↑x_0:Int)/\(↑x_0:Int) < zb
  ((za<=aG)->((List.length b<=aG)->((((↑za:Int) != zb)=true->(zc))/\(((↑za:Int) != zb)=false->(∃(x:Nat),x<=za/\((0:Int)=(↑x:Int)/\True)/\True)/\(∀x_0:Nat,((x_0<=za)->((za<=aG)->(((decide ((↑x_0:Int) < (↑za:Int)))=true->(zd x_0)/\(ze x_0)/\(True)/\(zd x_0)/\(ze x_0)/\(((!(nth bE a x_0).1 == (nth bE b x_0).1)=true->(zc))/\((!(nth bE a x_0).1 == (nth bE b x_0).1)=false->(zd x_0)/\(ze x_0)/\((((nth bE a x_0).2.1 != (nth bE b x_0).2.1)=true->(zc))/\(((nth bE a x_0).2.1 != (nth bE b x_0).2.1)=false->(((!iu (nth bE a x_0).2.2.1 (nth bE b x_0).2.2.1)=true->(zc))/\((!iu (nth bE a x_0).2.2.1 (nth bE b x_0).2.2.1)=false->((aC (↑x_0:Int))->((aC (1:Int))->(aC ((↑x_0:Int) + (1:Int)))/\(∃(x':Nat),x'<=za/\za - x' < za - x_0/\((↑x_0:Int) + (1:Int)=(↑x':Int)/\True)/\True))))))))))/\((decide ((↑x_0:Int) < (↑za:Int)))=false->(a=b->true=true))))))))))) (by kernel_rfl) ?_
 dsimp -iota -proj -eta only
 refine fun h0 h1=>iN (fun h2=>(by intro e;subst e;exact absurd rfl h2)) (fun h2=>⟨(⟨0,by omega,⟨rfl,trivial⟩,trivial⟩),fun x_0 q_0 h3=>iL (fun h4=>⟨?a,?b,trivial,?c,?d,⟨fun h5 => ?e,fun h5=>⟨?f,?g,iN (fun h6 => ?h) (fun h6=>iB (fun h7 => ?i) (fun h7 h8 h9=>⟨?j,?k⟩))⟩⟩⟩) (fun h4=>(by simp_all))⟩)
 case a|b|c|d=>omega
 case e=>
  simp only [bl,reduceCtorEq] at h5
  intro e;subst e;exact absurd rfl h5
 case f|g=>
  simp only [bl,reduceCtorEq] at h5
  omega
 case h=>
  simp only [bl,reduceCtorEq] at h5
  intro e;subst e;exact absurd rfl h6
 case i=>
  simp only [bl,reduceCtorEq] at h5
  intro e;subst e;simp [iu] at h7
 case j=>
  simp only [bl,reduceCtorEq] at h5
  simp only [aC,aG] at *;omega
 case k=>
  simp only [bl,reduceCtorEq] at h5
  exact ⟨x_0 + 1,by omega,by omega,⟨by omega,trivial⟩,(by trivial)⟩
theorem Tryz.Ds:bG Tryz.prog Tryz.B.eT Tryz.X 33 [.slice bE, .slice bE] [.bool] (fun _=>True) (fun x y=>x.1=x.2->y=true):=
 bI (X:=Tryz.X) Tryz.EG Tryz.func33 (by kernel_rfl) (fun x=>Ao x.1 x.2) (fun x hw hp=>Dr x.1 x.2 hw)
noncomputable def Tryz.Ap:List (FuncId × (Bool × bQ)):=[(87,(true,aM [.str] [.err] (fun _=>True) (fun s=>aY (aK s)))),
 (94,(true,aM [.str] [.int .i64] (fun _=>True) (fun s=>aK s))),
 (9,(true,aM [.err, .int .i64] [.bool] (fun _=>True) (fun x=>cG x.1 x.2))),
 (58,(false,bM [] [] (fun _ _=>True) Tryz.tT)),
 (59,(false,bM Tryz.bw [.obj 0, .d .str, .d .str] (fun _ x=>x.2.1.1.length<=6/\0<=x.1.1/\x.1.1<=1000000) Tryz.mZ)),
 (31,(false,bM Tryz.bw [.obj 0, .d .str] (fun _ x=>x.2.1.1.length<=6) Tryz.rm)),
 (36,(true,aM [.slice bE, .int .i64] [.int .i64, .bool] (fun x=>vE x.1) (fun x=>fV x.1 x.2)))]
theorem Tryz.EH:bU Tryz.prog Tryz.B Tryz.X Tryz.Ap:=
 aS (aE Tryz.fM) (aS (aE Tryz.dz) (aS (aE Tryz.gv) (aS (Tryz.FB) (aS (Tryz.zL) (aS (Tryz.FK) (aS (aE Tryz.JC) (bY Tryz.bZ)))))))
theorem JT  (hw:c8 [] ()):(cp Tryz.B Tryz.Ap Tryz.f30 [] [] [.bool] (fun x y=>y=(fun _=>true) x) ()).holds:=by
 refine holds_of (p:=
  let za:=false=true
  let zb:=((0:Int) + (1:Int),())
  let zc:=eN cO (@List.nil FE) [(97:UInt8)] ([(119:UInt8),111,114,100,32,53,10,98,97,115,101,32,48,32,51,10],zb) (0:Int)
  let zd:=cu (bS (zb,(zc,kH cO (@List.nil FE) [(97:UInt8)] (0:Int),()),())) [(97:UInt8)]
  let ze:=fV zd.1 (0:Int)
  (True)/\((True)->(List.length (@List.nil FE)<=(6:Nat)/\(0:Int)<=(0:Int)/\(0:Int)<=(1000000:Int))/\((True)->(((!bB.isNil (aY (0:Int)))=true->(za))/\((!bB.isNil (aY (0:Int)))=false->(List.length zc<=(6:Nat))/\((True)->(vE zd.1)/\(True)/\(((cG (aY zd.2) (0:Int))=true->((List.length zd.1<=aG)->((((↑(List.length zd.1):Int) == (1:Int))=true->(((ze.2)=true->((ze.1 == (3:Int))=true))/\((ze.2)=false->(za))))/\(((↑(List.length zd.1):Int) == (1:Int))=false->(za)))))/\((cG (aY zd.2) (0:Int))=false->(za))))))))) (by kernel_rfl) ?_
 dsimp -iota -proj -eta only
 refine ⟨trivial,fun h0=>⟨?a,fun h1=>⟨fun h2=>absurd (show false=true from h2) (by decide),fun h2=>⟨?b,fun h3=>⟨(mY (hZ (x:=CF) (by decide)) _),trivial,⟨fun h4 h5=>iQ (fun h6=>⟨fun h7=>(by exact (show ((fV (cu (bS CF) [97]).1 0).1 == 3)=true by rw [rh];rfl)),fun h7=>(by exact Bool.noConfusion ((show (fV (cu (bS CF) [97]).1 0).2=true by rw [rh];rfl).symm.trans h7))⟩) (fun h6=>(by exact absurd (show ((cu (bS CF) [97]).1.length:Int)=1 by rw [rh];rfl) h6)),fun h4=>(by exact Bool.noConfusion ((show cG (aY (cu (bS CF) [97]).2) 0=true by rw [rh];rfl).symm.trans h4))⟩⟩⟩⟩⟩⟩
 case a|b=>trivial
theorem Tryz.JU:bG Tryz.prog Tryz.B.eT Tryz.X 30 [] [.bool] (fun _=>True) (fun x y=>y=(fun _=>true) x):=
 bI (X:=Tryz.X) Tryz.EH Tryz.func30 (by kernel_rfl) (fun _=>[]) (fun x hw hp=>JT  hw)
noncomputable def Tryz.Aq:List (FuncId × (Bool × bQ)):=[(87,(true,aM [.str] [.err] (fun _=>True) (fun s=>aY (aK s)))),
 (94,(true,aM [.str] [.int .i64] (fun _=>True) (fun s=>aK s))),
 (9,(true,aM [.err, .int .i64] [.bool] (fun _=>True) (fun x=>cG x.1 x.2))),
 (30,(true,aM [] [.bool] (fun _=>True) (fun _=>true))),
 (7,(true,fJ [.slice bT, .int .i64] [.bool] (fun _=>True) (fun x y=>y=true->lU x.1 x.2))),
 (24,(false,bM [] [.d (.slice bT)] (fun _ _=>True) Tryz.tp)),
 (31,(false,bM Tryz.bw [.obj 0, .d .str] (fun _ x=>x.2.1.1.length<=6) Tryz.rm)),
 (34,(false,bM Tryz.bw [.obj 0, .d .str] (fun _ x=>x.2.1.1.length<=6) Tryz.na)),
 (36,(true,aM [.slice bE, .int .i64] [.int .i64, .bool] (fun x=>vE x.1) (fun x=>fV x.1 x.2))),
 (32,(false,bM Tryz.bC [.obj 0, .d .str] (fun _ x=>x.1.1.length<=6) Tryz.tm)),
 (33,(true,fJ [.slice bE, .slice bE] [.bool] (fun _=>True) (fun x y=>x.1=x.2->y=true))),
 (35,(true,aM [.slice aN, .slice aN] [.bool] (fun _=>True) (fun x=>jc x.1 x.2)))]
theorem Tryz.EI:bU Tryz.prog Tryz.B Tryz.X Tryz.Aq:=
 aS (aE Tryz.fM) (aS (aE Tryz.dz) (aS (aE Tryz.gv) (aS (aE Tryz.JU) (aS (dj Tryz.tn) (aS (Tryz.LL) (aS (Tryz.FK) (aS (Tryz.Aa) (aS (aE Tryz.JC) (aS (Tryz.HC) (aS (dj Tryz.Ds) (aS (aE Tryz.x5) (bY Tryz.bZ))))))))))))
def Ar (l:List (D bT)) (s:List UInt8) (a:Int):cy:=[
 (0,fun st=>{X:=Nat,inv:=fun i=>i<=List.length (aX (.slice bE) st 12)/\fV (List.drop i (aX (.slice bE) st 12)) a=fV (aX (.slice bE) st 12) a,aW:=fun i=>List.length (aX (.slice bE) st 12) - i,aQ:=fun i=>[(21,sI i)],aU:=[2,12,15,16,17,19,20]})]
theorem Dt (l:List (D bT)) (s:List UInt8) (a:Int) (hw:c8 [.slice bT, .str, .int .i64] (l,s,a)):(cp Tryz.B Tryz.Aq Tryz.f5 (Ar l s a) [.slice bT, .str, .int .i64] [.bool] (fun _ y=>y=true) (l,s,a)).holds:=by
 refine holds_of (p:=
  let za:=true=true
  let zb:=false=true
  let zc:=(dw l).1
  let zd:=List.length zc.2.1.1<=(6:Nat)
  let ze:=(dw l).2.1
  let zf:=cu (bS zc) s
  let zg:=cu (bH ze) s
  let zh:=zg.1
  let zi:=bA (bS zc) s
  let zj:=aY zi.2.2.2.2
  let zk:=List.length zi.1<=aG
  let zl:=List.length zi.2.1
  let zm:=(↑(List.length zi.1):Int)
  let zn:=(↑zl:Int)
  let zo:=aC (zm + zn)
  let zp:=List.length zi.2.2.1
  let zq:=(↑zp:Int)
  let zr:=zm + zn + zq
  let zs:=List.length zi.2.2.2.1
  let zt:=zr + (↑zs:Int)
  let zu:=List.length zh
  let zv:=zu<=aG
  let zw:=(↑zu:Int)
  let zx:=fV zh a
  let zy:=fun (x_2:Nat)=>(↑x_2:Int)
  let zz:=fun (x_2:Nat)=>(0:Int)<=zy x_2
  let zaa:=fun (x_2:Nat)=>zz x_2/\zy x_2 < zw
  let zab:=fun (x_2:Nat)=>(nth bE zh x_2).2.1
  let zac:=fun (x_2:Nat)=>List.length (nth aA zi.2.1 x_2).2.1
  let zad:=fun (x_2:Nat)=>List.length (nth bE zh x_2).2.2.1
  let zae:=fun (x_2:Nat)=>(↑(zad x_2):Int)
  let zaf:=(fV zf.1 a).2
  let zag:=(fV zf.1 a).1
  let zah:=(dw l).2.2.1
  let zai:=fun (x_2:Nat)=>((aC (zy x_2))->((aC (1:Int))->(aC (zy x_2 + (1:Int)))/\(∃(x':Nat),(x'<=zu/\fV (List.drop x' zh) a=zx)/\zu - x' < zu - x_2/\(zy x_2 + (1:Int)=(↑x':Int)/\True)/\(C.du (1:Nat)=C.du (1:Nat)/\zc.1.1=zc.1.1/\True)/\zc.2.1=zc.2.1/\(ze=ze/\zah=zah/\True)/\True)))
  (True)/\(((!true)=true->(za))/\((!true)=false->(True)/\(∀x_0:Bool,((x_0=true->lU l (30:Int))->(((!x_0)=true->(za))/\((!x_0)=false->((List.length s<=aG)->(((decide ((↑(List.length s):Int) > (50:Int)))=true->(za))/\((decide ((↑(List.length s):Int) > (50:Int)))=false->(True)/\((True)->(((!true)=true->(zb))/\((!true)=false->(zd)/\((True)->(List.length ze<=(6:Nat))/\((True)->(True)/\(((!cG (aY zf.2) zg.2)=true->(zb))/\((!cG (aY zf.2) zg.2)=false->(True)/\(∀x_1:Bool,((zf.1=zh->x_1=true)->(((!x_1)=true->(zb))/\((!x_1)=false->(zd)/\((True)->(((decide (zg.2 > (0:Int)))=true->(True)/\(((cG zj zg.2)=true->((zk)->((zl<=aG)->((aC zm)->((aC zn)->(zo)/\((zp<=aG)->((zo)->((aC zq)->(aC zr)/\((zs<=aG)->((aC zr)->((aC (↑zs:Int))->(aC zt)/\((zt == (0:Int))=true))))))))))))/\((cG zj zg.2)=false->(zb))))/\((decide (zg.2 > (0:Int)))=false->(((!bB.isNil zj)=true->(zb))/\((!bB.isNil zj)=false->((zk)->((zv)->(((zm != zw)=true->(zb))/\((zm != zw)=false->((zp<=aG)->((zv)->(((zq != zw)=true->(zb))/\((zq != zw)=false->((zl<=aG)->((zv)->(((zn != zw)=true->(zb))/\((zn != zw)=false->(True)/\(((!jc (bA (bH ze) s).2.2.2.1 zi.2.2.2.1)=true->(zb))/\((!jc (bA (bH ze) s).2.2.2.1 zi.2.2.2.1)=false->(vE zf.1)/\(∃(x:Nat),(x<=zu/\fV (List.drop x zh) a=zx)/\((0:Int)=(↑x:Int)/\True)/\True)/\(∀x_2:Nat,((x_2<=zu/\fV (List.drop x_2 zh) a=zx)->((zv)->(((decide (zy x_2 < zw))=true->(zz x_2/\zy x_2 < zm)/\(zaa x_2)/\(((!nth Ty.str zi.1 x_2 == (nth bE zh x_2).1)=true->(zb))/\((!nth Ty.str zi.1 x_2 == (nth bE zh x_2).1)=false->(zz x_2/\zy x_2 < zq)/\(zaa x_2)/\(((nth (Ty.int IntKind.i64) zi.2.2.1 x_2 != zab x_2)=true->(zb))/\((nth (Ty.int IntKind.i64) zi.2.2.1 x_2 != zab x_2)=false->(zz x_2/\zy x_2 < zn)/\((zac x_2<=aG)->(zaa x_2)/\((zad x_2<=aG)->((((↑(zac x_2):Int) != zae x_2)=true->(zb))/\(((↑(zac x_2):Int) != zae x_2)=false->(zaa x_2)/\(((decide (a>=zab x_2))=true->(zaa x_2)/\(zaa x_2)/\((zad x_2<=aG)->((aC (zab x_2))->((aC (zae x_2))->(aC (zab x_2 + zae x_2))/\(((decide (a < zab x_2 + zae x_2))=true->(((zaf)=true->(zaa x_2)/\(zaa x_2)/\((aC a)->((aC (zab x_2))->(aC (a - zab x_2))/\((0:Int)<=a - zab x_2/\a - zab x_2 < zae x_2)/\((zag == nth (Ty.int IntKind.i64) (nth bE zh x_2).2.2.1 (Int.toNat (a - zab x_2)))=true))))/\((zaf)=false->(zb))))/\((decide (a < zab x_2 + zae x_2))=false->(zai x_2)))))))/\((decide (a>=zab x_2))=false->(zai x_2))))))))))))/\((decide (zy x_2 < zw))=false->(((!zaf)=true->((zag == (0:Int))=true))/\((!zaf)=false->(zb)))))))))))))))))))))))))))))))))))))))))))))))) (by kernel_rfl) ?_
 dsimp -iota -proj -eta only
 refine ⟨trivial,⟨fun h0=>absurd (show false=true from h0) (by decide),fun h0=>⟨trivial,fun x_0 q_0=>iB (fun h1=>rfl) (fun h1 h2=>iL (fun h3=>rfl) (fun h3=>⟨trivial,fun h4=>⟨fun h5=>absurd (show false=true from h5) (by decide),fun h5=>⟨?a,fun h6=>⟨((bx l).lF),fun h7=>⟨trivial,iB (fun h8=>(by rw [(bx l).rd] at h8;exact Bool.noConfusion ((kb (uI (bJ (bx l).lF) s)).symm.trans h8))) (fun h8=>⟨trivial,fun x_1 q_1=>iB (fun h9=>(absurd (q_1 (by rw [(bx l).rd])) (by rw [h9];exact Bool.false_ne_true))) (fun h9=>⟨?b,fun h10=>iL (fun h11=>⟨trivial,⟨fun h12 h13 h14 h15 h16=>⟨?c,fun h17 h18 h19=>⟨?d,fun h20 h21 h22=>⟨?e,?f⟩⟩⟩,fun h12=>(by rw [(bx l).rd,(uJ (bJ (bx l).lF) h11).1] at h12;exact Bool.noConfusion ((kb (uI (bJ (bx l).lF) s)).symm.trans h12))⟩⟩) (fun h11=>iB (fun h12 => ?g) (fun h12 h13 h14=>iN (fun h15 => ?h) (fun h15 h16 h17=>iN (fun h18 => ?i) (fun h18 h19 h20=>iN (fun h21 => ?j) (fun h21=>⟨trivial,iB (fun h22=>(by rw [(bx l).rd] at h22;exact Bool.noConfusion ((show jc _ _=true from decide_eq_true rfl).symm.trans h22))) (fun h22=>⟨(by rw [(bx l).rd];exact mY (bJ (bx l).lF) s),(⟨0,⟨Nat.zero_le _,rfl⟩,⟨rfl,trivial⟩,(by trivial)⟩),fun x_2 q_2 h23=>iL (fun h24=>⟨?k,(by omega),⟨fun h25 => ?l,fun h25=>⟨?m,?n,iN (fun h26 => ?o) (fun h26=>⟨?p,fun h27=>⟨?q,fun h28=>iN (fun h29 => ?r) (fun h29=>⟨?s,iE (fun h30=>⟨?t,?u,fun h31 h32 h33=>⟨?v,iL (fun h34=>⟨fun h35=>⟨?w,?x,fun h36 h37=>⟨?y,?z,?a0⟩⟩,fun h35 => ?a1⟩) (fun h34 h35 h36=>⟨?a2,?a3⟩)⟩⟩) (fun h30 h31 h32=>⟨?a4,?a5⟩)⟩)⟩⟩)⟩⟩⟩) (fun h24=>iB (fun h25=>(by rw [(bx l).rd,xV (by omega) q_2.2];rfl)) (fun h25=>(by rw [(bx l).rd,xV (by omega) q_2.2] at h25;cases h25)))⟩)⟩)))))⟩)⟩)⟩⟩⟩⟩⟩))⟩⟩⟩
 case a|b=>exact (bx l).len
 case c|d|e|f=>rw [(bx l).rd,(uJ (bJ (bx l).lF) h11).1];(try unfold aC);simp only [List.length_nil];decide
 case g=>
  obtain ⟨ns,os,bs,ps,e1,hr,e2⟩:=iy (bJ (bx l).lF) h11;have e3:(cu (bH (dw l).2.1) s).1.length=os.length:=(by rw [e2];exact ep _ _ _ _);have e4:=hr.sc.len;have e5:=hr.bl
  rw [(bx l).rd,e1] at h12;simp only at h12;exact absurd h12 (by decide)
 case h=>
  obtain ⟨ns,os,bs,ps,e1,hr,e2⟩:=iy (bJ (bx l).lF) h11;have e3:(cu (bH (dw l).2.1) s).1.length=os.length:=(by rw [e2];exact ep _ _ _ _);have e4:=hr.sc.len;have e5:=hr.bl
  rw [(bx l).rd,e1] at h15;simp only at h15;omega
 case i=>
  obtain ⟨ns,os,bs,ps,e1,hr,e2⟩:=iy (bJ (bx l).lF) h11;have e3:(cu (bH (dw l).2.1) s).1.length=os.length:=(by rw [e2];exact ep _ _ _ _);have e4:=hr.sc.len;have e5:=hr.bl
  rw [(bx l).rd,e1] at h18;simp only at h18;omega
 case j=>
  obtain ⟨ns,os,bs,ps,e1,hr,e2⟩:=iy (bJ (bx l).lF) h11;have e3:(cu (bH (dw l).2.1) s).1.length=os.length:=(by rw [e2];exact ep _ _ _ _);have e4:=hr.sc.len;have e5:=hr.bl
  rw [(bx l).rd,e1] at h21;simp only at h21;omega
 case k=>
  obtain ⟨ns,os,bs,ps,e1,hr,e2⟩:=iy (bJ (bx l).lF) h11;have e3:(cu (bH (dw l).2.1) s).1.length=os.length:=(by rw [e2];exact ep _ _ _ _);have e4:=hr.sc.len;have e5:=hr.bl
  have hx:x_2 < os.length:=by omega
  rw [(bx l).rd,e1];simp only;omega
 case l=>
  simp only [bl,reduceCtorEq] at h25
  obtain ⟨ns,os,bs,ps,e1,hr,e2⟩:=iy (bJ (bx l).lF) h11;have e3:(cu (bH (dw l).2.1) s).1.length=os.length:=(by rw [e2];exact ep _ _ _ _);have e4:=hr.sc.len;have e5:=hr.bl
  have hx:x_2 < os.length:=by omega
  rw [(bx l).rd,e1,e2,mW hx] at h25;exact absurd rfl h25
 case m|p=>
  simp only [bl,reduceCtorEq] at h25
  obtain ⟨ns,os,bs,ps,e1,hr,e2⟩:=iy (bJ (bx l).lF) h11;have e3:(cu (bH (dw l).2.1) s).1.length=os.length:=(by rw [e2];exact ep _ _ _ _);have e4:=hr.sc.len;have e5:=hr.bl
  have hx:x_2 < os.length:=by omega
  rw [(bx l).rd,e1];simp only;omega
 case n|q|s|t|u|w|x|z=>
  simp only [bl,reduceCtorEq] at h25
  omega
 case o=>
  simp only [bl,reduceCtorEq] at h25
  obtain ⟨ns,os,bs,ps,e1,hr,e2⟩:=iy (bJ (bx l).lF) h11;have e3:(cu (bH (dw l).2.1) s).1.length=os.length:=(by rw [e2];exact ep _ _ _ _);have e4:=hr.sc.len;have e5:=hr.bl
  have hx:x_2 < os.length:=by omega
  rw [(bx l).rd,e1,e2,mW hx] at h26;exact absurd rfl h26
 case r=>
  simp only [bl,reduceCtorEq] at h25
  obtain ⟨ns,os,bs,ps,e1,hr,e2⟩:=iy (bJ (bx l).lF) h11;have e3:(cu (bH (dw l).2.1) s).1.length=os.length:=(by rw [e2];exact ep _ _ _ _);have e4:=hr.sc.len;have e5:=hr.bl
  have hx:x_2 < os.length:=by omega
  rw [(bx l).rd,e1,e2,mW hx] at h29;exact absurd (by show ((nth aA os x_2).2.1.length:Int)=((nth dL (et (cf os) ps) x_2).length:Int);rw [hr.IY hx]) h29
 case v=>
  simp only [bl,reduceCtorEq] at h25
  have h:=mY (bJ (bx l).lF) s x_2 (by omega);dsimp only [D] at *;simp only [aC];omega
 case y=>
  simp only [bl,reduceCtorEq] at h25
  have h:=mY (bJ (bx l).lF) s x_2 (by omega);dsimp only [D] at *;simp only [aC] at *;omega
 case a0=>
  simp only [bl,reduceCtorEq] at h25
  rw [(bx l).rd,vF (by omega) q_2.2 (by assumption) (by assumption)];simp
 case a1=>
  simp only [bl,reduceCtorEq] at h25
  rw [(bx l).rd,vF (by omega) q_2.2 (by assumption) (by assumption)] at h35;cases h35
 case a2|a4=>
  simp only [bl,reduceCtorEq] at h25
  simp only [aC,aG] at *;omega
 case a3|a5=>
  simp only [bl,reduceCtorEq] at h25
  exact ⟨x_2 + 1,⟨by omega,Cs (by omega) q_2.2 (by omega)⟩,by omega,⟨by omega,trivial⟩,(by trivial)⟩
theorem Tryz.Du:bG Tryz.prog Tryz.B.eT Tryz.X 5 [.slice bT, .str, .int .i64] [.bool] (fun _=>True) (fun _ y=>y=true):=
 bI (X:=Tryz.X) Tryz.EI Tryz.func5 (by kernel_rfl) (fun x=>Ar x.1 x.2.1 x.2.2) (fun x hw hp=>Dt x.1 x.2.1 x.2.2 hw)
open Go.ChangeShapes Go.WideShapes Go.ChangeAt Go.RowKit in
theorem Tryz.tX {W:World} (hL:laidMetH Tryz.prog Rows.imageSaysRow.laid W) (hsh:W.ShapedOpen Tryz.prog):Tryz.NI W:=by
 rw [MakeChecks.laidMetH_plain _ _ _ (by kernel_rfl)] at hL
 exact ⟨CE (g:=5) (t:=283) (e:=39) (n:=20) (by kernel_rfl) (by kernel_rfl) (by kernel_rfl) (by kernel_rfl) (by kernel_rfl) (by kernel_rfl) ((show (Rows.laid_internal_strconv_uint64pow10:DataW Unit)=Lib.tabData .u64 Lib.pow10Tab from by kernel_rfl)▸Lib.laidMet.reads hL (.tail _ (.tail _ (.head _)))),
  CC (g:=0) (t:=3) (zero:=#[.int .i64 0]) hsh (of_decide_eq_true (by kernel_rfl)) (by kernel_rfl) rfl (by kernel_rfl) (by kernel_rfl) (by kernel_rfl),
  pZ (g:=3) (t:=27) (by kernel_rfl) (by kernel_rfl) (by kernel_rfl) (Lib.laidMet.reads hL (.tail _ (.tail _ (.tail _ (.tail _ (.tail _ (.head _))))))),
  pZ (g:=4) (t:=27) (by kernel_rfl) (by kernel_rfl) (by kernel_rfl) (Lib.laidMet.reads hL (.tail _ (.tail _ (.tail _ (.tail _ (.head _))))))⟩
open Go.ChangeShapes Go.WideShapes Go.ChangeAt Go.RowKit in
set_option maxRecDepth 100000 in
theorem vM (os:Os) (started:os.Started) (H:Type) (enc:TypeId × Value->H) :
  ReturnsInHanded {} Tryz.checked os 5 .any (fun w args=>(Rows.imageSaysSpec.pre enc Tryz.prog Tryz.f5 [] false w args/\laidMetH Tryz.prog Rows.imageSaysRow.laid w)/\sizedMet enc Tryz.prog Tryz.f5 (OpenSpec.ofChange Rows.imageSaysSpec) false w args) (Rows.imageSaysSpec.post enc Tryz.prog Tryz.f5 false true false false):=by
 refine D9 (C:=Tryz.checked) (X:=fun w _=>laidMetH Tryz.prog Rows.imageSaysRow.laid w) (fun _ _ _ hh h=>h.of_heap hh) (by kernel_rfl) started (by kernel_rfl) Tryz.func5
  (ChangeSpec.witness_shaped (enc:=enc) (C:=Tryz.checked) (os:=os) (X:=fun w _=>laidMetH Tryz.prog Rows.imageSaysRow.laid w) false (World.laidAll Tryz.prog os Rows.imageSaysRow.laid) #[.slice none 0 0, .string ⟨#[]⟩, .int .i64 0] 8 (World.laidAll_os _ _ _) (World.shaped_of_ZipB (by kernel_rfl) (by kernel_rfl)) (by kernel_rfl) (by kernel_rfl) (by kernel_rfl)
   (by rw [MakeChecks.laidMetH_plain _ _ _ (by kernel_rfl)];exact laidMet_laidAll _ (by kernel_rfl) (by kernel_rfl))) ?_
 intro W base args ds gs before hval hW hL hsh
 exact Ij (C:=Tryz.checked) (n:=16) rfl (by kernel_rfl) (fun ds h=>by match ds,h with | [_,_,_],_=>rfl) (by kernel_rfl) (by kernel_rfl) (by kernel_rfl) (tb:=4) (by kernel_rfl) Tryz.Du hval hW (Tryz.tX hL hsh) (fun _ _=>trivial)
open Go.ChangeShapes Go.WideShapes Go.ChangeAt Go.RowKit in
theorem x6:Rows.ImageSaysSaid:=
 OpenClaim.holds_of_wide 5 Tryz.f5 rfl rfl rfl rfl rfl rfl rfl ⟨rfl,rfl,rfl,rfl,rfl⟩ rfl rfl rfl rfl rfl (by kernel_rfl) Tryz.func5 (by kernel_rfl)
  (of_decide_eq_true (by kernel_rfl)) (by unfold Func.isWrapper;first | (rw [if_pos (by decide +kernel)];kernel_rfl) | (rw [if_neg (by decide +kernel)];exact ⟨rfl,rfl⟩))
  (fun os started H enc _=>vM os started H enc)
theorem imageSays_holds:Rows.ImageSaysCardSaid:=
 Claim7.holds_tied_plain_at .later [] [.data, .data, .data, .data, .sentinel, .sentinel, .pinned] true (true,"e38ec6478babe08333945fe4633e79946dcc9369f26e0deb9e463de81cb3737d") true
  x6 (fun _ h=>by cases h) (by kernel_rfl) (fun _ h=>by cases h) imageSays_row_tie rfl ⟨rfl,rfl⟩ (by kernel_rfl) rfl
  (fun f fn hf hfn=>by
   obtain rfl:f=5:=Option.some.inj ((show Tryz.prog.funcNamed Rows.imageSaysRow.func=some 5 by kernel_rfl).symm.trans hf) |>.symm
   obtain rfl:fn=Tryz.f5:=(Option.some.inj (Tryz.func5.symm.trans hfn)).symm
   exact ⟨by kernel_rfl,fun j t ht=>by
    have hall:(Tryz.f5.params.toList.all fun t => !Tryz.prog.wantsStandIn t)=true:=by kernel_rfl
    have hm:t∈Tryz.f5.params.toList:=Array.mem_def.1 (Array.mem_of_getElem? ht)
    exact (by simpa using List.all_eq_true.1 hall t hm:Tryz.prog.wantsStandIn t=false)⟩)
  (by kernel_rfl)
#print axioms imageSays_holds
end Go.Proofs.YtgokjhhcfemnhaaGreatDoor

