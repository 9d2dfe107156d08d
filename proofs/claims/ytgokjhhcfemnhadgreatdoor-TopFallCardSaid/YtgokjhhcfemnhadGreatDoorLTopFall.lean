/- A part of the proof that the law TopFallCard holds of the given program: facts that are used there. -/
import Derived.Test.YtgokjhhcfemnhadGreatDoorPart5
import Derived.Test.YtgokjhhcfemnhadGreatDoorRows
import Derived.Test.YtgokjhhcfemnhadGreatDoorTie
import Derived.Test.YtgokjhhcfemnhadGreatDoorCards
import Derived.LaidMore
set_option linter.unusedSimpArgs false
set_option linter.unusedVariables false
set_option maxRecDepth 100000
set_option maxHeartbeats 4000000
set_option linter.defProp false
noncomputable section
open True renaming intro->af
open Prod renaming snd->ag,fst->ah
open List renaming length->ai,drop->aj,take->ak
open Int renaming toNat->al
open Go.Proofs.YtgokjhhcfemnhadGreatDoor.Rows renaming topFallRow->ao,topFallSpec->ar
open Go.Lib.laidMet renaming reads->aq
open Go.MakeChecks renaming laidMetH_plain->au
open Option.some renaming inj->av
namespace Go.Proofs.YtgokjhhcfemnhadGreatDoor
open Go.Vg Go.Mrl
def Tryz.JT:dX:=[
 (200000,fun st=>{X:=Nat×cG×Sh,inv:=fun x=>x.1<=(cY (.slice bT) st 3).length/\fF (Gy (.int .i64) st (mJ st (bJ st 1) 1) 1) (cY (.slice bT) st 3) x.1 x.2.1 x.2.2,cB:=fun x=>(cY (.slice bT) st 3).length-x.1,bM:=fun x=>[(9,sI x.1)],keep:=[0,2,3,8],aN:=Tryz.dM,refs:=[(0,1),(1,0),(2,4)],stay:=[0,1,3,4],pd:=fun x=>((),x.2.1.1,x.2.1.2.1,x.2.2)})]
def Tryz.C7:List (FuncId×(Bool×aT)):=[(20,(false,aX Tryz.bB [.obj 0,.d (.int .u64)] (fun _ x=>x.2.1.length=x.2.2.1.length/\∀i,i<x.2.2.2.1.length->0<=((nth fG x.2.2.2.1 i).1:Int)/\((nth fG x.2.2.2.1 i).1:Int)<x.2.2.1.length) Tryz.pQ)),(45,Tryz.spZ0),(17,Tryz.spZ1),(70,Tryz.spZ8),(58,Tryz.spZ20),(71,Tryz.spZ9),(18,Tryz.spZ21),(19,Tryz.spZ19),(57,Tryz.spZ18),(20,Tryz.spZ22),(43,Tryz.spZ23),(29,Tryz.spZ34),(8,Tryz.spZ35),(7,(false,aX [] [] (fun _ _=>True) Tryz.yb)),(9,(false,gz Tryz.B Tryz.Mk Tryz.f9 Tryz.JT)),(21,Tryz.spZ39),(11,Tryz.spZ40),(22,Tryz.spZ33),(23,(true,p7 [.slice dG,.slice dG] [.bool] (fun _=>True) (fun x y=>x.1=x.2->y=true)))]
theorem Tryz.JU:bP Tryz.prog Tryz.B Tryz.X Tryz.C7:=
 aO (Tryz.JS) (aO (aE Tryz.jt) (aO (aE Tryz.iw) (aO (Tryz.tl) (aO (Tryz.Jh) (aO (Tryz.tm) (aO (Tryz.LX) (aO (Tryz.Bn) (aO (Tryz.qB) (aO (Tryz.tP) (aO (Tryz.LY) (aO (ir Tryz.ri) (aO (ir Tryz.ya) (aO (Tryz.UH) (aO (eV Tryz.Sd Tryz.func9 (by kernel_rfl) Tryz.JT) (aO (Tryz.D4) (aO (Tryz.JM) (aO (Tryz.Mf) (aO (ir Tryz.JR) (bR Tryz.bQ)))))))))))))))))))
def Tryz.C8(l:List (D bT))(_:Int)(_:Int)(_:List UInt8):dX:=[
 (200000,fun st=>{X:=Nat×cG×Sh,inv:=fun x=>x.1<=ai l/\hH x.2.1 x.2.2 (4*x.1),cB:=fun x=>ai l-x.1,bM:=fun x=>[(13,sI x.1)],keep:=[0,2,3,8,9,10,11],aN:=Tryz.dM,refs:=[(9,1),(10,0),(11,4)],pd:=fun x=>((),x.2.1.1,x.2.1.2.1,x.2.2)})]
theorem OL(l:List (D bT))(f:Int)(c:Int)(s:List UInt8)(hw:gM [.slice bT,.int .i64,.int .u64,.str] (l,f,c,s)):(dL Tryz.B Tryz.C7 Tryz.f5 (Tryz.C8 l f c s) [.slice bT,.int .i64,.int .u64,.str] [.bool] (fun _ y=>y=true) (l,f,c,s)).holds:=by
 refine holds_of (p:=
  let za:=false=true
  let zb:=true=true
  let zc:=(iX (rb 112)).1
  let zd:=zc.2.2.2.1=zc.2.2.2.1
  let ze:=Nat×cG×Sh
  let zf:=ai l
  let zg:=(0+1,())
  let zh:=[122,122]
  let zi:=(-1:Int)
  let zj:=if zi > f then zi else f
  let zk:=if 1000<zj then 1000 else zj
  let zl:=fun(G:Nat×cG×Sh)=>(↑G.1:Int)
  let zm:=fun(G:Nat×cG×Sh)=>0<=zl G
  let zn:=[111,112,101,110]
  let zo:=fun(G:Nat×cG×Sh)=>aJ (zl G)
  let zp:=aJ 1
  let zq:=fun(G:Nat×cG×Sh)=>zl G+1
  let zr:=fun(G:Nat×cG×Sh)=>aJ (zq G)
  let zs:=fun(G:Nat×cG×Sh)=>G.2.2.2.2.2.2.1
  let zt:=fun(G:Nat×cG×Sh)=>zs G=zs G
  let zu:=fun(G:Nat×cG×Sh)=>((),G.2.1.1,G.2.1.2.1,G.2.2)
  let zv:=fun(G:Nat×cG×Sh)=>aj G.1 (ak (al (zq G)) l)
  let zw:=fun(G:Nat×cG×Sh)=>ai (zv G)
  let zx:=fun(G:Nat×cG×Sh)=>G.2.2.1.1
  let zy:=fun(I G:Nat×cG×Sh)=>zm I/\zl I<(↑(zw G):Int)
  let zz:=fun(I G:Nat×cG×Sh)=>(lK I.2.1 I.2.2 (nth bT (zv G) I.1).2.1).1
  let zaa:=fun(I G:Nat×cG×Sh)=>(gC I.2.2 (nth bT (zv G) I.1).2.1).1
  let zab:=fun(I:Nat×cG×Sh)=>ai I.2.2.2.2.2.1
  let zac:=fun(I:Nat×cG×Sh)=>(cP I.2.2.2).2
  let zad:=fun(I:Nat×cG×Sh)=>zo I->zp->zr I/\False
  let zae:=fun(I:Nat×cG×Sh) (G:Nat×cG×Sh)=>zo I->zp->zr I/\zt I/\∃(x':ze),(ah x'<=zw G/\fF (zx G) (zv G) (ah x') (ag x').1 (ag x').2)/\zw G-ah x'<zw G-I.1/\(zq I=(↑(ah x'):Int)/\True)/\True/\zb/\zu I=((),(ag x').1.1,(ag x').1.2.1,(ag x').2)
  let zaf:=fun(I G:Nat×cG×Sh)=>jh I.2.1 (aj I.1 (ak (al (zq I)) (zv G)))
  let zag:=fun(I:Nat×cG×Sh)=>nt I.2.2.2 c
  let zah:=fun(I:Nat×cG×Sh)=>(zag I).2.2.2.1=(zag I).2.2.2.1
  let zai:=fun(I:Nat×cG×Sh)=>ai I.2.1.2.1.1<=6
  let zaj:=fun(I:Nat×cG×Sh)=>ll I.2.1 (cP (zag I)).1.2 s
  let zak:=fun(I:Nat×cG×Sh)=>zt I/\(ai I.2.2.2.2.1=zab I/\∀(i:Nat),i<ai (zs I)->0<=(nth fG (zs I) i).1/\(nth fG (zs I) i).1<(↑(zab I):Int))/\(True->zah I/\(dD (zag I) 1000000/\∀(i:Nat),i<ai (zag I).2.2.1->ai (nth Ty.str (zag I).2.2.1 i)=64)/\((cP (zag I)).2≠0->((!aK.isNil (aI (cP (zag I)).2))=true->za)/\((!aK.isNil (aI (cP (zag I)).2))=false->False))/\((cP (zag I)).2=0->((!aK.isNil aK.nil)=true->za)/\((!aK.isNil aK.nil)=false->zah I/\(zai I/\vO (cP (zag I)).1.2)/\(True->zai I/\(True->True/\True/\((jq (aI (zaj I).2.2) == jq (aI (gK (aL I.2.1) s).2))=true->True/\∀K:Bool,((zaj I).1=(gK (aL I.2.1) s).1->K=true)->K=true)/\((jq (aI (zaj I).2.2) == jq (aI (gK (aL I.2.1) s).2))=false->za))))))
  True/\(True->((!true)=true->za)/\((!true)=false->True/\∀F:Bool,(F=true->rH l 40)->((!F)=true->zb)/\((!F)=false->ai s<=aM->((decide ((↑(ai s):Int) > 20))=true->zb)/\((decide ((↑(ai s):Int) > 20))=false->zd/\True/\(True->(zd/\∃(x':ze),(ah x'<=zf/\hH (ag x').1 (ag x').2 (4*ah x'))/\True/\(0=(↑(ah x'):Int)/\True)/\True/\zb/\((),zg,(fW cK (eZ cK (@List.nil FE) zh (A7,zg) 0) zh,mT cK (@List.nil FE) zh 0,()),(2,[],()),(if zi > zk then zi else zk,zc.1.2),zc.2)=((),(ag x').1.1,(ag x').1.2.1,(ag x').2))/\∀G:Nat×cG×Sh,G.1<=zf/\hH G.2.1 G.2.2 (4*G.1)->zf<=aM->((decide (zl G<(↑zf:Int)))=true->(zm G/\zl G<(↑zf:Int))/\(((nth bT l G.1).1 == zn)=true->zo G->zp->zr G/\zt G/\∃(x':ze),(ah x'<=zf/\hH (ag x').1 (ag x').2 (4*ah x'))/\zf-ah x'<zf-G.1/\(zq G=(↑(ah x'):Int)/\True)/\True/\zb/\zu G=((),(ag x').1.1,(ag x').1.2.1,(ag x').2))/\(((nth bT l G.1).1 == zn)=false->zo G->zp->zr G/\(zm G/\zl G<=zq G/\zq G<=(↑zf:Int))/\(zt G/\∃(x':ze),(ah x'<=zw G/\fF (zx G) (zv G) (ah x') (ag x').1 (ag x').2)/\True/\(0=(↑(ah x'):Int)/\True)/\True/\zb/\zu G=((),(ag x').1.1,(ag x').1.2.1,(ag x').2))/\∀I:Nat×cG×Sh,I.1<=zw G/\fF (zx G) (zv G) I.1 I.2.1 I.2.2->zw G<=aM->((decide (zl I<(↑(zw G):Int)))=true->zy I G/\(((nth bT (zv G) I.1).1 == [98,117,105,108,100])=true->zy I G/\zt I/\(gY I.2.1/\vN I.2.2)/\(True->zo I->zp->zr I/\(zz I G).2.2.2.2.1=(zz I G).2.2.2.2.1/\∃(x':ze),(ah x'<=zw G/\fF (zx G) (zv G) (ah x') (ag x').1 (ag x').2)/\zw G-ah x'<zw G-I.1/\(zq I=(↑(ah x'):Int)/\True)/\True/\zb/\((),I.2.1.1,I.2.1.2.1,zz I G)=((),(ag x').1.1,(ag x').1.2.1,(ag x').2)))/\(((nth bT (zv G) I.1).1 == [98,117,105,108,100])=false->(((nth bT (zv G) I.1).1 == [100,114,111,112])=true->zy I G/\zt I/\vN I.2.2/\(True->zo I->zp->zr I/\(zaa I G).2.2.2.2.1=(zaa I G).2.2.2.2.1/\∃(x':ze),(ah x'<=zw G/\fF (zx G) (zv G) (ah x') (ag x').1 (ag x').2)/\zw G-ah x'<zw G-I.1/\(zq I=(↑(ah x'):Int)/\True)/\True/\zb/\((),I.2.1.1,I.2.1.2.1,zaa I G)=((),(ag x').1.1,(ag x').1.2.1,(ag x').2)))/\(((nth bT (zv G) I.1).1 == [100,114,111,112])=false->(((nth bT (zv G) I.1).1 == zn)=true->zt I/\(dD I.2.2.2 1000000/\∀(i:Nat),i<zab I->ai (nth Ty.str I.2.2.2.2.2.1 i)=64)/\(zac I≠0->((aK.isNil (aI (zac I)))=true->zad I)/\((aK.isNil (aI (zac I)))=false->zae I G))/\(zac I=0->((aK.isNil aK.nil)=true->zad I)/\((aK.isNil aK.nil)=false->zae I G)))/\(((nth bT (zv G) I.1).1 == zn)=false->zo I->zp->zr I/\(zm I/\zl I<=zq I/\zq I<=(↑(zw G):Int))/\dH I.2.1/\(True->zo I->zp->zr I/\zt I/\∃(x':ze),(ah x'<=zw G/\fF (zx G) (zv G) (ah x') (ag x').1 (ag x').2)/\zw G-ah x'<zw G-I.1/\(zq I=(↑(ah x'):Int)/\True)/\True/\zb/\((),(zaf I G).1,(zaf I G).2.1,I.2.2)=((),(ag x').1.1,(ag x').1.2.1,(ag x').2))))))/\((decide (zl I<(↑(zw G):Int)))=false->zt I/\True/\(True->((I.2.2.2.1.2.1)=true->zak I)/\((I.2.2.2.1.2.1)=false->zo G->zp->zr G/\zt I/\∃(x':ze),(ah x'<=zf/\hH (ag x').1 (ag x').2 (4*ah x'))/\zf-ah x'<zf-G.1/\(zq G=(↑(ah x'):Int)/\True)/\True/\zb/\zu I=((),(ag x').1.1,(ag x').1.2.1,(ag x').2))))))/\((decide (zl G<(↑zf:Int)))=false->zak G))))))) (by kernel_rfl) ?_
 dsimp -iota -proj -eta only;refine⟨af,fun h0=>⟨fun h1=>absurd (show false=true from h1) (by decide),fun h1=>⟨af,fun F q_0=>iB (fun h2=>rfl) (fun h2 h3=>iL (fun h4=>rfl) (fun h4=>⟨rfl,af,fun h5=>⟨(⟨rfl,(0,I5,gv.1,AR gv.2 (if(1000:Int)<(if(-1:Int) > f then(-1:Int)else f)then(1000:Int)else(if(-1:Int) > f then(-1:Int)else f))),⟨Nat.zero_le _,T0 _⟩,af,⟨rfl,af⟩,af,rfl,rfl⟩),fun G q_1 h6=>iL (fun h7=>⟨?a,iQ (fun h8 h9 h10=>⟨?b,(by exact⟨rfl,(G.1+1,G.2.1,G.2.2),⟨by simp only;omega,q_1.2.up (by simp only;omega)⟩,by simp only;omega,⟨by simp only;omega,af⟩,af,rfl,rfl⟩)⟩) (fun h8 h9 h10=>⟨?c,?d,⟨(⟨rfl,(0,G.2.1,G.2.2),⟨Nat.zero_le _,.begin q_1.2 (by omega) h8⟩,af,⟨rfl,af⟩,af,rfl,rfl⟩),fun I q_2 h11=>iL (fun h12=>⟨?e,iQ (fun h13=>⟨?f,rfl,?g,fun h14 h15 h16=>⟨?h,?i⟩⟩) (fun h13=>iQ (fun h14=>⟨?j,rfl,?k,fun h15 h16 h17=>⟨?l,?m⟩⟩) (fun h14=>iQ (fun h15=>⟨rfl,?n,⟨fun h16=>⟨fun h17 h18 h19=>⟨?o,?p⟩,fun h17 h18 h19=>⟨?q,?r⟩⟩,fun h16=>⟨fun h17 h18 h19=>⟨?s,?t⟩,fun h17=>absurd (show true=false from h17) (by decide)⟩⟩⟩) (fun h15 h16 h17=>⟨?u,?v,?w,fun h18 h19 h20=>⟨?x,?y⟩⟩)))⟩) (fun h12=>⟨rfl,af,fun h13=>⟨fun h14=>⟨rfl,q_2.2.xW,fun h15=>⟨rfl,?z,⟨fun h16=>iB (fun h17 =>?a0) (fun h17 =>?a1),fun h16=>⟨fun h17=>absurd (show false=true from h17) (by decide),fun h17=>⟨rfl,?a2,fun h18=>⟨?a3,fun h19=>⟨af,af,iQ (fun h20=>⟨af,fun K q_3 =>?a4⟩) (fun h20 =>?a5)⟩⟩⟩⟩⟩⟩⟩,fun h14 h15 h16=>⟨?a6,?a7⟩⟩⟩)⟩⟩)⟩) (fun h7=>⟨rfl,q_1.2.xW,fun h8=>⟨rfl,?a8,⟨fun h9=>iB (fun h10 =>?a9) (fun h10 =>?aa),fun h9=>⟨fun h10=>absurd (show false=true from h10) (by decide),fun h10=>⟨rfl,?ab,fun h11=>⟨?ac,fun h12=>⟨af,af,iQ (fun h13=>⟨af,fun I q_2 =>?ad⟩) (fun h13 =>?ae)⟩⟩⟩⟩⟩⟩⟩)⟩⟩))⟩⟩⟩
 case a|d|e|f|j|v=>omega
 case b|c|a6=>
  have hA:l.length<=40:=(by have a:=(q_0 h2).1;omega);simp only[aJ];omega
 case g=>
  have hA:l.length<=40:=(by have a:=(q_0 h2).1;omega);have hr:(G.2.2.1.1:Int)<=158:=(by have b:=q_1.1;have c:=q_1.2.round.2;omega);have hl:I.1<(aj G.1 (ak (al ((G.1:Int)+1)) l)).length:=(by omega);have h1:=q_2.2.one;have hw:=q_2.2.Ah hl;exact⟨hw.kept.eP,hw.W5 (by omega)⟩
 case h|l|o|q|s|u|x=>
  have hA:l.length<=40:=(by have a:=(q_0 h2).1;omega);have hr:(G.2.2.1.1:Int)<=158:=(by have b:=q_1.1;have c:=q_1.2.round.2;omega);have hl:I.1<(aj G.1 (ak (al ((G.1:Int)+1)) l)).length:=(by omega);have h1:=q_2.2.one;have hw:=q_2.2.Ah hl;simp only[aJ];omega
 case i=>
  have hA:l.length<=40:=(by have a:=(q_0 h2).1;omega);have hr:(G.2.2.1.1:Int)<=158:=(by have b:=q_1.1;have c:=q_1.2.round.2;omega);have hl:I.1<(aj G.1 (ak (al ((G.1:Int)+1)) l)).length:=(by omega);have h1:=q_2.2.one;have hw:=q_2.2.Ah hl;exact⟨rfl,(I.1+1,I.2.1,(lK I.2.1 I.2.2 _).1),⟨by simp only;omega,q_2.2.build hl (by omega) _⟩,by simp only;omega,⟨by simp only;omega,af⟩,af,rfl,rfl⟩
 case k=>
  have hA:l.length<=40:=(by have a:=(q_0 h2).1;omega);have hr:(G.2.2.1.1:Int)<=158:=(by have b:=q_1.1;have c:=q_1.2.round.2;omega);have hl:I.1<(aj G.1 (ak (al ((G.1:Int)+1)) l)).length:=(by omega);have h1:=q_2.2.one;have hw:=q_2.2.Ah hl;exact hw.W5 (by omega)
 case m=>
  have hA:l.length<=40:=(by have a:=(q_0 h2).1;omega);have hr:(G.2.2.1.1:Int)<=158:=(by have b:=q_1.1;have c:=q_1.2.round.2;omega);have hl:I.1<(aj G.1 (ak (al ((G.1:Int)+1)) l)).length:=(by omega);have h1:=q_2.2.one;have hw:=q_2.2.Ah hl;exact⟨rfl,(I.1+1,I.2.1,(gC I.2.2 _).1),⟨by simp only;omega,q_2.2.drop hl (by omega) _⟩,by simp only;omega,⟨by simp only;omega,af⟩,af,rfl,rfl⟩
 case n|p|r|t=>
  have hl:I.1<(aj G.1 (ak (al ((G.1:Int)+1)) l)).length:=(by omega);exact absurd h15 (q_2.2.no _ hl)
 case w=>
  have hA:l.length<=40:=(by have a:=(q_0 h2).1;omega);have hr:(G.2.2.1.1:Int)<=158:=(by have b:=q_1.1;have c:=q_1.2.round.2;omega);have hl:I.1<(aj G.1 (ak (al ((G.1:Int)+1)) l)).length:=(by omega);have h1:=q_2.2.one;have hw:=q_2.2.Ah hl;exact hw.kept.eP.st
 case y=>
  have hA:l.length<=40:=(by have a:=(q_0 h2).1;omega);have hr:(G.2.2.1.1:Int)<=158:=(by have b:=q_1.1;have c:=q_1.2.round.2;omega);have hl:I.1<(aj G.1 (ak (al ((G.1:Int)+1)) l)).length:=(by omega);have h1:=q_2.2.one;have hw:=q_2.2.Ah hl;exact⟨rfl,(I.1+1,jh I.2.1 _,I.2.2),⟨by simp only;omega,q_2.2.done hl _⟩,by simp only;omega,⟨by simp only;omega,af⟩,af,rfl,rfl⟩
 case z=>
  have hA:l.length<=40:=(by have a:=(q_0 h2).1;omega);have hr:(G.2.2.1.1:Int)<=158:=(by have b:=q_1.1;have c:=q_1.2.round.2;omega);have h1:=q_2.2.one;have b2:=q_2.1;have E:=q_2.2.ends (by omega) c;exact⟨E.2.yK,E.2.sec⟩
 case a0|a1=>
  have hA:l.length<=40:=(by have a:=(q_0 h2).1;omega);have hr:(G.2.2.1.1:Int)<=158:=(by have b:=q_1.1;have c:=q_1.2.round.2;omega);have h1:=q_2.2.one;have b2:=q_2.1;have E:=q_2.2.ends (by omega) c;exact absurd (show(cP (nt I.2.2.2 c)).2=0 from E.2.yJ) h16
 case a2=>
  have hA:l.length<=40:=(by have a:=(q_0 h2).1;omega);have hr:(G.2.2.1.1:Int)<=158:=(by have b:=q_1.1;have c:=q_1.2.round.2;omega);have h1:=q_2.2.one;have b2:=q_2.1;have E:=q_2.2.ends (by omega) c;exact⟨E.1.eP.st.pre.1,E.2.TW⟩
 case a3=>
  have hA:l.length<=40:=(by have a:=(q_0 h2).1;omega);have hr:(G.2.2.1.1:Int)<=158:=(by have b:=q_1.1;have c:=q_1.2.round.2;omega);have h1:=q_2.2.one;have b2:=q_2.1;have E:=q_2.2.ends (by omega) c;exact E.1.eP.st.pre.1
 case a4=>
  have hA:l.length<=40:=(by have a:=(q_0 h2).1;omega);have hr:(G.2.2.1.1:Int)<=158:=(by have b:=q_1.1;have c:=q_1.2.round.2;omega);have h1:=q_2.2.one;have b2:=q_2.1;have E:=q_2.2.ends (by omega) c;exact q_3 (E.1.load s).1
 case a5=>
  have hA:l.length<=40:=(by have a:=(q_0 h2).1;omega);have hr:(G.2.2.1.1:Int)<=158:=(by have b:=q_1.1;have c:=q_1.2.round.2;omega);have h1:=q_2.2.one;have b2:=q_2.1;have E:=q_2.2.ends (by omega) c;exact absurd (congrArg (fun z=>jq (aI z)) (E.1.load s).2.1) h20
 case a7=>
  have hA:l.length<=40:=(by have a:=(q_0 h2).1;omega);have hr:(G.2.2.1.1:Int)<=158:=(by have b:=q_1.1;have c:=q_1.2.round.2;omega);have h1:=q_2.2.one;have b2:=q_2.1;have hc:=q_1.2.round.2;exact⟨rfl,(G.1+1,I.2.1,I.2.2),⟨by simp only;omega,q_2.2.up h14 (by simp only;omega)⟩,by simp only;omega,⟨by simp only;omega,af⟩,af,rfl,rfl⟩
 case a8=>
  have hA:l.length<=40:=(by have a:=(q_0 h2).1;omega);have b1:=q_1.1;have E:=q_1.2.ends (by omega) c;exact⟨E.2.yK,E.2.sec⟩
 case a9|aa=>
  have hA:l.length<=40:=(by have a:=(q_0 h2).1;omega);have b1:=q_1.1;have E:=q_1.2.ends (by omega) c;exact absurd (show(cP (nt G.2.2.2 c)).2=0 from E.2.yJ) h9
 case ab=>
  have hA:l.length<=40:=(by have a:=(q_0 h2).1;omega);have b1:=q_1.1;have E:=q_1.2.ends (by omega) c;exact⟨E.1.eP.st.pre.1,E.2.TW⟩
 case ac=>
  have hA:l.length<=40:=(by have a:=(q_0 h2).1;omega);have b1:=q_1.1;have E:=q_1.2.ends (by omega) c;exact E.1.eP.st.pre.1
 case ad=>
  have hA:l.length<=40:=(by have a:=(q_0 h2).1;omega);have b1:=q_1.1;have E:=q_1.2.ends (by omega) c;exact q_2 (E.1.load s).1
 case ae=>
  have hA:l.length<=40:=(by have a:=(q_0 h2).1;omega);have b1:=q_1.1;have E:=q_1.2.ends (by omega) c;exact absurd (congrArg (fun z=>jq (aI z)) (E.1.load s).2.1) h13
theorem Tryz.OM:bW Tryz.prog Tryz.B.eT Tryz.X 5 [.slice bT,.int .i64,.int .u64,.str] [.bool] (fun _=>True) (fun _ y=>y=true):=
 cD (X:=Tryz.X) Tryz.JU Tryz.func5 (by kernel_rfl) (fun x=>Tryz.C8 x.1 x.2.1 x.2.2.1 x.2.2.2) (fun x hw hp=>OL x.1 x.2.1 x.2.2.1 x.2.2.2 hw)
open Go.ChangeShapes Go.WideShapes Go.ChangeAt Go.RowKit in
theorem Tryz.C9{W:World}(hL:laidMetH Tryz.prog ao.laid W)(hsh:W.ShapedOpen Tryz.prog):Tryz.W6 W:=by
 rw[au _ _ _ (by kernel_rfl)]at hL;exact⟨I7 (g:=5) (t:=236) (e:=48) (n:=20) (by kernel_rfl) (by kernel_rfl) (by kernel_rfl) (by kernel_rfl) (by kernel_rfl) (by kernel_rfl) ((show(Rows.laid_internal_strconv_uint64pow10:DataW Unit)=Lib.tabData .u64 Lib.pow10Tab from by kernel_rfl)▸aq hL (.tail _ (.tail _ (.head _)))),
  I6 (g:=0) (t:=3) (zero:=#[.int .i64 0]) hsh (of_decide_eq_true (by kernel_rfl)) (by kernel_rfl) rfl (by kernel_rfl) (by kernel_rfl) (by kernel_rfl),
  uE (g:=3) (t:=31) (by kernel_rfl) (by kernel_rfl) (by kernel_rfl) (aq hL (.tail _ (.tail _ (.tail _ (.tail _ (.tail _ (.head _))))))),
  uE (g:=4) (t:=31) (by kernel_rfl) (by kernel_rfl) (by kernel_rfl) (aq hL (.tail _ (.tail _ (.tail _ (.tail _ (.head _))))))⟩
open Go.ChangeShapes Go.WideShapes Go.ChangeAt Go.RowKit in
set_option maxRecDepth 100000 in
theorem D5(os:Os)(started:os.Started)(H:Type)(enc:TypeId×Value->H) :
  ReturnsInHanded {} Tryz.checked os 5 .any (fun w args=>(ar.pre enc Tryz.prog Tryz.f5 [] false w args/\laidMetH Tryz.prog ao.laid w)/\sizedMet enc Tryz.prog Tryz.f5 (OpenSpec.ofChange ar) false w args) (ar.post enc Tryz.prog Tryz.f5 false true false false):=by
 refine KF (C:=Tryz.checked) (X:=fun w _=>laidMetH Tryz.prog ao.laid w) (fun _ _ _ hh h=>h.of_heap hh) (by kernel_rfl) started (by kernel_rfl) Tryz.func5
  (ChangeSpec.witness_shaped (enc:=enc) (C:=Tryz.checked) (os:=os) (X:=fun w _=>laidMetH Tryz.prog ao.laid w) false (World.laidAll Tryz.prog os ao.laid) #[.slice none 0 0,.int .i64 0,.int .u64 0,.string ⟨#[]⟩] 8 (World.laidAll_os _ _ _) (World.shaped_of_ZipB (by kernel_rfl) (by kernel_rfl)) (by kernel_rfl) (by kernel_rfl) (by kernel_rfl)
   (by rw[au _ _ _ (by kernel_rfl)];exact laidMet_laidAll _ (by kernel_rfl) (by kernel_rfl))) ?_
 intro W base args ds gs before hval hW hL hsh;exact Ps (C:=Tryz.checked) (n:=16) rfl (by kernel_rfl) (fun ds h=>by match ds,h with|[_,_,_,_],_=>rfl) (by kernel_rfl) (by kernel_rfl) (by kernel_rfl) (tb:=4) (by kernel_rfl) Tryz.OM hval hW (Tryz.C9 hL hsh) (fun _ _=>trivial)
open Go.ChangeShapes Go.WideShapes Go.ChangeAt Go.RowKit in
theorem JV:Rows.TopFallSaid:=
 OpenClaim.holds_of_wide 5 Tryz.f5 rfl rfl rfl rfl rfl rfl rfl ⟨rfl,rfl,rfl,rfl,rfl⟩ rfl rfl rfl rfl rfl (by kernel_rfl) Tryz.func5 (by kernel_rfl)
  (of_decide_eq_true (by kernel_rfl)) (by unfold Func.isWrapper;first|(rw[if_pos (by decide+kernel)];kernel_rfl)|(rw[if_neg (by decide+kernel)];exact⟨rfl,rfl⟩))
  (fun os started H enc _=>D5 os started H enc)
theorem topFall_holds:Rows.TopFallCardSaid:=
 Claim7.holds_tied_plain_at .later [] [.data,.data,.data,.data,.sentinel,.sentinel,.pinned] true (true,"3c5c196b774b4365299062fcc3dd1242738f58e7d9c08bc0263c732c0257cea6") true
  JV (fun _ h=>by cases h) (by kernel_rfl) (fun _ h=>by cases h) topFall_row_tie rfl ⟨rfl,rfl⟩ (by kernel_rfl) rfl
  (fun f fn hf hfn=>by
   obtain rfl:f=5:=av ((show Tryz.prog.funcNamed ao.func=some 5 by kernel_rfl).symm.trans hf) |>.symm
   obtain rfl:fn=Tryz.f5:=(av (Tryz.func5.symm.trans hfn)).symm;exact⟨by kernel_rfl,fun j t ht=>by
    have hall:(Tryz.f5.params.toList.all fun t =>!Tryz.prog.wantsStandIn t)=true:=by kernel_rfl
    have hm:t∈Tryz.f5.params.toList:=Array.mem_def.1 (Array.mem_of_getElem? ht);exact(by simpa using List.all_eq_true.1 hall t hm:Tryz.prog.wantsStandIn t=false)⟩)
  (by kernel_rfl)
#print axioms topFall_holds
end Go.Proofs.YtgokjhhcfemnhadGreatDoor

