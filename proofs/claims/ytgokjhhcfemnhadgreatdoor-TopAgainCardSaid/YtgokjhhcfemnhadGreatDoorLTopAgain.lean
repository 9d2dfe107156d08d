/- A part of the proof that the law TopAgainCard holds of the given program: facts that are used there. -/
import Derived.Test.YtgokjhhcfemnhadGreatDoorPart5
import Derived.Test.YtgokjhhcfemnhadGreatDoorRows
import Derived.Test.YtgokjhhcfemnhadGreatDoorTie
import Derived.Test.YtgokjhhcfemnhadGreatDoorCards
import Derived.LaidMore
set_option linter.unusedSimpArgs false
set_option linter.unusedVariables false
set_option maxRecDepth 100000
set_option maxHeartbeats 4000000
set_option linter.defProp false
noncomputable section
open True renaming intro->aa
open Prod renaming snd->ab,fst->ad
open List renaming length->ae
open Go.Proofs.YtgokjhhcfemnhadGreatDoor.Rows renaming topAgainRow->af,topAgainSpec->ak
open Nat renaming le_trans->ag,le_of_succ_le->ah,le_refl->ai
open Go.Lib.laidMet renaming reads->aj
open Go.MakeChecks renaming laidMetH_plain->al
open Option.some renaming inj->ao
namespace Go.Proofs.YtgokjhhcfemnhadGreatDoor
open Go.Vg Go.Mrl
def Tryz.z8:List (FuncId×(Bool×aT)):=[(20,(false,aU Tryz.bA [.obj 0,.d (.int .u64)] (fun _ x=>x.2.1.length=x.2.2.1.length/\∀i,i<x.2.2.2.1.length->0<=((nth gR x.2.2.2.1 i).1:Int)/\((nth gR x.2.2.2.1 i).1:Int)<x.2.2.1.length) Tryz.pK)),(45,Tryz.spZ0),(17,Tryz.spZ1),(70,Tryz.spZ8),(58,Tryz.spZ20),(71,Tryz.spZ9),(18,Tryz.spZ21),(19,Tryz.spZ19),(57,Tryz.spZ18),(20,Tryz.spZ22),(43,Tryz.spZ23),(29,Tryz.spZ33),(8,Tryz.spZ34),(42,Tryz.spZ40),(24,(true,cB [.slice .str,.slice .str] [.bool] (fun _=>True) (fun x=>nE x.1 x.2))),(7,(false,aU [] [] (fun _ _=>True) Tryz.xZ)),(9,(false,gu Tryz.B Tryz.LU Tryz.f9 Tryz.LV)),(11,Tryz.spZ39),(21,Tryz.spZ38),(15,(false,aU Tryz.cH [.obj 0] (fun _ x=>x.2.2.2.1.2.1.length<=1000000) Tryz.vN)),(23,(true,pX [.slice dH,.slice dH] [.bool] (fun _=>True) (fun x y=>x.1=x.2->y=true)))]
theorem Tryz.F1:bO Tryz.prog Tryz.B Tryz.X Tryz.z8:=
 aN (Tryz.Js) (aN (aE Tryz.jm) (aN (aE Tryz.ir) (aN (Tryz.s4) (aN (Tryz.IM) (aN (Tryz.s5) (aN (Tryz.Lw) (aN (Tryz.Bb) (aN (Tryz.qx) (aN (Tryz.tG) (aN (Tryz.Lx) (aN (ij Tryz.q7) (aN (ij Tryz.xY) (aN (aE Tryz.uu) (aN (aE Tryz.Jc) (aN (Tryz.Un) (aN (eP Tryz.RR Tryz.func9 (by kernel_rfl) Tryz.LV) (aN (Tryz.Jm) (aN (Tryz.DN) (aN (Tryz.RQ) (aN (ij Tryz.Jr) (bR Tryz.bQ)))))))))))))))))))))
theorem KG(l:List (D dC))(s:List UInt8)(c:Int)(hw:gA [.slice dC,.str,.int .u64] (l,s,c)):(dG Tryz.B Tryz.z8 Tryz.f6 [] [.slice dC,.str,.int .u64] [.bool] (fun _ y=>y=true) (l,s,c)).holds:=by
 refine holds_of (p:=
  let za:=false=true
  let zb:=true=true
  let zc:=(iR (qX 112)).1
  let zd:=Nat×cX×Sh
  let ze:=ae l
  let zf:=(0+1,())
  let zg:=[122,122]
  let zh:=fun(I:Nat×cX×Sh)=>(↑I.1:Int)
  let zi:=fun(I:Nat×cX×Sh)=>0<=zh I/\zh I<(↑ze:Int)
  let zj:=fun(I:Nat×cX×Sh)=>(nth dC l I.1).1
  let zk:=fun(I:Nat×cX×Sh)=>I.2.2.2.2.2.2.1
  let zl:=fun(I:Nat×cX×Sh)=>zk I=zk I
  let zm:=fun(I:Nat×cX×Sh)=>aJ (zh I)
  let zn:=aJ 1
  let zo:=fun(I:Nat×cX×Sh)=>zh I+1
  let zp:=fun(I:Nat×cX×Sh)=>aJ (zo I)
  let zq:=fun(I:Nat×cX×Sh)=>(jO I.2.1 I.2.2 (nth dC l I.1).2.1).1
  let zr:=fun(I:Nat×cX×Sh)=>(gJ I.2.2 (nth dC l I.1).2.1).1
  let zs:=fun(I:Nat×cX×Sh)=>ae I.2.2.2.2.2.1
  let zt:=fun(I:Nat×cX×Sh)=>(cG I.2.2.2).2
  let zu:=fun(I:Nat×cX×Sh)=>zm I->zn->zp I/\zl I/\∃(x':zd),(ad x'<=ze/\np (ab x').1 (ab x').2 (ad x'))/\ze-ad x'<ze-I.1/\(zo I=(↑(ad x'):Int)/\True)/\True/\zb/\((),I.2.1.1,I.2.1.2.1,I.2.2)=((),(ab x').1.1,(ab x').1.2.1,(ab x').2)
  let zv:=fun(I:Nat×cX×Sh)=>jr I.2.1 (List.drop I.1 (List.take (Int.toNat (zo I)) l))
  let zw:=fun(I:Nat×cX×Sh)=>ae I.2.1.2.1.1<=6
  let zx:=fun(I:Nat×cX×Sh)=>I.2.2.1.2.1
  let zy:=fun(I:Nat×cX×Sh)=>fW I.2.2.2 c
  let zz:=fun(I:Nat×cX×Sh)=>(zy I).2.2.2.1=(zy I).2.2.2.1
  let zaa:=fun(I:Nat×cX×Sh)=>(cG (zy I)).1.2
  True/\(True->((!true)=true->za)/\((!true)=false->True/\∀F:Bool,(F=true->rA l 40)->((!F)=true->zb)/\((!F)=false->ae s<=aL->((decide ((↑(ae s):Int) > 20))=true->zb)/\((decide ((↑(ae s):Int) > 20))=false->(zc.2.2.2.1=zc.2.2.2.1/\∃(x':zd),(ad x'<=ze/\np (ab x').1 (ab x').2 (ad x'))/\True/\(0=(↑(ad x'):Int)/\True)/\True/\zb/\((),zf,(fQ cK (eS cK (@List.nil FE) zg (AU,zf) 0) zg,mR cK (@List.nil FE) zg 0,()),(2,[],()),zc)=((),(ab x').1.1,(ab x').1.2.1,(ab x').2))/\∀I:Nat×cX×Sh,I.1<=ze/\np I.2.1 I.2.2 I.1->ze<=aL->((decide (zh I<(↑ze:Int)))=true->zi I/\((zj I == [98,117,105,108,100])=true->zi I/\zl I/\(gD I.2.1/\xM I.2.2)/\(True->zm I->zn->zp I/\(zq I).2.2.2.2.1=(zq I).2.2.2.2.1/\∃(x':zd),(ad x'<=ze/\np (ab x').1 (ab x').2 (ad x'))/\ze-ad x'<ze-I.1/\(zo I=(↑(ad x'):Int)/\True)/\True/\zb/\((),I.2.1.1,I.2.1.2.1,zq I)=((),(ab x').1.1,(ab x').1.2.1,(ab x').2)))/\((zj I == [98,117,105,108,100])=false->((zj I == [100,114,111,112])=true->zi I/\zl I/\xM I.2.2/\(True->zm I->zn->zp I/\(zr I).2.2.2.2.1=(zr I).2.2.2.2.1/\∃(x':zd),(ad x'<=ze/\np (ab x').1 (ab x').2 (ad x'))/\ze-ad x'<ze-I.1/\(zo I=(↑(ad x'):Int)/\True)/\True/\zb/\((),I.2.1.1,I.2.1.2.1,zr I)=((),(ab x').1.1,(ab x').1.2.1,(ab x').2)))/\((zj I == [100,114,111,112])=false->((zj I == [111,112,101,110])=true->zl I/\(cW I.2.2.2 1000000/\∀(i:Nat),i<zs I->ae (nth Ty.str I.2.2.2.2.2.1 i)=64)/\(zt I≠0->((aK.isNil (aI (zt I)))=true->zm I->zn->zp I/\False)/\((aK.isNil (aI (zt I)))=false->zu I))/\(zt I=0->((aK.isNil aK.nil)=true->zm I->zn->zp I/\zl I/\∃(x':zd),(ad x'<=ze/\np (ab x').1 (ab x').2 (ad x'))/\ze-ad x'<ze-I.1/\(zo I=(↑(ad x'):Int)/\True)/\True/\zb/\((),I.2.1.1,I.2.1.2.1,((cG I.2.2.2).1.1,(cG I.2.2.2).1.2,()),I.2.2.2)=((),(ab x').1.1,(ab x').1.2.1,(ab x').2))/\((aK.isNil aK.nil)=false->zu I)))/\((zj I == [111,112,101,110])=false->zm I->zn->zp I/\(0<=zh I/\zh I<=zo I/\zo I<=(↑ze:Int))/\dE I.2.1/\(True->zm I->zn->zp I/\zl I/\∃(x':zd),(ad x'<=ze/\np (ab x').1 (ab x').2 (ad x'))/\ze-ad x'<ze-I.1/\(zo I=(↑(ad x'):Int)/\True)/\True/\zb/\((),(zv I).1,(zv I).2.1,I.2.2)=((),(ab x').1.1,(ab x').1.2.1,(ab x').2))))))/\((decide (zh I<(↑ze:Int)))=false->zl I/\(zw I/\tD (zx I))/\(True->zl I/\ae (zx I)<=1000000/\(True->zl I/\(ae I.2.2.2.2.1=zs I/\∀(i:Nat),i<ae (zk I)->0<=(nth gR (zk I) i).1/\(nth gR (zk I) i).1<(↑(zs I):Int))/\(True->zz I/\(cW (zy I) 1000000/\∀(i:Nat),i<ae (zy I).2.2.1->ae (nth Ty.str (zy I).2.2.1 i)=64)/\((cG (zy I)).2≠0->((!aK.isNil (aI (cG (zy I)).2))=true->za)/\((!aK.isNil (aI (cG (zy I)).2))=false->False))/\((cG (zy I)).2=0->((!aK.isNil aK.nil)=true->za)/\((!aK.isNil aK.nil)=false->zz I/\(zw I/\tD (zaa I))/\(True->True/\True/\((jK (aI (jI I.2.1 (zx I) s).2.2) == jK (aI (jI I.2.1 (zaa I) s).2.2))=true->(((jI I.2.1 (zx I) s).2.1 == (jI I.2.1 (zaa I) s).2.1)=true->True/\∀K:Bool,((jI I.2.1 (zx I) s).1=(jI I.2.1 (zaa I) s).1->K=true)->(K=true->zz I/\ae (zaa I)<=1000000/\(True->True/\nE (jf (zx I)) (jf (zaa I))=true))/\(K=false->za))/\(((jI I.2.1 (zx I) s).2.1 == (jI I.2.1 (zaa I) s).2.1)=false->za))/\((jK (aI (jI I.2.1 (zx I) s).2.2) == jK (aI (jI I.2.1 (zaa I) s).2.2))=false->za))))))))))))) (by kernel_rfl) ?_
 dsimp -iota -proj -eta only;refine⟨aa,fun h0=>⟨fun h1=>absurd (show false=true from h1) (by decide),fun h1=>⟨aa,fun F q_0=>iB (fun h2=>rfl) (fun h2 h3=>iL (fun h4=>rfl) (fun h4=>⟨(⟨rfl,(0,IA,jl),⟨Nat.zero_le _,Vz⟩,aa,⟨rfl,aa⟩,aa,rfl,rfl⟩),fun I q_1 h5=>iL (fun h6=>⟨?a,iQ (fun h7=>⟨?b,rfl,?c,fun h8 h9 h10=>⟨?d,?e⟩⟩) (fun h7=>iQ (fun h8=>⟨?f,rfl,?g,fun h9 h10 h11=>⟨?h,?i⟩⟩) (fun h8=>iQ (fun h9=>⟨rfl,⟨q_1.2.eX.sZ,q_1.2.eX.sec⟩,⟨fun h10=>⟨fun h11 h12 h13=>⟨?j,(absurd q_1.2.eX.yB ‹_›)⟩,fun h11 h12 h13=>⟨?k,?l⟩⟩,fun h10=>⟨fun h11 h12 h13=>⟨?m,?n⟩,fun h11=>absurd (show true=false from h11) (by decide)⟩⟩⟩) (fun h9 h10 h11=>⟨?o,?p,q_1.2.kept.fV.st,fun h12 h13 h14=>⟨?q,?r⟩⟩)))⟩) (fun h6=>⟨rfl,⟨q_1.2.mm,q_1.2.eX.TC⟩,fun h7=>⟨rfl,q_1.2.eX.len,fun h8=>⟨rfl,?s,fun h9=>⟨rfl,?t,⟨fun h10=>iB (fun h11 =>?u) (fun h11 =>?v),fun h10=>⟨fun h11=>absurd (show false=true from h11) (by decide),fun h11=>⟨rfl,?w,fun h12=>⟨aa,aa,iQ (fun h13=>iQ (fun h14=>⟨aa,fun K q_2=>⟨fun h15=>⟨rfl,?x,fun h16=>⟨aa,?y⟩⟩,fun h15 =>?z⟩⟩) (fun h14 =>?a0)) (fun h13 =>?a1)⟩⟩⟩⟩⟩⟩⟩⟩)⟩))⟩⟩⟩
 case a|b|f|p=>omega
 case c=>
  have hk:I.1+1<=1000:=(by have a:=(q_0 h2).1;have b:=q_1.1;omega);exact⟨q_1.2.kept.fV,q_1.2.eX.Lr (ag (ah hk) (ai _))⟩
 case d|h|j|k|m|o|q=>
  have hk:I.1+1<=1000:=(by have a:=(q_0 h2).1;have b:=q_1.1;omega);simp only[aJ];omega
 case e=>
  have hk:I.1+1<=1000:=(by have a:=(q_0 h2).1;have b:=q_1.1;omega);exact⟨rfl,(I.1+1,I.2.1,(jO I.2.1 I.2.2 _).1),⟨by simp only;omega,(q_1.2.build (ag (ah hk) (ai _)) _).1⟩,by simp only;omega,⟨by simp only;omega,aa⟩,aa,rfl,rfl⟩
 case g=>
  have hk:I.1+1<=1000:=(by have a:=(q_0 h2).1;have b:=q_1.1;omega);exact q_1.2.eX.Lr (ag (ah hk) (ai _))
 case i=>
  have hk:I.1+1<=1000:=(by have a:=(q_0 h2).1;have b:=q_1.1;omega);exact⟨rfl,(I.1+1,I.2.1,(gJ I.2.2 _).1),⟨by simp only;omega,(q_1.2.drop (ag (ah hk) (ai _)) _).1⟩,by simp only;omega,⟨by simp only;omega,aa⟩,aa,rfl,rfl⟩
 case l=>
  have hk:I.1+1<=1000:=(by have a:=(q_0 h2).1;have b:=q_1.1;omega);exact⟨rfl,(I.1+1,I.2.1,I.2.2),⟨by simp only;omega,q_1.2.next⟩,by simp only;omega,⟨by simp only;omega,aa⟩,aa,rfl,rfl⟩
 case n=>
  have hk:I.1+1<=1000:=(by have a:=(q_0 h2).1;have b:=q_1.1;omega);exact⟨rfl,(I.1+1,I.2.1,I.2.2),⟨by simp only;omega,q_1.2.next⟩,by simp only;omega,⟨by simp only;omega,aa⟩,aa,rfl,congrArg (fun z=>((),I.2.1.1,I.2.1.2.1,z,I.2.2.2)) q_1.2.eX.again⟩
 case r=>
  have hk:I.1+1<=1000:=(by have a:=(q_0 h2).1;have b:=q_1.1;omega);exact⟨rfl,(I.1+1,jr I.2.1 _,I.2.2),⟨by simp only;omega,q_1.2.done _⟩,by simp only;omega,⟨by simp only;omega,aa⟩,aa,rfl,rfl⟩
 case s=>
  obtain⟨r,_,_,h3⟩:=q_1.2.eX.at;exact⟨h3.fV.NI,by rw[h3.quiet];intro i hi;exact absurd hi (Nat.not_lt_zero _)⟩
 case t=>
  have E:fW I.2.2.2 c=I.2.2.2:=(jt _ _).trans (jC q_1.2.eX q_1.2.sync c);rw[E];exact⟨q_1.2.eX.sZ,q_1.2.eX.sec⟩
 case u|v=>
  have E:fW I.2.2.2 c=I.2.2.2:=(jt _ _).trans (jC q_1.2.eX q_1.2.sync c);exact absurd (show(cG (fW I.2.2.2 c)).2=0 from by rw[E];exact q_1.2.eX.yB) h10
 case w=>
  have E:fW I.2.2.2 c=I.2.2.2:=(jt _ _).trans (jC q_1.2.eX q_1.2.sync c);have G:(cG (fW I.2.2.2 c)).1.2=I.2.2.1.2.1:=by rw[E];exact q_1.2.eX.yC
  rw[G];exact⟨q_1.2.mm,q_1.2.eX.TC⟩
 case x=>
  have E:fW I.2.2.2 c=I.2.2.2:=(jt _ _).trans (jC q_1.2.eX q_1.2.sync c);have G:(cG (fW I.2.2.2 c)).1.2=I.2.2.1.2.1:=by rw[E];exact q_1.2.eX.yC
  rw[G];exact q_1.2.eX.len
 case y=>
  have E:fW I.2.2.2 c=I.2.2.2:=(jt _ _).trans (jC q_1.2.eX q_1.2.sync c);have G:(cG (fW I.2.2.2 c)).1.2=I.2.2.1.2.1:=by rw[E];exact q_1.2.eX.yC
  rw[G];exact Tz rfl
 case z=>
  have E:fW I.2.2.2 c=I.2.2.2:=(jt _ _).trans (jC q_1.2.eX q_1.2.sync c);have G:(cG (fW I.2.2.2 c)).1.2=I.2.2.1.2.1:=by rw[E];exact q_1.2.eX.yC
  exact Bool.noConfusion ((q_2 (by simp only[G])).symm.trans h15)
 case a0=>
  have E:fW I.2.2.2 c=I.2.2.2:=(jt _ _).trans (jC q_1.2.eX q_1.2.sync c);have G:(cG (fW I.2.2.2 c)).1.2=I.2.2.1.2.1:=by rw[E];exact q_1.2.eX.yC
  rw[G]at h14;exact absurd rfl h14
 case a1=>
  have E:fW I.2.2.2 c=I.2.2.2:=(jt _ _).trans (jC q_1.2.eX q_1.2.sync c);have G:(cG (fW I.2.2.2 c)).1.2=I.2.2.1.2.1:=by rw[E];exact q_1.2.eX.yC
  rw[G]at h13;exact absurd rfl h13
theorem Tryz.KH:bW Tryz.prog Tryz.B.eT Tryz.X 6 [.slice dC,.str,.int .u64] [.bool] (fun _=>True) (fun _ y=>y=true):=
 cC (X:=Tryz.X) Tryz.F1 Tryz.func6 (by kernel_rfl) (fun _=>[]) (fun x hw hp=>KG x.1 x.2.1 x.2.2 hw)
open Go.ChangeShapes Go.WideShapes Go.ChangeAt Go.RowKit in
theorem Tryz.Bm{W:World}(hL:laidMetH Tryz.prog af.laid W)(hsh:W.ShapedOpen Tryz.prog):Tryz.WI W:=by
 rw[al _ _ _ (by kernel_rfl)]at hL;exact⟨IC (g:=5) (t:=236) (e:=48) (n:=20) (by kernel_rfl) (by kernel_rfl) (by kernel_rfl) (by kernel_rfl) (by kernel_rfl) (by kernel_rfl) ((show(Rows.laid_internal_strconv_uint64pow10:DataW Unit)=Lib.tabData .u64 Lib.pow10Tab from by kernel_rfl)▸aj hL (.tail _ (.tail _ (.head _)))),
  IB (g:=0) (t:=3) (zero:=#[.int .i64 0]) hsh (of_decide_eq_true (by kernel_rfl)) (by kernel_rfl) rfl (by kernel_rfl) (by kernel_rfl) (by kernel_rfl),
  ur (g:=3) (t:=31) (by kernel_rfl) (by kernel_rfl) (by kernel_rfl) (aj hL (.tail _ (.tail _ (.tail _ (.tail _ (.tail _ (.head _))))))),
  ur (g:=4) (t:=31) (by kernel_rfl) (by kernel_rfl) (by kernel_rfl) (aj hL (.tail _ (.tail _ (.tail _ (.tail _ (.head _))))))⟩
open Go.ChangeShapes Go.WideShapes Go.ChangeAt Go.RowKit in
set_option maxRecDepth 100000 in
theorem CV(os:Os)(started:os.Started)(H:Type)(enc:TypeId×Value->H) :
  ReturnsInHanded {} Tryz.checked os 6 .any (fun w args=>(ak.pre enc Tryz.prog Tryz.f6 [] false w args/\laidMetH Tryz.prog af.laid w)/\sizedMet enc Tryz.prog Tryz.f6 (OpenSpec.ofChange ak) false w args) (ak.post enc Tryz.prog Tryz.f6 false true false false):=by
 refine Kb (C:=Tryz.checked) (X:=fun w _=>laidMetH Tryz.prog af.laid w) (fun _ _ _ hh h=>h.of_heap hh) (by kernel_rfl) started (by kernel_rfl) Tryz.func6
  (ChangeSpec.witness_shaped (enc:=enc) (C:=Tryz.checked) (os:=os) (X:=fun w _=>laidMetH Tryz.prog af.laid w) false (World.laidAll Tryz.prog os af.laid) #[.slice none 0 0,.string ⟨#[]⟩,.int .u64 0] 8 (World.laidAll_os _ _ _) (World.shaped_of_ZipB (by kernel_rfl) (by kernel_rfl)) (by kernel_rfl) (by kernel_rfl) (by kernel_rfl)
   (by rw[al _ _ _ (by kernel_rfl)];exact laidMet_laidAll _ (by kernel_rfl) (by kernel_rfl))) ?_
 intro W base args ds gs before hval hW hL hsh;exact O5 (C:=Tryz.checked) (n:=16) rfl (by kernel_rfl) (fun ds h=>by match ds,h with|[_,_,_],_=>rfl) (by kernel_rfl) (by kernel_rfl) (by kernel_rfl) (tb:=4) (by kernel_rfl) Tryz.KH hval hW (Tryz.Bm hL hsh) (fun _ _=>trivial)
open Go.ChangeShapes Go.WideShapes Go.ChangeAt Go.RowKit in
theorem F2:Rows.TopAgainSaid:=
 OpenClaim.holds_of_wide 6 Tryz.f6 rfl rfl rfl rfl rfl rfl rfl ⟨rfl,rfl,rfl,rfl,rfl⟩ rfl rfl rfl rfl rfl (by kernel_rfl) Tryz.func6 (by kernel_rfl)
  (of_decide_eq_true (by kernel_rfl)) (by unfold Func.isWrapper;first|(rw[if_pos (by decide+kernel)];kernel_rfl)|(rw[if_neg (by decide+kernel)];exact⟨rfl,rfl⟩))
  (fun os started H enc _=>CV os started H enc)
theorem topAgain_holds:Rows.TopAgainCardSaid:=
 Claim7.holds_tied_plain_at .later [] [.data,.data,.data,.data,.sentinel,.sentinel,.pinned] true (true,"3c5c196b774b4365299062fcc3dd1242738f58e7d9c08bc0263c732c0257cea6") true
  F2 (fun _ h=>by cases h) (by kernel_rfl) (fun _ h=>by cases h) topAgain_row_tie rfl ⟨rfl,rfl⟩ (by kernel_rfl) rfl
  (fun f fn hf hfn=>by
   obtain rfl:f=6:=ao ((show Tryz.prog.funcNamed af.func=some 6 by kernel_rfl).symm.trans hf) |>.symm
   obtain rfl:fn=Tryz.f6:=(ao (Tryz.func6.symm.trans hfn)).symm;exact⟨by kernel_rfl,fun j t ht=>by
    have hall:(Tryz.f6.params.toList.all fun t =>!Tryz.prog.wantsStandIn t)=true:=by kernel_rfl
    have hm:t∈Tryz.f6.params.toList:=Array.mem_def.1 (Array.mem_of_getElem? ht);exact(by simpa using List.all_eq_true.1 hall t hm:Tryz.prog.wantsStandIn t=false)⟩)
  (by kernel_rfl)
#print axioms topAgain_holds
end Go.Proofs.YtgokjhhcfemnhadGreatDoor

