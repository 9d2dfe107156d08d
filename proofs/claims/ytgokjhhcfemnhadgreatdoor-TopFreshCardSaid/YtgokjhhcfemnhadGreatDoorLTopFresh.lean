/- A part of the proof that the law TopFreshCard holds of the given program: facts that are used there. -/
import Derived.Test.YtgokjhhcfemnhadGreatDoorPart5
import Derived.Test.YtgokjhhcfemnhadGreatDoorRows
import Derived.Test.YtgokjhhcfemnhadGreatDoorTie
import Derived.Test.YtgokjhhcfemnhadGreatDoorCards
import Derived.LaidMore
set_option linter.unusedSimpArgs false
set_option linter.unusedVariables false
set_option maxRecDepth 100000
set_option maxHeartbeats 4000000
set_option linter.defProp false
noncomputable section
open True renaming intro->aa
open Prod renaming snd->ab,fst->ad
open List renaming length->ae,nil->ag
open Go.Proofs.YtgokjhhcfemnhadGreatDoor.Rows renaming topFreshRow->af,topFreshSpec->aq
open Nat renaming le_trans->ah,le_of_succ_le->ai,le_refl->aj,zero_le->ak
open Bool renaming noConfusion->al,false_and->ar
open Go.Lib.laidMet renaming reads->ao
open Go.MakeChecks renaming laidMetH_plain->au
open Option.some renaming inj->av
namespace Go.Proofs.YtgokjhhcfemnhadGreatDoor
open Go.Vg Go.Mrl
def Tryz.z8:List (FuncId×(Bool×aU)):=[(45,Tryz.spZ0),(17,Tryz.spZ1),(29,Tryz.spZ30),(8,Tryz.spZ31),(7,(false,aZ [] [] (fun _ _=>True) Tryz.xY)),(9,(false,gy Tryz.B Tryz.LQ Tryz.f9 Tryz.LR)),(11,Tryz.spZ36),(10,Tryz.spZ37),(14,Tryz.spZ38),(13,Tryz.spZ23),(12,Tryz.spZ26)]
theorem Tryz.F4:bP Tryz.prog Tryz.B Tryz.X Tryz.z8:=
 aQ (aE Tryz.jn) (aQ (aE Tryz.ir) (aQ (ji Tryz.qW) (aQ (ji Tryz.xX) (aQ (Tryz.T5) (aQ (eR Tryz.Ry Tryz.func9 (by kernel_rfl) Tryz.LR) (aQ (Tryz.Jo) (aQ (Tryz.FM) (aQ (Tryz.LP) (aQ (Tryz.p5) (aQ (Tryz.z7) (bR Tryz.bQ)))))))))))
def Tryz.Aa(_:List (D cQ))(_:List (D cQ))(_:List UInt8):dY:=[
 (0,fun st=>{X:=Nat,inv:=fun i=>i<=(cO (.slice .str) st 14).length,cB:=fun i=>(cO (.slice .str) st 14).length-i,bK:=fun i=>[(17,sI i),(16,.s (.one (.app (.int .i64) (jf (aG ((yh (.int .i64) st (bF st 7) 1,()),NJ (ij cI) st (lf st (bF st 7) 0),())) (cO (.slice .str) st 14) i) (bF st 16))))],aF:=fun i=>[(bF st 16,.tok (.int .i64) (jf (aG ((yh (.int .i64) st (bF st 7) 1,()),NJ (ij cI) st (lf st (bF st 7) 0),())) (cO (.slice .str) st 14) i))],keep:=[1,2,6,7,8,12,13,14],gP:=[bF st 16]}),
 (2,fun st=>{X:=Nat,inv:=fun i=>i<=(cO (.slice .str) st 14).length,cB:=fun i=>(cO (.slice .str) st 14).length-i,bK:=fun i=>[(22,sI i),(21,sB (qN (aG ((yh (.int .i64) st (bF st 7) 1,()),NJ (ij cI) st (lf st (bF st 7) 0),())) (cO (.slice .str) st 14) (rowOf (.int .i64) st (bF st 16)) i))],keep:=[2,6,7,8,12,13,14,16]})]
theorem KF(l:List (D cQ))(m:List (D cQ))(s:List UInt8)(hw:gU [.slice cQ,.slice cQ,.str] (l,m,s)):(dM (lU Tryz.B [97]) Tryz.z8 Tryz.f3 (Tryz.Aa l m s) [.slice cQ,.slice cQ,.str] [.bool] (fun _ y=>y=true) (l,m,s)).holds:=by
 refine holds_of (p:=
  let za:=false=true
  let zb:=true=true
  let zc:=(iT (qT 112)).1
  let zd:=Nat×cH×Sh
  let ze:=ae l
  let zf:=(0+1,())
  let zg:=[122,122]
  let zh:=fun(G:Nat×cH×Sh)=>(↑G.1:Int)
  let zi:=fun(G:Nat×cH×Sh)=>0<=zh G/\zh G<(↑ze:Int)
  let zj:=fun(G:Nat×cH×Sh)=>(nth cQ l G.1).1
  let zk:=fun(G:Nat×cH×Sh)=>G.2.2.2.2.2.2.1=G.2.2.2.2.2.2.1
  let zl:=fun(G:Nat×cH×Sh)=>fR G.2.1/\xJ G.2.2
  let zm:=fun(G:Nat×cH×Sh)=>aM (zh G)
  let zn:=aM 1
  let zo:=fun(G:Nat×cH×Sh)=>zh G+1
  let zp:=fun(G:Nat×cH×Sh)=>aM (zo G)
  let zq:=fun(G:Nat×cH×Sh)=>(fL G.2.1 G.2.2 (nth cQ l G.1).2.1).1
  let zr:=fun(G:Nat×cH×Sh)=>G.2.1.2.1
  let zs:=fun(G:Nat×cH×Sh)=>(gI G.2.2 (nth cQ l G.1).2.1).1
  let zt:=fun(G:Nat×cH×Sh)=>(dO G.2.2.2).2
  let zu:=fun(G:Nat×cH×Sh)=>zm G->zn->zp G/\zk G/\∃(x':zd),(ad x'<=ze/\kS (ab x').1 (ab x').2 (ad x'))/\ze-ad x'<ze-G.1/\(zo G=(↑(ad x'):Int)/\True)/\True/\zb/\((),G.2.1.1,zr G,G.2.2)=((),(ab x').1.1,(ab x').1.2.1,(ab x').2)
  let zv:=fun(G:Nat×cH×Sh)=>fY G.2.1 (List.drop G.1 (List.take (Int.toNat (zo G)) l))
  let zw:=fun(G:Nat×cH×Sh)=>(fL G.2.1 G.2.2 s).1.2
  let zx:=fun(G:Nat×cH×Sh)=>(zw G).2.2.2.1=(zw G).2.2.2.1
  let zy:=fun(G:Nat×cH×Sh)=>(fL G.2.1 G.2.2 s).1.1
  let zz:=fun(G:Nat×cH×Sh)=>(jv G.2.1 (zy G).2.1 s).2
  let zaa:=fun(G:Nat×cH×Sh)=>aG G.2.1
  let zab:=fun(G:Nat×cH×Sh)=>(aT (zaa G) s).1
  let zac:=fun(G:Nat×cH×Sh)=>ae (zab G)
  let zad:=fun(K:Nat) (G:Nat×cH×Sh)=>0<=(↑K:Int)/\(↑K:Int)<(↑(zac G):Int)
  let zae:=fun(G:Nat×cH×Sh) (K:Nat)=>jf (zaa G) (zab G) K
  let zaf:=fun(K:Nat)=>(↑K:Int)+1
  let zag:=fun(G:Nat×cH×Sh) (K:Nat)=>zae G K++[(aG G.2.1 (nth Ty.str (zab G) K)).2.1]
  let zah:=0+ae Tryz.dH+1+1
  let zai:=C.eM zah=C.eM zah
  let zaj:=C.ref 1 0
  let zak:=C.ref (zah+1) 0
  let zal:=C.ref 4 0
  let zam:=zah+1+1+1
  let zan:=C.aV (zam+1)
  let zao:=fun(G:Nat×cH×Sh)=>(zaj=zaj/\zak=zak/\True)/\(zal=zal/\(zy G).1=(zy G).1/\(zy G).2.1=(zy G).2.1/\True)/\(C.aV zam=C.aV zam/\zan=zan/\zx G/\(zw G).1.1=(zw G).1.1/\(zw G).1.2.1=(zw G).1.2.1/\True)/\(zw G).2.1=(zw G).2.1/\(zw G).2.2.1=(zw G).2.2.1/\zx G/\True
  let zap:=fun(G:Nat×cH×Sh)=>fY G.2.1 m
  let zaq:=fun(G:Nat×cH×Sh)=>aG (zap G)
  let zar:=fun(G:Nat×cH×Sh) (K:Nat)=>(zai/\(zap G).1.1=(zap G).1.1/\True)/\(zap G).2.1=(zap G).2.1/\zae G K=zae G K/\zao G
  let zas:=fun(M:Nat) (G:Nat×cH×Sh) (K:Nat)=>aM (↑M:Int)->zn->aM (zaf M)/\∃(x':Nat),x'<=zac G/\zac G-x'<zac G-M/\(zaf M=(↑x':Int)/\false=qN (zaq G) (zab G) (zae G K) x'/\True)/\zar G K
  let zat:=fun(G:Nat×cH×Sh)=>(jv (zap G) (zy G).2.1 s).2
  True/\(True->((!true)=true->za)/\((!true)=false->True/\∀F:Bool,(F=true->pU l 30)->((!F)=true->zb)/\((!F)=false->True/\∀I:Bool,(I=true->pU m 10)->((!I)=true->zb)/\((!I)=false->ae s<=aN->((decide ((↑(ae s):Int) > 20))=true->zb)/\((decide ((↑(ae s):Int) > 20))=false->(zc.2.2.2.1=zc.2.2.2.1/\∃(x':zd),(ad x'<=ze/\kS (ab x').1 (ab x').2 (ad x'))/\True/\(0=(↑(ad x'):Int)/\True)/\True/\zb/\((),zf,(fU cI (eU cI (@ag FE) zg (AU,zf) 0) zg,mT cI (@ag FE) zg 0,()),(2,[],()),zc)=((),(ab x').1.1,(ab x').1.2.1,(ab x').2))/\∀G:Nat×cH×Sh,G.1<=ze/\kS G.2.1 G.2.2 G.1->ze<=aN->((decide (zh G<(↑ze:Int)))=true->zi G/\((zj G == [98,117,105,108,100])=true->zi G/\zk G/\zl G/\(True->zm G->zn->zp G/\(zq G).2.2.2.2.1=(zq G).2.2.2.2.1/\∃(x':zd),(ad x'<=ze/\kS (ab x').1 (ab x').2 (ad x'))/\ze-ad x'<ze-G.1/\(zo G=(↑(ad x'):Int)/\True)/\True/\zb/\((),G.2.1.1,zr G,zq G)=((),(ab x').1.1,(ab x').1.2.1,(ab x').2)))/\((zj G == [98,117,105,108,100])=false->((zj G == [100,114,111,112])=true->zi G/\zk G/\xJ G.2.2/\(True->zm G->zn->zp G/\(zs G).2.2.2.2.1=(zs G).2.2.2.2.1/\∃(x':zd),(ad x'<=ze/\kS (ab x').1 (ab x').2 (ad x'))/\ze-ad x'<ze-G.1/\(zo G=(↑(ad x'):Int)/\True)/\True/\zb/\((),G.2.1.1,zr G,zs G)=((),(ab x').1.1,(ab x').1.2.1,(ab x').2)))/\((zj G == [100,114,111,112])=false->((zj G == [111,112,101,110])=true->zk G/\(dC G.2.2.2 1000000/\∀(i:Nat),i<ae G.2.2.2.2.2.1->ae (nth Ty.str G.2.2.2.2.2.1 i)=64)/\(zt G≠0->((aL.isNil (aJ (zt G)))=true->zm G->zn->zp G/\False)/\((aL.isNil (aJ (zt G)))=false->zu G))/\(zt G=0->((aL.isNil aL.nil)=true->zm G->zn->zp G/\zk G/\∃(x':zd),(ad x'<=ze/\kS (ab x').1 (ab x').2 (ad x'))/\ze-ad x'<ze-G.1/\(zo G=(↑(ad x'):Int)/\True)/\True/\zb/\((),G.2.1.1,zr G,((dO G.2.2.2).1.1,(dO G.2.2.2).1.2,()),G.2.2.2)=((),(ab x').1.1,(ab x').1.2.1,(ab x').2))/\((aL.isNil aL.nil)=false->zu G)))/\((zj G == [111,112,101,110])=false->zm G->zn->zp G/\(0<=zh G/\zh G<=zo G/\zo G<=(↑ze:Int))/\dA G.2.1/\(True->zm G->zn->zp G/\zk G/\∃(x':zd),(ad x'<=ze/\kS (ab x').1 (ab x').2 (ad x'))/\ze-ad x'<ze-G.1/\(zo G=(↑(ad x'):Int)/\True)/\True/\zb/\((),(zv G).1,(zv G).2.1,G.2.2)=((),(ab x').1.1,(ab x').1.2.1,(ab x').2))))))/\((decide (zh G<(↑ze:Int)))=false->zk G/\zl G/\(True->((!aL.isNil (aJ (fL G.2.1 G.2.2 s).2))=true->zb)/\((!aL.isNil (aJ (fL G.2.1 G.2.2 s).2))=false->zx G/\(ae (zr G).1<=6/\tt (zy G).2.1)/\(True->((!aL.isNil (aJ (zz G).2))=true->za)/\((!aL.isNil (aJ (zz G).2))=false->((!(zz G).1)=true->za)/\((!(zz G).1)=false->ae (zr G).1<=6/\(True->((!aL.isNil (aJ (aT (zaa G) s).2.2))=true->za)/\((!aL.isNil (aJ (aT (zaa G) s).2.2))=false->(∃(x:Nat),x<=zac G/\(0=(↑x:Int)/\@ag Int=jf (zaa G) (zab G) x/\True)/\@ag Int=jf (zaa G) (zab G) x/\True)/\∀K:Nat,K<=zac G->zac G<=aN->((decide ((↑K:Int)<(↑(zac G):Int)))=true->zad K G/\True/\(True->(zae G K=zae G K/\ae (zae G K)+ae [(aG G.2.1 (nth Ty.str (zab G) K)).2.1]<=1000000000)/\(aM (↑K:Int)->zn->aM (zaf K)/\∃(x':Nat),x'<=zac G/\zac G-x'<zac G-K/\(zaf K=(↑x':Int)/\zag G K=jf (zaa G) (zab G) x'/\True)/\zag G K=jf (zaa G) (zab G) x'/\(zai/\G.2.1.1.1=G.2.1.1.1/\True)/\zr G=zr G/\zao G)))/\((decide ((↑K:Int)<(↑(zac G):Int)))=false->dA G.2.1/\(True->(∃(x:Nat),x<=zac G/\(0=(↑x:Int)/\true=qN (zaq G) (zab G) (zae G K) x/\True)/\True)/\∀M:Nat,M<=zac G->zac G<=aN->((decide ((↑M:Int)<(↑(zac G):Int)))=true->zad M G/\True/\(True->((qN (zaq G) (zab G) (zae G K) M)=true->((aL.isNil (aJ (aG (zap G) (nth Ty.str (zab G) M)).2.2))=true->(0<=(↑M:Int)/\(↑M:Int)<(↑(ae (zae G K)):Int))/\(aM (↑M:Int)->zn->aM (zaf M)/\∃(x':Nat),x'<=zac G/\zac G-x'<zac G-M/\(zaf M=(↑x':Int)/\((aG (zap G) (nth Ty.str (zab G) M)).2.1 == nth (Ty.int IntKind.i64) (zae G K) M)=qN (zaq G) (zab G) (zae G K) x'/\True)/\zar G K))/\((aL.isNil (aJ (aG (zap G) (nth Ty.str (zab G) M)).2.2))=false->zas M G K))/\((qN (zaq G) (zab G) (zae G K) M)=false->zas M G K)))/\((decide ((↑M:Int)<(↑(zac G):Int)))=false->zx G/\(ae (zap G).2.1.1<=6/\tt (zy G).2.1)/\(True->(((zat G).1 == qN (zaq G) (zab G) (zae G K) M)=true->((!qN (zaq G) (zab G) (zae G K) M)=true->zb)/\((!qN (zaq G) (zab G) (zae G K) M)=false->aL.isNil (aJ (zat G).2)=true))/\(((zat G).1 == qN (zaq G) (zab G) (zae G K) M)=false->za))))))))))))))))))) (by kernel_rfl) ?_
 dsimp -iota -proj -eta only;refine⟨aa,fun h0=>⟨fun h1=>absurd (show false=true from h1) (by decide),fun h1=>⟨aa,fun F q_0=>iB (fun h2=>rfl) (fun h2=>⟨aa,fun I q_1=>iB (fun h3=>rfl) (fun h3 h4=>iL (fun h5=>rfl) (fun h5=>⟨(⟨rfl,(0,IH,jm),⟨ak _,Vi⟩,aa,⟨rfl,aa⟩,aa,rfl,rfl⟩),fun G q_2 h6=>iL (fun h7=>⟨?a,iQ (fun h8=>⟨?b,rfl,?c,fun h9 h10 h11=>⟨?d,?e⟩⟩) (fun h8=>iQ (fun h9=>⟨?f,rfl,?g,fun h10 h11 h12=>⟨?h,?i⟩⟩) (fun h9=>iQ (fun h10=>⟨rfl,⟨q_2.2.me.vy,q_2.2.me.sec⟩,⟨fun h11=>⟨fun h12 h13 h14=>⟨?j,(absurd q_2.2.me.DD ‹_›)⟩,fun h12 h13 h14=>⟨?k,?l⟩⟩,fun h11=>⟨fun h12 h13 h14=>⟨?m,?n⟩,fun h12=>absurd (show true=false from h12) (by decide)⟩⟩⟩) (fun h10 h11 h12=>⟨?o,?p,?q,fun h13 h14 h15=>⟨?r,?s⟩⟩)))⟩) (fun h7=>⟨rfl,?t,fun h8=>iB (fun h9=>rfl) (fun h9=>⟨rfl,?u,fun h10=>iB (fun h11 =>?v) (fun h11=>iB (fun h12 =>?w) (fun h12=>⟨q_2.2.mo,fun h13=>iB (fun h14 =>?x) (fun h14=>⟨(⟨0,ak _,⟨rfl,rfl,aa⟩,rfl,aa⟩),fun K q_3 h15=>iL (fun h16=>⟨?y,aa,fun h17=>⟨?z,fun h18 h19=>⟨?a0,(⟨K+1,by omega,by omega,⟨by omega,z1 (by omega),aa⟩,z1 (by omega),(by trivial)⟩)⟩⟩⟩) (fun h16=>⟨?a1,fun h17=>⟨(⟨0,ak _,⟨rfl,rfl,aa⟩,(by trivial)⟩),fun M q_4 h18=>iL (fun h19=>⟨?a2,aa,fun h20=>⟨fun h21=>⟨fun h22=>⟨(by rw[CJ (by omega)];omega),fun h23 h24=>⟨?a3,(by exact⟨M+1,by omega,by omega,⟨by omega,by rw[vA,h21,decide_eq_true (aK.1 h22)];rfl,aa⟩,(by trivial)⟩)⟩⟩,fun h22 h23 h24=>⟨?a4,(⟨M+1,by omega,by omega,⟨by omega,by rw[vA,decide_eq_false (dU h22),ar,Bool.and_false],aa⟩,(by trivial)⟩)⟩⟩,fun h21 h22 h23=>⟨?a5,(⟨M+1,by omega,by omega,⟨by omega,by rw[vA,h21,ar],aa⟩,(by trivial)⟩)⟩⟩⟩) (fun h19=>⟨rfl,?a6,fun h20=>iQ (fun h21=>iB (fun h22=>rfl) (fun h22 =>?a7)) (fun h21 =>?a8)⟩)⟩⟩)⟩)⟩))⟩)⟩)⟩))⟩)⟩⟩⟩
 case a|b|f|p|y|a2=>omega
 case c=>
  have hk:G.1+1<=1000:=(by have a:=(q_0 h2).1;have b:=q_2.1;omega);exact⟨q_2.2.kept.fP,q_2.2.me.DE (ah (ai hk) (aj _))⟩
 case d|h|j|k|m|o|r=>
  have hk:G.1+1<=1000:=(by have a:=(q_0 h2).1;have b:=q_2.1;omega);simp only[aM];omega
 case e=>
  have hk:G.1+1<=1000:=(by have a:=(q_0 h2).1;have b:=q_2.1;omega);exact⟨rfl,(G.1+1,G.2.1,(fL G.2.1 G.2.2 _).1),⟨by simp only;omega,(q_2.2.build (ah (ai hk) (aj _)) _).1⟩,by simp only;omega,⟨by simp only;omega,aa⟩,aa,rfl,rfl⟩
 case g=>
  have hk:G.1+1<=1000:=(by have a:=(q_0 h2).1;have b:=q_2.1;omega);exact q_2.2.me.DE (ah (ai hk) (aj _))
 case i=>
  have hk:G.1+1<=1000:=(by have a:=(q_0 h2).1;have b:=q_2.1;omega);exact⟨rfl,(G.1+1,G.2.1,(gI G.2.2 _).1),⟨by simp only;omega,(q_2.2.drop (ah (ai hk) (aj _)) _).1⟩,by simp only;omega,⟨by simp only;omega,aa⟩,aa,rfl,rfl⟩
 case l=>
  have hk:G.1+1<=1000:=(by have a:=(q_0 h2).1;have b:=q_2.1;omega);exact⟨rfl,(G.1+1,G.2.1,G.2.2),⟨by simp only;omega,q_2.2.next⟩,by simp only;omega,⟨by simp only;omega,aa⟩,aa,rfl,rfl⟩
 case n=>
  have hk:G.1+1<=1000:=(by have a:=(q_0 h2).1;have b:=q_2.1;omega);exact⟨rfl,(G.1+1,G.2.1,G.2.2),⟨by simp only;omega,q_2.2.next⟩,by simp only;omega,⟨by simp only;omega,aa⟩,aa,rfl,congrArg (fun z=>((),G.2.1.1,G.2.1.2.1,z,G.2.2.2)) q_2.2.me.again⟩
 case q|a1=>exact q_2.2.kept.fP.st
 case s=>
  have hk:G.1+1<=1000:=(by have a:=(q_0 h2).1;have b:=q_2.1;omega);exact⟨rfl,(G.1+1,fY G.2.1 _,G.2.2),⟨by simp only;omega,q_2.2.done _⟩,by simp only;omega,⟨by simp only;omega,aa⟩,aa,rfl,rfl⟩
 case t=>
  have hk:G.1<=1000:=(by have a:=(q_0 h2).1;have b:=q_2.1;omega);exact⟨q_2.2.kept.fP,q_2.2.me.DE hk⟩
 case u=>
  have hk:G.1<=1000:=(by have a:=(q_0 h2).1;have b:=q_2.1;omega);exact⟨q_2.2.mo,(q_2.2.build hk s).1.me.Tg⟩
 case v=>
  have hk:G.1<=1000:=(by have a:=(q_0 h2).1;have b:=q_2.1;omega);have hb:=q_2.2.built hk (s:=s) (aK.1 h9);exact absurd (congrArg (fun z:List (D iH)×Bool×Int=>(aJ z.2.2).isNil) hb.2.1) (by rw[h11];exact al)
 case w=>
  have hk:G.1<=1000:=(by have a:=(q_0 h2).1;have b:=q_2.1;omega);have hb:=q_2.2.built hk (s:=s) (aK.1 h9);exact absurd (congrArg (fun z:List (D iH)×Bool×Int=>z.2.1) hb.2.1) (by rw[h12];exact al)
 case x=>
  have hk:G.1<=1000:=(by have a:=(q_0 h2).1;have b:=q_2.1;omega);have hb:=q_2.2.built hk (s:=s) (aK.1 h9);exact absurd (congrArg (fun z=>(aJ z).isNil) hb.2.2.1) (by rw[h14];exact al)
 case z=>
  have hk:G.1<=1000:=(by have a:=(q_0 h2).1;have b:=q_2.1;omega);have hb:=q_2.2.built hk (s:=s) (aK.1 h9);have hn:(aT (aG G.2.1) s).1.length<=6:=(r6 q_2.2.ok hb.2.2.1).le;exact⟨rfl,by rw[CJ (by omega),List.length_singleton];omega⟩
 case a0|a3|a4|a5=>
  have hk:G.1<=1000:=(by have a:=(q_0 h2).1;have b:=q_2.1;omega);have hb:=q_2.2.built hk (s:=s) (aK.1 h9);have hn:(aT (aG G.2.1) s).1.length<=6:=(r6 q_2.2.ok hb.2.2.1).le;simp only[aM];omega
 case a6=>
  have hk:G.1<=1000:=(by have a:=(q_0 h2).1;have b:=q_2.1;omega);exact⟨((q_2.2.build hk s).1.done m).mo,(q_2.2.build hk s).1.me.Tg⟩
 case a7=>
  have hk:G.1<=1000:=(by have a:=(q_0 h2).1;have b:=q_2.1;omega);have e3:K=(aT (aG G.2.1) s).1.length:=(by omega);have e4:M=(aT (aG G.2.1) s).1.length:=(by omega);have E:qN (aG (fY G.2.1 m)) (aT (aG G.2.1) s).1 (jf (aG G.2.1) (aT (aG G.2.1) s).1 K) M=xL (aG G.2.1) (aG (fY G.2.1 m)) (aT (aG G.2.1) s).1:=(by rw[e3,e4];exact Lo);have hu:=q_2.2.used hk (s:=s) (aK.1 h9) m;exact aK.2 (hu.2 (E.symm.trans h22))
 case a8=>
  have hk:G.1<=1000:=(by have a:=(q_0 h2).1;have b:=q_2.1;omega);have e3:K=(aT (aG G.2.1) s).1.length:=(by omega);have e4:M=(aT (aG G.2.1) s).1.length:=(by omega);have E:qN (aG (fY G.2.1 m)) (aT (aG G.2.1) s).1 (jf (aG G.2.1) (aT (aG G.2.1) s).1 K) M=xL (aG G.2.1) (aG (fY G.2.1 m)) (aT (aG G.2.1) s).1:=(by rw[e3,e4];exact Lo);have hu:=q_2.2.used hk (s:=s) (aK.1 h9) m;exact absurd (hu.1.trans E.symm) (by intro e;exact h21 (by rw[e]))
theorem Tryz.KG:bX Tryz.prog Tryz.B.eT Tryz.X 3 [.slice cQ,.slice cQ,.str] [.bool] (fun _=>True) (fun _ y=>y=true):=
 cG (B:=(lU Tryz.B [97])) (X:=Tryz.X) (bP.hint (l:=[97]) Tryz.F4) Tryz.func3 (by kernel_rfl) (fun x=>Tryz.Aa x.1 x.2.1 x.2.2) (fun x hw hp=>KF x.1 x.2.1 x.2.2 hw)
open Go.ChangeShapes Go.WideShapes Go.ChangeAt Go.RowKit in
theorem Tryz.Bk{W:World}(hL:laidMetH Tryz.prog af.laid W)(hsh:W.ShapedOpen Tryz.prog):Tryz.Wq W:=by
 rw[au _ _ _ (by kernel_rfl)]at hL;exact⟨IJ (g:=5) (t:=236) (e:=48) (n:=20) (by kernel_rfl) (by kernel_rfl) (by kernel_rfl) (by kernel_rfl) (by kernel_rfl) (by kernel_rfl) ((show(Rows.laid_internal_strconv_uint64pow10:DataW Unit)=Lib.tabData .u64 Lib.pow10Tab from by kernel_rfl)▸ao hL (.tail _ (.tail _ (.head _)))),
  II (g:=0) (t:=3) (zero:=#[.int .i64 0]) hsh (of_decide_eq_true (by kernel_rfl)) (by kernel_rfl) rfl (by kernel_rfl) (by kernel_rfl) (by kernel_rfl),
  ui (g:=3) (t:=31) (by kernel_rfl) (by kernel_rfl) (by kernel_rfl) (ao hL (.tail _ (.tail _ (.tail _ (.tail _ (.tail _ (.head _))))))),
  ui (g:=4) (t:=31) (by kernel_rfl) (by kernel_rfl) (by kernel_rfl) (ao hL (.tail _ (.tail _ (.tail _ (.tail _ (.head _))))))⟩
open Go.ChangeShapes Go.WideShapes Go.ChangeAt Go.RowKit in
set_option maxRecDepth 100000 in
theorem CW(os:Os)(started:os.Started)(H:Type)(enc:TypeId×Value->H) :
  ReturnsInHanded {} Tryz.checked os 3 .any (fun w args=>(aq.pre enc Tryz.prog Tryz.f3 [] false w args/\laidMetH Tryz.prog af.laid w)/\sizedMet enc Tryz.prog Tryz.f3 (OpenSpec.ofChange aq) false w args) (aq.post enc Tryz.prog Tryz.f3 false true false false):=by
 refine Kc (C:=Tryz.checked) (X:=fun w _=>laidMetH Tryz.prog af.laid w) (fun _ _ _ hh h=>h.of_heap hh) (by kernel_rfl) started (by kernel_rfl) Tryz.func3
  (ChangeSpec.witness_shaped (enc:=enc) (C:=Tryz.checked) (os:=os) (X:=fun w _=>laidMetH Tryz.prog af.laid w) false (World.laidAll Tryz.prog os af.laid) #[.slice none 0 0,.slice none 0 0,.string ⟨#[]⟩] 8 (World.laidAll_os _ _ _) (World.shaped_of_ZipB (by kernel_rfl) (by kernel_rfl)) (by kernel_rfl) (by kernel_rfl) (by kernel_rfl)
   (by rw[au _ _ _ (by kernel_rfl)];exact laidMet_laidAll _ (by kernel_rfl) (by kernel_rfl))) ?_
 intro W base args ds gs before hval hW hL hsh;exact OZ (C:=Tryz.checked) (n:=16) rfl (by kernel_rfl) (fun ds h=>by match ds,h with|[_,_,_],_=>rfl) (by kernel_rfl) (by kernel_rfl) (by kernel_rfl) (tb:=4) (by kernel_rfl) Tryz.KG hval hW (Tryz.Bk hL hsh) (fun _ _=>trivial)
open Go.ChangeShapes Go.WideShapes Go.ChangeAt Go.RowKit in
theorem F5:Rows.TopFreshSaid:=
 OpenClaim.holds_of_wide 3 Tryz.f3 rfl rfl rfl rfl rfl rfl rfl ⟨rfl,rfl,rfl,rfl,rfl⟩ rfl rfl rfl rfl rfl (by kernel_rfl) Tryz.func3 (by kernel_rfl)
  (of_decide_eq_true (by kernel_rfl)) (by unfold Func.isWrapper;first|(rw[if_pos (by decide+kernel)];kernel_rfl)|(rw[if_neg (by decide+kernel)];exact⟨rfl,rfl⟩))
  (fun os started H enc _=>CW os started H enc)
theorem topFresh_holds:Rows.TopFreshCardSaid:=
 Claim7.holds_tied_plain_at .later [] [.data,.data,.data,.data,.sentinel,.sentinel,.pinned] true (true,"3c5c196b774b4365299062fcc3dd1242738f58e7d9c08bc0263c732c0257cea6") true
  F5 (fun _ h=>by cases h) (by kernel_rfl) (fun _ h=>by cases h) topFresh_row_tie rfl ⟨rfl,rfl⟩ (by kernel_rfl) rfl
  (fun f fn hf hfn=>by
   obtain rfl:f=3:=av ((show Tryz.prog.funcNamed af.func=some 3 by kernel_rfl).symm.trans hf) |>.symm
   obtain rfl:fn=Tryz.f3:=(av (Tryz.func3.symm.trans hfn)).symm;exact⟨by kernel_rfl,fun j t ht=>by
    have hall:(Tryz.f3.params.toList.all fun t =>!Tryz.prog.wantsStandIn t)=true:=by kernel_rfl
    have hm:t∈Tryz.f3.params.toList:=Array.mem_def.1 (Array.mem_of_getElem? ht);exact(by simpa using List.all_eq_true.1 hall t hm:Tryz.prog.wantsStandIn t=false)⟩)
  (by kernel_rfl)
#print axioms topFresh_holds
end Go.Proofs.YtgokjhhcfemnhadGreatDoor

