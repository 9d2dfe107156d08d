/- A part of the proof that the law ImageSaysCard holds of the given program: facts that are used there. -/
import Derived.Test.YtgokjhhcfemnhaaGreatDoorPart4
set_option linter.unusedSimpArgs false
set_option linter.unusedVariables false
set_option maxRecDepth 100000
set_option maxHeartbeats 4000000
namespace Go.Proofs.YtgokjhhcfemnhaaGreatDoor
open Go.Vg Go.Mrl
theorem Js (l:List (D aA)) (b:List Int) (t:D aJ) (hw:c8 [.slice aA, .slice (.int .i64),aJ] (l,b,t)) (hp:(fun x=>eC x.1/\x.2.1.length=x.1.length/\fD x.2.1) (l,b,t)):(cp Tryz.B Tryz.C5 Tryz.f133 [] [.slice aA, .slice (.int .i64),aJ] [.int .i64, .err] (fun x y=>y=(fun x=>dr x.1 x.2.1 x.2.2) x) (l,b,t)).holds:=by
 refine holds_of (p:=
  let za:=cB (l,t.2.2.2.1)
  let zb:=(0:Int)<=za.1
  let zc:=(nth aA l (Int.toNat za.1)).2.2.1
  let zd:=nth (Ty.int IntKind.i64) b (Int.toNat za.1)
  let ze:=(nth aI zc (Int.toNat za.2)).2.1
  let zf:=dr l b t
  (True)/\(((decide (za.1>=(0:Int)))=true->(zb/\za.1 < (↑(List.length b):Int))/\(zb/\za.1 < (↑(List.length l):Int))/\((0:Int)<=za.2/\za.2 < (↑(List.length zc):Int))/\((aC zd)->((aC ze)->(aC (zd + ze))/\((zd + ze,bB.nil)=zf))))/\((decide (za.1>=(0:Int)))=false->(((t.2.2.2.2.1)=true->(((0:Int),bB.nil)=zf))/\((t.2.2.2.2.1)=false->(((0:Int),bB.no (6:Int))=zf)))))) (by kernel_rfl) ?_
 dsimp -iota -proj -eta only
 dsimp only at hp
 refine ⟨trivial,iE (fun h0=>⟨?a,?b,?c,fun h1 h2=>⟨?d,((jG (by omega)).symm)⟩⟩) (fun h0=>⟨fun h1=>((iP (by omega) h1).symm),fun h1=>((nI (by omega) h1).symm)⟩)⟩
 case a|b|c=>
  have hf:=nh (l:=l) (s:=t.2.2.2.1) (by omega)
  omega
 case d=>
  have hf:=nh (l:=l) (s:=t.2.2.2.1) (by omega)
  have hb:=fZ (n:=l.length) (i:=(cB (l,t.2.2.2.1)).1) hp.2.2 hp.2.1 (by omega) hf.1;have hs:=wQ (s:=t.2.2.2.1) hp.1 (by omega)
  unfold Small at hs;dsimp only [D] at *;simp only [aC];omega
theorem Tryz.Jt:bG Tryz.prog Tryz.B.eT Tryz.X 133 [.slice aA, .slice (.int .i64),aJ] [.int .i64, .err] (fun x=>eC x.1/\x.2.1.length=x.1.length/\fD x.2.1) (fun x y=>y=(fun x=>dr x.1 x.2.1 x.2.2) x):=
 bI (X:=Tryz.X) Tryz.Hp Tryz.func133 (by kernel_rfl) (fun _=>[]) (fun x hw hp=>Js x.1 x.2.1 x.2.2 hw hp)
noncomputable def Tryz.zZ:List (FuncId × (Bool × bQ)):=[(133,(true,aM [.slice aA, .slice (.int .i64),aJ] [.int .i64, .err] (fun x=>eC x.1/\x.2.1.length=x.1.length/\fD x.2.1) (fun x=>dr x.1 x.2.1 x.2.2)))]
theorem Tryz.Et:bU Tryz.prog Tryz.B Tryz.X Tryz.zZ:=
 aS (aE Tryz.Jt) (bY Tryz.bZ)
theorem NO (l:List (D aA)) (b:List Int) (i:Int) (t:D aJ) (hw:c8 [.slice aA, .slice (.int .i64), .int .i64,aJ] (l,b,i,t)) (hp:(fun x=>eC x.1/\x.2.1.length=x.1.length/\fD x.2.1/\0<=x.2.2.1/\x.2.2.1 < x.1.length/\Small x.2.2.2.1/\Word x.2.2.2.2.2.1) (l,b,i,t)):(cp Tryz.B Tryz.zZ Tryz.f110 [] [.slice aA, .slice (.int .i64), .int .i64,aJ] [.int .i64, .err] (fun x y=>y=(fun x=>dk x.1 x.2.1 x.2.2.1 x.2.2.2) x) (l,b,i,t)).holds:=by
 refine holds_of (p:=
  let za:=(0:Int)<=i/\i < (↑(List.length b):Int)
  let zb:=nth (Ty.int IntKind.i64) b (Int.toNat i)
  let zc:=t.2.2.1
  let zd:=zb + zc
  let ze:=dr l b t
  let zf:=dk l b i t
  let zg:=ze.1 + zc
  let zh:=t.2.1 == (3:Int)
  let zi:=zb + t.1
  let zj:=aC zi
  let zk:=zg - zi
  let zl:=((0:Int),bB.no (7:Int))=zf
  let zm:=(-2147483648:Int)
  let zn:=zd - zi
  (za)/\((aC zb)->((aC zc)->(aC zd)/\(((t.2.1 != (1:Int))=true->(eC l/\List.length b=List.length l/\fD b)/\(((!bB.isNil ze.2)=true->(((0:Int),ze.2)=zf))/\((!bB.isNil ze.2)=false->((aC ze.1)->((aC zc)->(aC zg)/\(((zh)=true->(za)/\((aC zb)->((aC t.1)->(zj)/\((aC zg)->((zj)->(aC zk)/\(((decide (zk < (-500:Int)))=true->(zl))/\((decide (zk < (-500:Int)))=false->(((decide (zk > (500:Int)))=true->(zl))/\((decide (zk > (500:Int)))=false->(((decide (zk < zm))=true->(zl))/\((decide (zk < zm))=false->(((decide (zk > (2147483647:Int)))=true->(zl))/\((decide (zk > (2147483647:Int)))=false->((zk,bB.nil)=zf))))))))))))))/\((zh)=false->(((decide (zg < zm))=true->(zl))/\((decide (zg < zm))=false->(((decide (zg > (2147483647:Int)))=true->(zl))/\((decide (zg > (2147483647:Int)))=false->((zg,bB.nil)=zf))))))))))))/\((t.2.1 != (1:Int))=false->(((zh)=true->(za)/\((aC zb)->((aC t.1)->(zj)/\((aC zd)->((zj)->(aC zn)/\(((decide (zn < (-500:Int)))=true->(zl))/\((decide (zn < (-500:Int)))=false->(((decide (zn > (500:Int)))=true->(zl))/\((decide (zn > (500:Int)))=false->(((decide (zn < zm))=true->(zl))/\((decide (zn < zm))=false->(((decide (zn > (2147483647:Int)))=true->(zl))/\((decide (zn > (2147483647:Int)))=false->((zn,bB.nil)=zf))))))))))))))/\((zh)=false->(((decide (zd < zm))=true->(zl))/\((decide (zd < zm))=false->(((decide (zd > (2147483647:Int)))=true->(zl))/\((decide (zd > (2147483647:Int)))=false->((zd,bB.nil)=zf)))))))))))) (by kernel_rfl) ?_
 dsimp -iota -proj -eta only
 dsimp only at hp
 refine ⟨?a,fun h0 h1=>⟨?b,iN (fun h2=>⟨(by simp_all),⟨fun h3 => ?c,fun h3 h4 h5=>⟨?d,iQ (fun h6=>⟨?e,fun h7 h8=>⟨?f,fun h9 h10=>⟨?g,iL (fun h11 => ?h) (fun h11=>iL (fun h12 => ?i) (fun h12=>iL (fun h13 => ?j) (fun h13=>iL (fun h14 => ?k) (fun h14 => ?l))))⟩⟩⟩) (fun h6=>iL (fun h7 => ?m) (fun h7=>iL (fun h8 => ?n) (fun h8 => ?o)))⟩⟩⟩) (fun h2=>iQ (fun h3=>⟨?p,fun h4 h5=>⟨?q,fun h6 h7=>⟨?r,iL (fun h8 => ?s) (fun h8=>iL (fun h9 => ?t) (fun h9=>iL (fun h10 => ?u) (fun h10=>iL (fun h11 => ?v) (fun h11 => ?w))))⟩⟩⟩) (fun h3=>iL (fun h4 => ?x) (fun h4=>iL (fun h5 => ?y) (fun h5=>(by rw [nJ (by assumption),ni (by simp_all) rfl (by dsimp only [D] at *;omega)])))))⟩⟩
 case a|p|u|v=>omega
 case b|q|r=>
  have hb:=fZ hp.2.2.1 hp.2.1 hp.2.2.2.1 hp.2.2.2.2.1;have ht:=oF t hp.1 hp.2.1 hp.2.2.1;have hs:=hp.2.2.2.2.2;unfold Small Word at hs;dsimp only [D] at *
  simp only [aC];omega
 case c=>
  simp only [bl,reduceCtorEq] at h3
  exact (Fe (by assumption) (by assumption)).symm
 case d|f|g=>
  simp only [bl,reduceCtorEq] at h3
  have hb:=fZ hp.2.2.1 hp.2.1 hp.2.2.2.1 hp.2.2.2.2.1;have ht:=oF t hp.1 hp.2.1 hp.2.2.1;have hs:=hp.2.2.2.2.2;unfold Small Word at hs;dsimp only [D] at *
  simp only [aC];omega
 case e|j|k=>
  simp only [bl,reduceCtorEq] at h3
  omega
 case h|i=>
  simp only [bl,reduceCtorEq] at h3
  rw [gu (by assumption) (by assumption),vp (by assumption) (by dsimp only [D] at *;omega)]
 case l=>
  simp only [bl,reduceCtorEq] at h3
  rw [gu (by assumption) (by assumption),xN (by assumption) rfl (by dsimp only [D] at *;omega)]
 case m|n=>
  simp only [bl,reduceCtorEq] at h3
  have hb:=fZ hp.2.2.1 hp.2.1 hp.2.2.2.1 hp.2.2.2.2.1;have ht:=oF t hp.1 hp.2.1 hp.2.2.1;have hs:=hp.2.2.2.2.2;unfold Small Word at hs;dsimp only [D] at *
  first | omega | (rw [gu (by assumption) (by assumption),nK (by assumption) (by omega)])
 case o=>
  simp only [bl,reduceCtorEq] at h3
  rw [gu (by assumption) (by assumption),ni (by assumption) rfl (by dsimp only [D] at *;omega)]
 case s|t|w=>dsimp only [D] at *;omega
 case x|y=>
  have hb:=fZ hp.2.2.1 hp.2.1 hp.2.2.2.1 hp.2.2.2.2.1;have ht:=oF t hp.1 hp.2.1 hp.2.2.1;have hs:=hp.2.2.2.2.2;unfold Small Word at hs;dsimp only [D] at *
  first | omega | (rw [nJ (by assumption),nK (by simp_all) (by omega)])
theorem Tryz.NP:bG Tryz.prog Tryz.B.eT Tryz.X 110 [.slice aA, .slice (.int .i64), .int .i64,aJ] [.int .i64, .err] (fun x=>eC x.1/\x.2.1.length=x.1.length/\fD x.2.1/\0<=x.2.2.1/\x.2.2.1 < x.1.length/\Small x.2.2.2.1/\Word x.2.2.2.2.2.1) (fun x y=>y=(fun x=>dk x.1 x.2.1 x.2.2.1 x.2.2.2) x):=
 bI (X:=Tryz.X) Tryz.Et Tryz.func110 (by kernel_rfl) (fun _=>[]) (fun x hw hp=>NO x.1 x.2.1 x.2.2.1 x.2.2.2 hw hp)
noncomputable def Tryz.z1:List (FuncId × (Bool × bQ)):=[(110,(true,aM [.slice aA, .slice (.int .i64), .int .i64,aJ] [.int .i64, .err] (fun x=>eC x.1/\x.2.1.length=x.1.length/\fD x.2.1/\0<=x.2.2.1/\x.2.2.1 < x.1.length/\Small x.2.2.2.1/\Word x.2.2.2.2.2.1) (fun x=>dk x.1 x.2.1 x.2.2.1 x.2.2.2)))]
theorem Tryz.Eu:bU Tryz.prog Tryz.B Tryz.X Tryz.z1:=
 aS (aE Tryz.NP) (bY Tryz.bZ)
def Ju (l:List (D aA)) (b:List Int):cy:=[
 (0,fun st=>{X:=Nat,inv:=fun i=>i<=b.length/\∀j,j < i->0<=(nth (.int .i64) b j:Int)/\(nth (.int .i64) b j:Int)<=256,aW:=fun i=>b.length - i,aQ:=fun i=>[(23,sI i)],aU:=[0,1,21,22]}),
 (2,fun st=>{X:=Nat × List (D aN),inv:=fun x=>x.1<=l.length/\gg l b (l.drop x.1) x.1 x.2=gg l b l 0 []/\x.2.length<=10 * x.1,aW:=fun x=>l.length - x.1,aQ:=fun x=>[(37,sI x.1),(8, .s (.one (.app aN x.2 (aR st 8))))],aF:=fun x=>[(aR st 8, .tok aN x.2)],aU:=[0,1,35,36],dq:=[aR st 8]}),
 (4,fun st=>{X:=Nat × List (D aN),inv:=fun x=>x.1<=(nth aA l (aX (.int .i64) st 37).toNat).2.2.2.1.length/\fr (gg l b (l.drop ((aX (.int .i64) st 37).toNat + 1)) ((aX (.int .i64) st 37).toNat + 1)) (gl l b (aX (.int .i64) st 37).toNat ((nth aA l (aX (.int .i64) st 37).toNat).2.2.2.1.drop x.1) x.2)=gg l b l 0 []/\x.2.length<=10 * (aX (.int .i64) st 37).toNat + x.1,aW:=fun x=>(nth aA l (aX (.int .i64) st 37).toNat).2.2.2.1.length - x.1,aQ:=fun x=>[(45,sI x.1),(8, .s (.one (.app aN x.2 (aR st 8))))],aF:=fun x=>[(aR st 8, .tok aN x.2)],aU:=[0,1,9,10,35,36,37,38,39,40,41,42,43,44],dq:=[aR st 8]})]
theorem NQ (l:List (D aA)) (b:List Int) (hw:c8 [.slice aA, .slice (.int .i64)] (l,b)) (hp:(fun x=>eC x.1) (l,b)):(cp Tryz.B Tryz.z1 Tryz.f78 (Ju l b) [.slice aA, .slice (.int .i64)] [.slice aN, .err] (fun x y=>y=(fun x=>cH x) x) (l,b)).holds:=by
 refine holds_of (p:=
  let za:=List.length b
  let zb:=List.length l
  let zc:=cH (l,b)
  let zd:=Ty.int IntKind.i64
  let ze:=([],bB.no (1:Int))=zc
  let zf:=aC (1:Int)
  let zg:=@List.nil (Int × Int × Int × Unit) = @List.nil (Int × Int × Int × Unit)/\True
  let zh:=Nat × List (Int × Int × Int × Unit)
  let zi:=gg l b l (0:Nat) (@List.nil Pt)
  let zj:=fun (x_1:Nat × List (Int × Int × Int × Unit))=>(10:Nat) * x_1.1
  let zk:=fun (x_1:Nat × List (Int × Int × Int × Unit))=>(↑x_1.1:Int)
  let zl:=fun (x_1:Nat × List (Int × Int × Int × Unit))=>zk x_1 < (↑zb:Int)
  let zm:=fun (x_1:Nat × List (Int × Int × Int × Unit))=>(0:Int)<=zk x_1
  let zn:=fun (x_1:Nat × List (Int × Int × Int × Unit))=>(nth aA l x_1.1).2.2.2.1
  let zo:=fun (x_1:Nat × List (Int × Int × Int × Unit))=>List.length (zn x_1)
  let zp:=fun (x_1:Nat × List (Int × Int × Int × Unit))=>gg l b (List.drop (x_1.1 + (1:Nat)) l) (x_1.1 + (1:Nat))
  let zq:=fun (x_1 x_2:Nat × List (Int × Int × Int × Unit))=>(dk l b (zk x_1) (nth aJ (zn x_1) x_2.1)).2
  let zr:=fun (x_1 x_2:Nat × List (Int × Int × Int × Unit))=>[(zk x_1,(nth aJ (zn x_1) x_2.1).1,(dk l b (zk x_1) (nth aJ (zn x_1) x_2.1)).1,())]
  ((za<=aG)->((zb<=aG)->((((↑za:Int) != (↑zb:Int))=true->(([],bB.no (3:Int))=zc))/\(((↑za:Int) != (↑zb:Int))=false->((za<=aG)->(∃(x:Nat),(x<=za/\∀(j:Nat),j < x->(0:Int)<=nth zd b j/\nth zd b j<=(256:Int))/\((0:Int)=(↑x:Int)/\True)/\True)/\(∀x_0:Nat,((x_0<=za/\∀(j:Nat),j < x_0->(0:Int)<=nth zd b j/\nth zd b j<=(256:Int))->(((decide ((↑x_0:Int) < (↑za:Int)))=true->((0:Int)<=(↑x_0:Int)/\(↑x_0:Int) < (↑za:Int))/\(((decide (nth zd b x_0 < (0:Int)))=true->(ze))/\((decide (nth zd b x_0 < (0:Int)))=false->(((decide (nth zd b x_0 > (256:Int)))=true->(ze))/\((decide (nth zd b x_0 > (256:Int)))=false->((aC (↑x_0:Int))->((zf)->(aC ((↑x_0:Int) + (1:Int)))/\(∃(x':Nat),(x'<=za/\∀(j:Nat),j < x'->(0:Int)<=nth zd b j/\nth zd b j<=(256:Int))/\za - x' < za - x_0/\((↑x_0:Int) + (1:Int)=(↑x':Int)/\True)/\zg))))))))/\((decide ((↑x_0:Int) < (↑za:Int)))=false->((zb<=aG)->(∃(x:zh),(Prod.fst x<=zb/\gg l b (List.drop (Prod.fst x) l) (Prod.fst x) (Prod.snd x)=zi/\List.length (Prod.snd x)<=(10:Nat) * Prod.fst x)/\((0:Int)=(↑(Prod.fst x):Int)/\@List.nil (Int × Int × Int × Unit)=Prod.snd x/\True)/\@List.nil (Int × Int × Int × Unit)=Prod.snd x/\True)/\(∀x_1:Nat × List (Int × Int × Int × Unit),((x_1.1<=zb/\gg l b (List.drop x_1.1 l) x_1.1 x_1.2=zi/\List.length x_1.2<=zj x_1)->(((decide (zl x_1))=true->(zm x_1/\zl x_1)/\((zo x_1<=aG)->(∃(x:zh),(Prod.fst x<=zo x_1/\fr (zp x_1) (gl l b x_1.1 (List.drop (Prod.fst x) (zn x_1)) (Prod.snd x))=zi/\List.length (Prod.snd x)<=zj x_1 + Prod.fst x)/\((0:Int)=(↑(Prod.fst x):Int)/\x_1.2=Prod.snd x/\True)/\x_1.2=Prod.snd x/\True)/\(∀x_2:Nat × List (Int × Int × Int × Unit),((x_2.1<=zo x_1/\fr (zp x_1) (gl l b x_1.1 (List.drop x_2.1 (zn x_1)) x_2.2)=zi/\List.length x_2.2<=zj x_1 + x_2.1)->(((decide (zk x_2 < (↑(zo x_1):Int)))=true->(zm x_2/\zk x_2 < (↑(zo x_1):Int))/\(eC l/\za=zb/\fD b/\zm x_1/\zl x_1/\Small (nth aJ (zn x_1) x_2.1).1/\Word (nth aJ (zn x_1) x_2.1).2.2.1)/\(((!bB.isNil (zq x_1 x_2))=true->(([],zq x_1 x_2)=zc))/\((!bB.isNil (zq x_1 x_2))=false->(x_2.2=x_2.2/\List.length x_2.2 + List.length (zr x_1 x_2)<=(1000000000:Nat))/\((aC (zk x_2))->((zf)->(aC (zk x_2 + (1:Int)))/\(∃(x':zh),(Prod.fst x'<=zo x_1/\fr (zp x_1) (gl l b x_1.1 (List.drop (Prod.fst x') (zn x_1)) (Prod.snd x'))=zi/\List.length (Prod.snd x')<=zj x_1 + Prod.fst x')/\zo x_1 - Prod.fst x' < zo x_1 - x_2.1/\(zk x_2 + (1:Int)=(↑(Prod.fst x'):Int)/\x_2.2++zr x_1 x_2=Prod.snd x'/\True)/\x_2.2++zr x_1 x_2=Prod.snd x'/\((nth aA l x_1.1).1=(nth aA l x_1.1).1/\(nth aA l x_1.1).2.1=(nth aA l x_1.1).2.1/\(nth aA l x_1.1).2.2.1=(nth aA l x_1.1).2.2.1/\zn x_1=zn x_1/\True)/\@List.nil (Int × Int × Int × List UInt8 × Bool × Unit) = @List.nil (Int × Int × Int × List UInt8 × Bool × Unit)/\@List.nil (List UInt8 × Int × Bool × Unit) = @List.nil (List UInt8 × Int × Bool × Unit)/\@List.nil Int = @List.nil Int/\@List.nil (List UInt8) = @List.nil (List UInt8)/\zg))))))/\((decide (zk x_2 < (↑(zo x_1):Int)))=false->((aC (zk x_1))->((zf)->(aC (zk x_1 + (1:Int)))/\(∃(x':zh),(Prod.fst x'<=zb/\gg l b (List.drop (Prod.fst x') l) (Prod.fst x') (Prod.snd x')=zi/\List.length (Prod.snd x')<=(10:Nat) * Prod.fst x')/\zb - Prod.fst x' < zb - x_1.1/\(zk x_1 + (1:Int)=(↑(Prod.fst x'):Int)/\x_2.2=Prod.snd x'/\True)/\x_2.2=Prod.snd x'/\zg)))))))))/\((decide (zl x_1))=false->((x_1.2,bB.nil)=zc)))))))))))))))) (by kernel_rfl) ?_
 dsimp -iota -proj -eta only
 dsimp only at hp
 refine fun h0 h1=>iN (fun h2=>((BV (by omega)).symm)) (fun h2 h3=>⟨(⟨0,⟨by omega,fun j hj=>by omega⟩,⟨rfl,trivial⟩,trivial⟩),fun x_0 q_0=>iL (fun h4=>⟨?a,iL (fun h5 => ?b) (fun h5=>iL (fun h6 => ?c) (fun h6 h7 h8=>⟨?d,(⟨x_0 + 1,⟨by omega,ja q_0.2 (by dsimp only [D] at *;omega)⟩,by omega,⟨by omega,trivial⟩,(by trivial)⟩)⟩))⟩) (fun h4 h5=>⟨(⟨(0,[]),⟨by omega,rfl,by simp⟩,(by trivial),(by trivial)⟩),fun x_1 q_1=>iL (fun h6=>⟨?e,fun h7=>⟨(by exact ⟨(0,x_1.2),⟨by omega,by rw [<-yD (by omega)];exact q_1.2.1,by simp only;omega⟩,(by trivial),(by trivial)⟩),fun x_2 q_2=>iL (fun h8=>⟨?f,?g,⟨fun h9 => ?h,fun h9=>⟨?i,fun h10 h11=>⟨?j,?k⟩⟩⟩⟩) (fun h8 h9 h10=>⟨?l,?m⟩)⟩⟩) (fun h6 => ?n)⟩)⟩)
 case a|e|f=>omega
 case b|c=>exact (yE (i:=x_0) (by omega) (by omega) (by dsimp only [D] at *;omega)).symm
 case d|l=>simp only [aC,aG] at *;omega
 case g=>
  have hlen:b.length=l.length:=(by omega);have hib:fD b:=fun j hj=>q_0.2 j (by omega)
  have hm:=hp.2 x_1.1 (by omega);have htk:=hm.2.2 x_2.1 (by omega);have hb:=fZ (i:=(x_1.1:Int)) hib hlen (by omega) (by omega);unfold Small Word at htk;rw [Int.toNat_natCast] at hb
  exact ⟨hp,hlen,hib,by omega,by omega,htk.1,htk.2⟩
 case h=>
  simp only [bl,reduceCtorEq] at h9
  have hlen:b.length=l.length:=(by omega);have hib:fD b:=fun j hj=>q_0.2 j (by omega)
  rw [iO hlen hib,<-q_2.2.1,lT (by omega) (by assumption)]
 case i=>
  simp only [bl,reduceCtorEq] at h9
  have hlen:b.length=l.length:=(by omega);have hib:fD b:=fun j hj=>q_0.2 j (by omega)
  have hm:=hp.2 x_1.1 (by omega);have htk:=hm.2.2 x_2.1 (by omega);have hb:=fZ (i:=(x_1.1:Int)) hib hlen (by omega) (by omega);unfold Small Word at htk;rw [Int.toNat_natCast] at hb
  have:=hm.1;have:=hp.1
  exact ⟨rfl,by simp only [List.length_singleton,aG];omega⟩
 case j=>
  simp only [bl,reduceCtorEq] at h9
  simp only [aC,aG] at *;omega
 case k=>
  simp only [bl,reduceCtorEq] at h9
  have ho:(dk l b x_1.1 (nth aJ (nth aA l x_1.1).2.2.2.1 x_2.1)).2.isNil=true:=by assumption
  exact ⟨(x_2.1 + 1,_),⟨by omega,by rw [<-q_2.2.1,pU (k:=x_2.1) (by omega) ho],by simp only [List.length_append,List.length_singleton];omega⟩,by simp only;omega,⟨by simp only;omega,rfl,trivial⟩,(by trivial)⟩
 case m=>
  have hm:=hp.2 x_1.1 (by omega)
  exact ⟨(x_1.1 + 1,x_2.2),⟨by omega,by rw [<-q_2.2.1,Fc (by omega)],by have:=hm.1;simp only;omega⟩,by simp only;omega,⟨by simp only;omega,rfl,trivial⟩,(by trivial)⟩
 case n=>
  have hlen:b.length=l.length:=(by omega);have hib:fD b:=fun j hj=>q_0.2 j (by omega)
  rw [iO hlen hib,<-q_1.2.1,Fb (by omega)]
theorem Tryz.NR:bG Tryz.prog Tryz.B.eT Tryz.X 78 [.slice aA, .slice (.int .i64)] [.slice aN, .err] (fun x=>eC x.1) (fun x y=>y=(fun x=>cH x) x):=
 bI (X:=Tryz.X) Tryz.Eu Tryz.func78 (by kernel_rfl) (fun x=>Ju x.1 x.2) (fun x hw hp=>NQ x.1 x.2 hw hp)
def Da (l:List (D aA)) (s:List UInt8):cy:=[
 (0,fun st=>{X:=Nat,inv:=fun p=>p<=2/\fb l s p 0 0,aW:=fun p=>2 - p,aQ:=fun p=>[(6,sI p)],aU:=[0,1]}),
 (2,fun st=>{X:=Nat,inv:=fun i=>i<=l.length/\fb l s (aX (.int .i64) st 6).toNat i 0,aW:=fun i=>l.length - i,aQ:=fun i=>[(7,sI i)],aU:=[0,1,6,10,11]}),
 (4,fun st=>{X:=Nat,inv:=fun k=>k<=(nth aA l (aX (.int .i64) st 7).toNat).2.2.1.length/\fb l s (aX (.int .i64) st 6).toNat (aX (.int .i64) st 7).toNat k,aW:=fun k=>(nth aA l (aX (.int .i64) st 7).toNat).2.2.1.length - k,aQ:=fun k=>[(8,sI k)],aU:=[0,1,6,7,10,11,14,15,16,17]})]
theorem LC (l:List (D aA)) (s:List UInt8) (hw:c8 [.slice aA, .str] (l,s)):(cp Tryz.B [] Tryz.f28 (Da l s) [.slice aA, .str] [.int .i64, .int .i64] (fun x y=>y=(fun x=>cB x) x) (l,s)).holds:=by
 refine holds_of (p:=
  let za:=fun (x_0:Nat)=>(↑x_0:Int)
  let zb:=List.length l
  let zc:=fun (x_1:Nat)=>List.length (nth aA l x_1).2.2.1
  let zd:=fun (x_1:Nat)=>(0:Int)<=za x_1/\za x_1 < (↑zb:Int)
  let ze:=cB (l,s)
  let zf:=aC (1:Int)
  let zg:=fun (x_2:Nat)=>za x_2 + (1:Int)
  let zh:=fun (x_2:Nat) (x_1:Nat) (x_0:Nat)=>((aC (za x_2))->((zf)->(aC (zg x_2))/\(∃(x':Nat),(x'<=zc x_1/\fb l s x_0 x_1 x')/\zc x_1 - x' < zc x_1 - x_2/\(zg x_2=(↑x':Int)/\True)/\True)))
  (∃(x:Nat),(x<=(2:Nat)/\fb l s x (0:Nat) (0:Nat))/\((0:Int)=(↑x:Int)/\True)/\True)/\(∀x_0:Nat,((x_0<=(2:Nat)/\fb l s x_0 (0:Nat) (0:Nat))->(((decide (za x_0 < (2:Int)))=true->(∃(x:Nat),(x<=zb/\fb l s x_0 x (0:Nat))/\((0:Int)=(↑x:Int)/\True)/\True)/\(∀x_1:Nat,((x_1<=zb/\fb l s x_0 x_1 (0:Nat))->((zb<=aG)->(((decide (za x_1 < (↑zb:Int)))=true->(∃(x:Nat),(x<=zc x_1/\fb l s x_0 x_1 x)/\((0:Int)=(↑x:Int)/\True)/\True)/\(∀x_2:Nat,((x_2<=zc x_1/\fb l s x_0 x_1 x_2)->(zd x_1)/\((zc x_1<=aG)->(((decide (za x_2 < (↑(zc x_1):Int)))=true->(zd x_1)/\((0:Int)<=za x_2/\za x_2 < (↑(zc x_1):Int))/\((((nth aI (nth aA l x_1).2.2.1 x_2).1 == s)=true->((((nth aI (nth aA l x_1).2.2.1 x_2).2.2.1 == (za x_0 == (1:Int)))=true->((za x_1,za x_2)=ze))/\(((nth aI (nth aA l x_1).2.2.1 x_2).2.2.1 == (za x_0 == (1:Int)))=false->(zh x_2 x_1 x_0))))/\(((nth aI (nth aA l x_1).2.2.1 x_2).1 == s)=false->(zh x_2 x_1 x_0))))/\((decide (za x_2 < (↑(zc x_1):Int)))=false->((aC (za x_1))->((zf)->(aC (zg x_1))/\(∃(x':Nat),(x'<=zb/\fb l s x_0 x' (0:Nat))/\zb - x' < zb - x_1/\(zg x_1=(↑x':Int)/\True)/\True)))))))))/\((decide (za x_1 < (↑zb:Int)))=false->((aC (za x_0))->((zf)->(aC (zg x_0))/\(∃(x':Nat),(x'<=(2:Nat)/\fb l s x' (0:Nat) (0:Nat))/\(2:Nat) - x' < (2:Nat) - x_0/\(zg x_0=(↑x':Int)/\True)/\True)))))))))/\((decide (za x_0 < (2:Int)))=false->(((-1:Int),(-1:Int))=ze)))))) (by kernel_rfl) ?_
 dsimp -iota -proj -eta only
 refine ⟨(⟨0,⟨by omega,fb.start l s⟩,⟨rfl,trivial⟩,trivial⟩),fun x_0 q_0=>iL (fun h0=>⟨(⟨0,⟨by omega,q_0.2⟩,⟨rfl,trivial⟩,trivial⟩),fun x_1 q_1 h1=>iL (fun h2=>⟨(⟨0,⟨by omega,q_1.2⟩,⟨rfl,trivial⟩,trivial⟩),fun x_2 q_2=>⟨?a,fun h3=>iL (fun h4=>⟨?b,?c,iQ (fun h5=>iQ (fun h6=>((q_2.2.found (by omega) (by omega) (by omega) (by assumption) (by simp_all)).symm)) (fun h6 h7 h8=>⟨?d,(⟨x_2 + 1,⟨by omega,q_2.2.next (fun hh=>by have h2:=hh.2;cases hw:(nth aI (nth aA l x_1).2.2.1 x_2).2.2.1 <;> simp_all)⟩,by omega,⟨by omega,trivial⟩,(by trivial)⟩)⟩)) (fun h5 h6 h7=>⟨?e,(⟨x_2 + 1,⟨by omega,q_2.2.next (by simp_all)⟩,by omega,⟨by omega,trivial⟩,(by trivial)⟩)⟩)⟩) (fun h4 h5 h6=>⟨?f,(⟨x_1 + 1,⟨by omega,q_2.2.row (by omega)⟩,by omega,⟨by omega,trivial⟩,(by trivial)⟩)⟩)⟩⟩) (fun h2 h3 h4=>⟨?g,(⟨x_0 + 1,⟨by omega,q_1.2.pass (by omega)⟩,by omega,⟨by omega,trivial⟩,(by trivial)⟩)⟩)⟩) (fun h0=>((q_0.2.done (by omega)).symm))⟩
 case a|b|c=>omega
 case d|e|f|g=>simp only [aC,aG] at *;omega
theorem Tryz.LD:bG Tryz.prog Tryz.B.eT Tryz.X 28 [.slice aA, .str] [.int .i64, .int .i64] (fun _=>True) (fun x y=>y=(fun x=>cB x) x):=
 bI (X:=Tryz.X) (bY Tryz.bZ) Tryz.func28 (by kernel_rfl) (fun x=>Da x.1 x.2) (fun x hw hp=>LC x.1 x.2 hw)
theorem Hq (n:Int) (hw:c8 [.int .i64] n):(cp Tryz.B [] Tryz.f95 [] [.int .i64] [.bool] (fun x y=>y=(fun n=>decide (-2147483648<=n) && decide (n<=2147483647)) x) n).holds:=by
 refine holds_of (p:=
  let za:=decide (n<=(2147483647:Int))
  let zb:=decide ((-2147483648:Int)<=n) && za
  (((decide (n>=(-2147483648:Int)))=true->(za=zb))/\((decide (n>=(-2147483648:Int)))=false->(false=zb)))) (by kernel_rfl) ?_
 dsimp -iota -proj -eta only
 refine iE (fun h0 => ?a) (fun h0 => ?b)
 case a|b=>rw [Bool.eq_iff_iff];simp;omega
theorem Tryz.Hr:bG Tryz.prog Tryz.B.eT Tryz.X 95 [.int .i64] [.bool] (fun _=>True) (fun x y=>y=(fun n=>decide (-2147483648<=n) && decide (n<=2147483647)) x):=
 bI (X:=Tryz.X) (bY Tryz.bZ) Tryz.func95 (by kernel_rfl) (fun _=>[]) (fun x hw hp=>Hq x hw)
noncomputable def Tryz.z6:List (FuncId × (Bool × bQ)):=[(28,(true,aM [.slice aA, .str] [.int .i64, .int .i64] (fun _=>True) (fun x=>cB x))),
 (95,(true,aM [.int .i64] [.bool] (fun _=>True) (fun n=>decide (-2147483648<=n) && decide (n<=2147483647))))]
theorem Tryz.Ev:bU Tryz.prog Tryz.B Tryz.X Tryz.z6:=
 aS (aE Tryz.LD) (aS (aE Tryz.Hr) (bY Tryz.bZ))
def z7 (l:List (D aA)) (b:List Int):cy:=[
 (0,fun st=>{X:=Nat,inv:=fun i=>i<=b.length/\∀j,j < i->0<=(nth (.int .i64) b j:Int)/\(nth (.int .i64) b j:Int)<=256,aW:=fun i=>b.length - i,aQ:=fun i=>[(6,sI i)],aU:=[0,1]}),
 (2,fun st=>{X:=Nat × List (D aN),inv:=fun x=>x.1<=l.length/\gg l b (l.drop x.1) x.1 x.2=gg l b l 0 []/\x.2.length<=10 * x.1,aW:=fun x=>l.length - x.1,aQ:=fun x=>[(8,sI x.1),(7, .s (.one (.app aN x.2 (aR st 7))))],aF:=fun x=>[(aR st 7, .tok aN x.2)],aU:=[0,1],dq:=[aR st 7]}),
 (4,fun st=>{X:=Nat × List (D aN),inv:=fun x=>x.1<=(nth aA l (aX (.int .i64) st 8).toNat).2.2.2.1.length/\fr (gg l b (l.drop ((aX (.int .i64) st 8).toNat + 1)) ((aX (.int .i64) st 8).toNat + 1)) (gl l b (aX (.int .i64) st 8).toNat ((nth aA l (aX (.int .i64) st 8).toNat).2.2.2.1.drop x.1) x.2)=gg l b l 0 []/\x.2.length<=10 * (aX (.int .i64) st 8).toNat + x.1,aW:=fun x=>(nth aA l (aX (.int .i64) st 8).toNat).2.2.2.1.length - x.1,aQ:=fun x=>[(9,sI x.1),(7, .s (.one (.app aN x.2 (aR st 7))))],aF:=fun x=>[(aR st 7, .tok aN x.2)],aU:=[0,1,8,38,39,40,41],dq:=[aR st 7]})]
theorem Ew (l:List (D aA)) (b:List Int) (hw:c8 [.slice aA, .slice (.int .i64)] (l,b)) (hp:(fun x=>eC x.1) (l,b)):(cp Tryz.B Tryz.z6 Tryz.f74 (z7 l b) [.slice aA, .slice (.int .i64)] [.slice aN, .int .i64] (fun x y=>y=(fun x=>((cH x).1,eJ (cH x).2)) x) (l,b)).holds:=by
 refine holds_of (p:=
  let za:=List.length b
  let zb:=List.length l
  let zc:=(↑za:Int)
  let zd:=(↑zb:Int)
  let ze:=((cH (l,b)).1,eJ (cH (l,b)).2)
  let zf:=Ty.int IntKind.i64
  let zg:=fun (x_0:Nat)=>(0:Int)<=(↑x_0:Int)/\(↑x_0:Int) < zc
  let zh:=([],(1:Int))=ze
  let zi:=aC (1:Int)
  let zj:=@List.nil (Int × Int × Int × Unit) = @List.nil (Int × Int × Int × Unit)/\True
  let zk:=Nat × List (Int × Int × Int × Unit)
  let zl:=gg l b l (0:Nat) (@List.nil Pt)
  let zm:=fun (x_1:Nat × List (Int × Int × Int × Unit))=>List.length x_1.2
  let zn:=fun (x_1:Nat × List (Int × Int × Int × Unit))=>(10:Nat) * x_1.1
  let zo:=fun (x_1:Nat × List (Int × Int × Int × Unit))=>(↑x_1.1:Int)
  let zp:=fun (x_1:Nat × List (Int × Int × Int × Unit))=>(nth aA l x_1.1).2.2.2.1
  let zq:=fun (x_1:Nat × List (Int × Int × Int × Unit))=>List.length (zp x_1)
  let zr:=fun (x_1:Nat × List (Int × Int × Int × Unit))=>gg l b (List.drop (x_1.1 + (1:Nat)) l) (x_1.1 + (1:Nat))
  let zs:=fun (x_1:Nat × List (Int × Int × Int × Unit))=>(0:Int)<=zo x_1
  let zt:=fun (x_1:Nat × List (Int × Int × Int × Unit))=>zs x_1/\zo x_1 < zc
  let zu:=fun (x_1 x_2:Nat × List (Int × Int × Int × Unit))=>(nth aJ (zp x_1) x_2.1).2.2.1
  let zv:=fun (x_1:Nat × List (Int × Int × Int × Unit))=>nth zf b x_1.1
  let zw:=fun (x_1 x_2:Nat × List (Int × Int × Int × Unit))=>zu x_1 x_2 + zv x_1
  let zx:=fun (x_1 x_2:Nat × List (Int × Int × Int × Unit))=>(nth aJ (zp x_1) x_2.1).2.1 == (3:Int)
  let zy:=fun (x_1 x_2:Nat × List (Int × Int × Int × Unit))=>(nth aJ (zp x_1) x_2.1).1
  let zz:=fun (x_1 x_2:Nat × List (Int × Int × Int × Unit))=>zw x_1 x_2 - zv x_1 - zy x_1 x_2
  let zaa:=(-500:Int)
  let zab:=([],(7:Int))=ze
  let zac:=(-2147483648:Int)
  let zad:=fun (x_2:Nat × List (Int × Int × Int × Unit))=>x_2.2=x_2.2
  let zae:=fun (x_2:Nat × List (Int × Int × Int × Unit))=>aC (zo x_2)
  let zaf:=fun (x_2:Nat × List (Int × Int × Int × Unit))=>zo x_2 + (1:Int)
  let zag:=fun (x_2:Nat × List (Int × Int × Int × Unit))=>aC (zaf x_2)
  let zah:=fun (x_2 x_1:Nat × List (Int × Int × Int × Unit))=>x_2.2++[(zo x_1,zy x_1 x_2,zz x_1 x_2,())]
  let zai:=fun (x_2 x_1:Nat × List (Int × Int × Int × Unit))=>x_2.2++[(zo x_1,zy x_1 x_2,zw x_1 x_2,())]
  let zaj:=fun (x_1 x_2:Nat × List (Int × Int × Int × Unit))=>cB (l,(nth aJ (zp x_1) x_2.1).2.2.2.1)
  let zak:=fun (x_1 x_2:Nat × List (Int × Int × Int × Unit))=>zu x_1 x_2 + nth zf b (Int.toNat (zaj x_1 x_2).1)
  let zal:=fun (x_1 x_2:Nat × List (Int × Int × Int × Unit))=>(nth aI (nth aA l (Int.toNat (zaj x_1 x_2).1)).2.2.1 (Int.toNat (zaj x_1 x_2).2)).2.1
  let zam:=fun (x_1 x_2:Nat × List (Int × Int × Int × Unit))=>zak x_1 x_2 + zal x_1 x_2
  let zan:=fun (x_1 x_2:Nat × List (Int × Int × Int × Unit))=>zam x_1 x_2 - zv x_1 - zy x_1 x_2
  let zao:=fun (x_2 x_1:Nat × List (Int × Int × Int × Unit))=>x_2.2++[(zo x_1,zy x_1 x_2,zan x_1 x_2,())]
  let zap:=fun (x_2 x_1:Nat × List (Int × Int × Int × Unit))=>x_2.2++[(zo x_1,zy x_1 x_2,zam x_1 x_2,())]
  let zaq:=fun (x_1 x_2:Nat × List (Int × Int × Int × Unit))=>zu x_1 x_2 - zv x_1 - zy x_1 x_2
  let zar:=fun (x_2 x_1:Nat × List (Int × Int × Int × Unit))=>x_2.2++[(zo x_1,zy x_1 x_2,zaq x_1 x_2,())]
  let zas:=fun (x_2 x_1:Nat × List (Int × Int × Int × Unit))=>x_2.2++[(zo x_1,zy x_1 x_2,zu x_1 x_2,())]
  let zat:=fun (x_1:Nat × List (Int × Int × Int × Unit)) (x_2:Nat × List (Int × Int × Int × Unit))=>(((decide ((zaj x_1 x_2).1>=(0:Int)))=true->((0:Int)<=(zaj x_1 x_2).1/\(zaj x_1 x_2).1 < zc)/\((aC (zu x_1 x_2))->((aC (nth zf b (Int.toNat (zaj x_1 x_2).1)))->(aC (zak x_1 x_2))/\((0:Int)<=(zaj x_1 x_2).1/\(zaj x_1 x_2).1 < zd)/\((0:Int)<=(zaj x_1 x_2).2/\(zaj x_1 x_2).2 < (↑(List.length (nth aA l (Int.toNat (zaj x_1 x_2).1)).2.2.1):Int))/\((aC (zak x_1 x_2))->((aC (zal x_1 x_2))->(aC (zam x_1 x_2))/\(((zx x_1 x_2)=true->(zt x_1)/\((aC (zam x_1 x_2))->((aC (zv x_1))->(aC (zam x_1 x_2 - zv x_1))/\((aC (zam x_1 x_2 - zv x_1))->((aC (zy x_1 x_2))->(aC (zan x_1 x_2))/\(((decide (zan x_1 x_2 < zaa))=true->(zab))/\((decide (zan x_1 x_2 < zaa))=false->(((decide (zan x_1 x_2 > (500:Int)))=true->(zab))/\((decide (zan x_1 x_2 > (500:Int)))=false->(True)/\(((!(decide (zac<=zan x_1 x_2) && decide (zan x_1 x_2<=(2147483647:Int))))=true->(zab))/\((!(decide (zac<=zan x_1 x_2) && decide (zan x_1 x_2<=(2147483647:Int))))=false->(zad x_2/\zm x_2 + List.length [(zo x_1,zy x_1 x_2,zan x_1 x_2,())]<=(1000000000:Nat))/\((zae x_2)->((zi)->(zag x_2)/\(∃(x':zk),(Prod.fst x'<=zq x_1/\fr (zr x_1) (gl l b x_1.1 (List.drop (Prod.fst x') (zp x_1)) (Prod.snd x'))=zl/\List.length (Prod.snd x')<=zn x_1 + Prod.fst x')/\zq x_1 - Prod.fst x' < zq x_1 - x_2.1/\(zaf x_2=(↑(Prod.fst x'):Int)/\zao x_2 x_1=Prod.snd x'/\True)/\zao x_2 x_1=Prod.snd x'/\zj))))))))))))))/\((zx x_1 x_2)=false->(True)/\(((!(decide (zac<=zam x_1 x_2) && decide (zam x_1 x_2<=(2147483647:Int))))=true->(zab))/\((!(decide (zac<=zam x_1 x_2) && decide (zam x_1 x_2<=(2147483647:Int))))=false->(zad x_2/\zm x_2 + List.length [(zo x_1,zy x_1 x_2,zam x_1 x_2,())]<=(1000000000:Nat))/\((zae x_2)->((zi)->(zag x_2)/\(∃(x':zk),(Prod.fst x'<=zq x_1/\fr (zr x_1) (gl l b x_1.1 (List.drop (Prod.fst x') (zp x_1)) (Prod.snd x'))=zl/\List.length (Prod.snd x')<=zn x_1 + Prod.fst x')/\zq x_1 - Prod.fst x' < zq x_1 - x_2.1/\(zaf x_2=(↑(Prod.fst x'):Int)/\zap x_2 x_1=Prod.snd x'/\True)/\zap x_2 x_1=Prod.snd x'/\zj))))))))))))/\((decide ((zaj x_1 x_2).1>=(0:Int)))=false->(((zx x_1 x_2)=true->(zt x_1)/\((aC (zu x_1 x_2))->((aC (zv x_1))->(aC (zu x_1 x_2 - zv x_1))/\((aC (zu x_1 x_2 - zv x_1))->((aC (zy x_1 x_2))->(aC (zaq x_1 x_2))/\(((decide (zaq x_1 x_2 < zaa))=true->(zab))/\((decide (zaq x_1 x_2 < zaa))=false->(((decide (zaq x_1 x_2 > (500:Int)))=true->(zab))/\((decide (zaq x_1 x_2 > (500:Int)))=false->(True)/\(((!(decide (zac<=zaq x_1 x_2) && decide (zaq x_1 x_2<=(2147483647:Int))))=true->(zab))/\((!(decide (zac<=zaq x_1 x_2) && decide (zaq x_1 x_2<=(2147483647:Int))))=false->(zad x_2/\zm x_2 + List.length [(zo x_1,zy x_1 x_2,zaq x_1 x_2,())]<=(1000000000:Nat))/\((zae x_2)->((zi)->(zag x_2)/\(∃(x':zk),(Prod.fst x'<=zq x_1/\fr (zr x_1) (gl l b x_1.1 (List.drop (Prod.fst x') (zp x_1)) (Prod.snd x'))=zl/\List.length (Prod.snd x')<=zn x_1 + Prod.fst x')/\zq x_1 - Prod.fst x' < zq x_1 - x_2.1/\(zaf x_2=(↑(Prod.fst x'):Int)/\zar x_2 x_1=Prod.snd x'/\True)/\zar x_2 x_1=Prod.snd x'/\zj))))))))))))))/\((zx x_1 x_2)=false->(True)/\(((!(decide (zac<=zu x_1 x_2) && decide (zu x_1 x_2<=(2147483647:Int))))=true->(zab))/\((!(decide (zac<=zu x_1 x_2) && decide (zu x_1 x_2<=(2147483647:Int))))=false->(zad x_2/\zm x_2 + List.length [(zo x_1,zy x_1 x_2,zu x_1 x_2,())]<=(1000000000:Nat))/\((zae x_2)->((zi)->(zag x_2)/\(∃(x':zk),(Prod.fst x'<=zq x_1/\fr (zr x_1) (gl l b x_1.1 (List.drop (Prod.fst x') (zp x_1)) (Prod.snd x'))=zl/\List.length (Prod.snd x')<=zn x_1 + Prod.fst x')/\zq x_1 - Prod.fst x' < zq x_1 - x_2.1/\(zaf x_2=(↑(Prod.fst x'):Int)/\zas x_2 x_1=Prod.snd x'/\True)/\zas x_2 x_1=Prod.snd x'/\zj)))))))))
  ((za<=aG)->((zb<=aG)->(((zc != zd)=true->(([],(3:Int))=ze))/\((zc != zd)=false->(∃(x:Nat),(x<=za/\∀(j:Nat),j < x->(0:Int)<=nth zf b j/\nth zf b j<=(256:Int))/\((0:Int)=(↑x:Int)/\True)/\True)/\(∀x_0:Nat,((x_0<=za/\∀(j:Nat),j < x_0->(0:Int)<=nth zf b j/\nth zf b j<=(256:Int))->((za<=aG)->(((decide ((↑x_0:Int) < zc))=true->(zg x_0)/\(((decide (nth zf b x_0 < (0:Int)))=true->(zh))/\((decide (nth zf b x_0 < (0:Int)))=false->(zg x_0)/\(((decide (nth zf b x_0 > (256:Int)))=true->(zh))/\((decide (nth zf b x_0 > (256:Int)))=false->((aC (↑x_0:Int))->((zi)->(aC ((↑x_0:Int) + (1:Int)))/\(∃(x':Nat),(x'<=za/\∀(j:Nat),j < x'->(0:Int)<=nth zf b j/\nth zf b j<=(256:Int))/\za - x' < za - x_0/\((↑x_0:Int) + (1:Int)=(↑x':Int)/\True)/\zj))))))))/\((decide ((↑x_0:Int) < zc))=false->(∃(x:zk),(Prod.fst x<=zb/\gg l b (List.drop (Prod.fst x) l) (Prod.fst x) (Prod.snd x)=zl/\List.length (Prod.snd x)<=(10:Nat) * Prod.fst x)/\((0:Int)=(↑(Prod.fst x):Int)/\@List.nil (Int × Int × Int × Unit)=Prod.snd x/\True)/\@List.nil (Int × Int × Int × Unit)=Prod.snd x/\True)/\(∀x_1:Nat × List (Int × Int × Int × Unit),((x_1.1<=zb/\gg l b (List.drop x_1.1 l) x_1.1 x_1.2=zl/\zm x_1<=zn x_1)->((zb<=aG)->(((decide (zo x_1 < zd))=true->(∃(x:zk),(Prod.fst x<=zq x_1/\fr (zr x_1) (gl l b x_1.1 (List.drop (Prod.fst x) (zp x_1)) (Prod.snd x))=zl/\List.length (Prod.snd x)<=zn x_1 + Prod.fst x)/\((0:Int)=(↑(Prod.fst x):Int)/\x_1.2=Prod.snd x/\True)/\x_1.2=Prod.snd x/\True)/\(∀x_2:Nat × List (Int × Int × Int × Unit),((x_2.1<=zq x_1/\fr (zr x_1) (gl l b x_1.1 (List.drop x_2.1 (zp x_1)) x_2.2)=zl/\zm x_2<=zn x_1 + x_2.1)->(zs x_1/\zo x_1 < zd)/\((zq x_1<=aG)->(((decide (zo x_2 < (↑(zq x_1):Int)))=true->(zs x_1/\zo x_1 < zd)/\(zs x_2/\zo x_2 < (↑(zq x_1):Int))/\((((nth aJ (zp x_1) x_2.1).2.1 == (1:Int))=true->(zt x_1)/\((aC (zu x_1 x_2))->((aC (zv x_1))->(aC (zw x_1 x_2))/\(((zx x_1 x_2)=true->(zt x_1)/\((aC (zw x_1 x_2))->((aC (zv x_1))->(aC (zw x_1 x_2 - zv x_1))/\((aC (zw x_1 x_2 - zv x_1))->((aC (zy x_1 x_2))->(aC (zz x_1 x_2))/\(((decide (zz x_1 x_2 < zaa))=true->(zab))/\((decide (zz x_1 x_2 < zaa))=false->(((decide (zz x_1 x_2 > (500:Int)))=true->(zab))/\((decide (zz x_1 x_2 > (500:Int)))=false->(True)/\(((!(decide (zac<=zz x_1 x_2) && decide (zz x_1 x_2<=(2147483647:Int))))=true->(zab))/\((!(decide (zac<=zz x_1 x_2) && decide (zz x_1 x_2<=(2147483647:Int))))=false->(zad x_2/\zm x_2 + List.length [(zo x_1,zy x_1 x_2,zz x_1 x_2,())]<=(1000000000:Nat))/\((zae x_2)->((zi)->(zag x_2)/\(∃(x':zk),(Prod.fst x'<=zq x_1/\fr (zr x_1) (gl l b x_1.1 (List.drop (Prod.fst x') (zp x_1)) (Prod.snd x'))=zl/\List.length (Prod.snd x')<=zn x_1 + Prod.fst x')/\zq x_1 - Prod.fst x' < zq x_1 - x_2.1/\(zaf x_2=(↑(Prod.fst x'):Int)/\zah x_2 x_1=Prod.snd x'/\True)/\zah x_2 x_1=Prod.snd x'/\zj))))))))))))))/\((zx x_1 x_2)=false->(True)/\(((!(decide (zac<=zw x_1 x_2) && decide (zw x_1 x_2<=(2147483647:Int))))=true->(zab))/\((!(decide (zac<=zw x_1 x_2) && decide (zw x_1 x_2<=(2147483647:Int))))=false->(zad x_2/\zm x_2 + List.length [(zo x_1,zy x_1 x_2,zw x_1 x_2,())]<=(1000000000:Nat))/\((zae x_2)->((zi)->(zag x_2)/\(∃(x':zk),(Prod.fst x'<=zq x_1/\fr (zr x_1) (gl l b x_1.1 (List.drop (Prod.fst x') (zp x_1)) (Prod.snd x'))=zl/\List.length (Prod.snd x')<=zn x_1 + Prod.fst x')/\zq x_1 - Prod.fst x' < zq x_1 - x_2.1/\(zaf x_2=(↑(Prod.fst x'):Int)/\zai x_2 x_1=Prod.snd x'/\True)/\zai x_2 x_1=Prod.snd x'/\zj))))))))))/\(((nth aJ (zp x_1) x_2.1).2.1 == (1:Int))=false->(True)/\(((decide ((zaj x_1 x_2).1 < (0:Int)))=true->(((!(nth aJ (zp x_1) x_2.1).2.2.2.2.1)=true->(([],(6:Int))=ze))/\((!(nth aJ (zp x_1) x_2.1).2.2.2.2.1)=false->(zat x_1 x_2))))/\((decide ((zaj x_1 x_2).1 < (0:Int)))=false->(zat x_1 x_2))))))/\((decide (zo x_2 < (↑(zq x_1):Int)))=false->((zae x_1)->((zi)->(zag x_1)/\(∃(x':zk),(Prod.fst x'<=zb/\gg l b (List.drop (Prod.fst x') l) (Prod.fst x') (Prod.snd x')=zl/\List.length (Prod.snd x')<=(10:Nat) * Prod.fst x')/\zb - Prod.fst x' < zb - x_1.1/\(zaf x_1=(↑(Prod.fst x'):Int)/\x_2.2=Prod.snd x'/\True)/\x_2.2=Prod.snd x'/\zj)))))))))/\((decide (zo x_1 < zd))=false->((x_1.2,(0:Int))=ze)))))))))))))))) (by kernel_rfl) ?_
 dsimp -iota -proj -eta only
 dsimp only at hp
 refine fun h0 h1=>iN (fun h2=>(by rw [BV (by omega)];rfl)) (fun h2=>⟨(⟨0,⟨by omega,fun j hj=>by omega⟩,⟨rfl,trivial⟩,trivial⟩),fun x_0 q_0 h3=>iL (fun h4=>⟨?a,iL (fun h5 => ?b) (fun h5=>⟨?c,iL (fun h6 => ?d) (fun h6 h7 h8=>⟨?e,(⟨x_0 + 1,⟨by omega,ja q_0.2 (by dsimp only [D] at *;omega)⟩,by omega,⟨by omega,trivial⟩,(by trivial)⟩)⟩)⟩)⟩) (fun h4=>⟨(⟨(0,[]),⟨by omega,rfl,by simp⟩,(by trivial),(by trivial)⟩),fun x_1 q_1 h5=>iL (fun h6=>⟨(by exact ⟨(0,x_1.2),⟨by omega,by rw [<-yD (by omega)];exact q_1.2.1,by simp only;omega⟩,(by trivial),(by trivial)⟩),fun x_2 q_2=>⟨?f,fun h7=>iL (fun h8=>⟨?g,?h,iQ (fun h9=>⟨?i,fun h10 h11=>⟨?j,iQ (fun h12=>⟨?k,fun h13 h14=>⟨?l,fun h15 h16=>⟨?m,iL (fun h17 => ?n) (fun h17=>iL (fun h18 => ?o) (fun h18=>⟨trivial,⟨fun h19 => ?p,fun h19=>⟨?q,fun h20 h21=>⟨?r,?s⟩⟩⟩⟩))⟩⟩⟩) (fun h12=>⟨trivial,⟨fun h13 => ?t,fun h13=>⟨?u,fun h14 h15=>⟨?v,?w⟩⟩⟩⟩)⟩⟩) (fun h9=>⟨trivial,iL (fun h10=>⟨fun h11 => ?x,fun h11=>iE (fun h12=>⟨?y,fun h13 h14=>⟨?z,?a0,?a1,fun h15 h16=>⟨?a2,iQ (fun h17=>⟨?a3,fun h18 h19=>⟨?a4,fun h20 h21=>⟨?a5,iL (fun h22 => ?a6) (fun h22=>iL (fun h23 => ?a7) (fun h23=>⟨trivial,⟨fun h24 => ?a8,fun h24=>⟨?a9,fun h25 h26=>⟨?aa,?ab⟩⟩⟩⟩))⟩⟩⟩) (fun h17=>⟨trivial,⟨fun h18 => ?ac,fun h18=>⟨?ad,fun h19 h20=>⟨?ae,?af⟩⟩⟩⟩)⟩⟩⟩) (fun h12=>iQ (fun h13=>⟨?ag,fun h14 h15=>⟨?ah,fun h16 h17=>⟨?ai,iL (fun h18 => ?aj) (fun h18=>iL (fun h19 => ?ak) (fun h19=>⟨trivial,⟨fun h20 => ?al,fun h20=>⟨?am,fun h21 h22=>⟨?an,?ao⟩⟩⟩⟩))⟩⟩⟩) (fun h13=>⟨trivial,⟨fun h14 => ?ap,fun h14=>⟨?aq,fun h15 h16=>⟨?ar,?au⟩⟩⟩⟩))⟩) (fun h10=>iE (fun h11=>⟨?av,fun h12 h13=>⟨?aw,?ax,?ay,fun h14 h15=>⟨?az,iQ (fun h16=>⟨?b0,fun h17 h18=>⟨?b1,fun h19 h20=>⟨?b2,iL (fun h21 => ?b3) (fun h21=>iL (fun h22 => ?b4) (fun h22=>⟨trivial,⟨fun h23 => ?b5,fun h23=>⟨?b6,fun h24 h25=>⟨?b7,?b8⟩⟩⟩⟩))⟩⟩⟩) (fun h16=>⟨trivial,⟨fun h17 => ?b9,fun h17=>⟨?ba,fun h18 h19=>⟨?bb,?bc⟩⟩⟩⟩)⟩⟩⟩) (fun h11=>iQ (fun h12=>⟨?bd,fun h13 h14=>⟨?be,fun h15 h16=>⟨?bf,iL (fun h17 => ?bg) (fun h17=>iL (fun h18 => ?bh) (fun h18=>⟨trivial,⟨fun h19 => ?bi,fun h19=>⟨?bj,fun h20 h21=>⟨?bk,?bl⟩⟩⟩⟩))⟩⟩⟩) (fun h12=>⟨trivial,⟨fun h13 => ?bm,fun h13=>⟨?bn,fun h14 h15=>⟨?bo,?bp⟩⟩⟩⟩)))⟩)⟩) (fun h8 h9 h10=>⟨?bq,?br⟩)⟩⟩) (fun h6 => ?bs)⟩)⟩)
 case a|c|f|g|h|i|k|b0|bd|be|bf|bg|bh=>omega
 case b|d=>rw [yE (i:=x_0) (by omega) (by omega) (by dsimp only [D] at *;omega)];rfl
 case e|bq=>simp only [aC,aG] at *;omega
 case j|l|m=>
  have hlen:b.length=l.length:=(by omega);have hib:fD b:=fun j hj=>q_0.2 j (by omega)
  have hm:=hp.2 x_1.1 (by omega);have htk:=hm.2.2 x_2.1 (by omega);have hb:=fZ (i:=(x_1.1:Int)) hib hlen (by omega) (by omega);unfold Small Word at htk;rw [Int.toNat_natCast] at hb
  dsimp only [D] at *;simp only [aC];omega
 case n|o=>dsimp only [D] at *;omega
 case p|bi|bj|bk|bl=>
  simp only [bl,reduceCtorEq] at h19
  omega
 case q|r|s=>
  simp only [bl,reduceCtorEq] at h19
  dsimp only [D] at *;omega
 case t=>
  simp only [bl,reduceCtorEq] at h13
  have hlen:b.length=l.length:=(by omega);have hib:fD b:=fun j hj=>q_0.2 j (by omega)
  have ho:=nJ (l:=l) (b:=b) (i:=(x_1.1:Int)) (t:=(nth aJ (nth aA l x_1.1).2.2.2.1 x_2.1)) (by assumption)
  rw [nK (by first | assumption | (simp_all;done)) (by simp only [Int.toNat_natCast];dsimp only [D] at *;omega)] at ho
  have e:cH (l,b)=([],(dk l b x_1.1 (nth aJ (nth aA l x_1.1).2.2.2.1 x_2.1)).2):=(by rw [iO hlen hib,<-q_2.2.1,lT (by omega) (by rw [ho];rfl)])
  rw [e,ho];rfl
 case u=>
  simp only [bl,reduceCtorEq] at h13
  have hm:=hp.2 x_1.1 (by omega);have:=hm.1;have:=hp.1;exact ⟨rfl,by simp only [List.length_singleton,aG];omega⟩
 case v=>
  simp only [bl,reduceCtorEq] at h13
  simp only [aC,aG] at *;omega
 case w=>
  simp only [bl,reduceCtorEq] at h13
  have hlen:b.length=l.length:=(by omega);have hib:fD b:=fun j hj=>q_0.2 j (by omega)
  have ho:=nJ (l:=l) (b:=b) (i:=(x_1.1:Int)) (t:=(nth aJ (nth aA l x_1.1).2.2.2.1 x_2.1)) (by assumption)
  rw [ni (by first | assumption | (simp_all;done)) rfl (by simp only [Int.toNat_natCast];dsimp only [D] at *;omega)] at ho
  exact ⟨(x_2.1 + 1,x_2.2++[((x_1.1:Int),(nth aJ (nth aA l x_1.1).2.2.2.1 x_2.1).1,(dk l b x_1.1 (nth aJ (nth aA l x_1.1).2.2.2.1 x_2.1)).1,())]),⟨by omega,by rw [<-q_2.2.1,pU (k:=x_2.1) (by omega) (by rw [ho];rfl)],by simp only [List.length_append,List.length_singleton];omega⟩,by simp only;omega,⟨by simp only;omega,iR (by rw [ho];simp only [Int.toNat_natCast];dsimp only [D] at *;omega),trivial⟩,iR (by rw [ho];simp only [Int.toNat_natCast];dsimp only [D] at *;omega),(by trivial)⟩
 case x=>
  simp only [bl,reduceCtorEq] at h11
  have hlen:b.length=l.length:=(by omega);have hib:fD b:=fun j hj=>q_0.2 j (by omega)
  have ht:=nI (l:=l) (b:=b) (t:=(nth aJ (nth aA l x_1.1).2.2.2.1 x_2.1)) (by assumption) (by assumption);have ho:=Fe (l:=l) (b:=b) (i:=(x_1.1:Int)) (t:=(nth aJ (nth aA l x_1.1).2.2.2.1 x_2.1)) (by assumption) (by rw [ht];rfl);rw [ht] at ho
  have e:cH (l,b)=([],(dk l b x_1.1 (nth aJ (nth aA l x_1.1).2.2.2.1 x_2.1)).2):=(by rw [iO hlen hib,<-q_2.2.1,lT (by omega) (by rw [ho];rfl)])
  rw [e,ho];rfl
 case y|z|a0|a1|a2|a3|a4|a5|a6|a7|ag=>
  simp only [bl,reduceCtorEq] at h11
  omega
 case a8|a9|aa|ab=>
  simp only [bl,reduceCtorEq] at h11 h24
  omega
 case ac|ad|ae|af=>
  simp only [bl,reduceCtorEq] at h11 h18
  omega
 case ah|ai=>
  simp only [bl,reduceCtorEq] at h11
  have hlen:b.length=l.length:=(by omega);have hib:fD b:=fun j hj=>q_0.2 j (by omega)
  have hm:=hp.2 x_1.1 (by omega);have htk:=hm.2.2 x_2.1 (by omega);have hb:=fZ (i:=(x_1.1:Int)) hib hlen (by omega) (by omega);unfold Small Word at htk;rw [Int.toNat_natCast] at hb
  dsimp only [D] at *;simp only [aC];omega
 case aj|ak=>
  simp only [bl,reduceCtorEq] at h11
  have hlen:b.length=l.length:=(by omega);have hib:fD b:=fun j hj=>q_0.2 j (by omega)
  have ht:=iP (l:=l) (b:=b) (t:=(nth aJ (nth aA l x_1.1).2.2.2.1 x_2.1)) (by assumption) (by assumption);have ho:=gu (l:=l) (b:=b) (i:=(x_1.1:Int)) (t:=(nth aJ (nth aA l x_1.1).2.2.2.1 x_2.1)) (by assumption) (by rw [ht];rfl);rw [ht] at ho
  rw [vp (by assumption) (by simp only [Int.toNat_natCast];dsimp only [D] at *;omega)] at ho
  have e:cH (l,b)=([],(dk l b x_1.1 (nth aJ (nth aA l x_1.1).2.2.2.1 x_2.1)).2):=(by rw [iO hlen hib,<-q_2.2.1,lT (by omega) (by rw [ho];rfl)])
  rw [e,ho];rfl
 case al=>
  simp only [bl,reduceCtorEq] at h11 h20
  omega
 case am=>
  simp only [bl,reduceCtorEq] at h11 h20
  have hm:=hp.2 x_1.1 (by omega);have:=hm.1;have:=hp.1;exact ⟨rfl,by simp only [List.length_singleton,aG];omega⟩
 case an=>
  simp only [bl,reduceCtorEq] at h11 h20
  simp only [aC,aG] at *;omega
 case ao=>
  simp only [bl,reduceCtorEq] at h11 h20
  have hlen:b.length=l.length:=(by omega);have hib:fD b:=fun j hj=>q_0.2 j (by omega)
  have ht:=iP (l:=l) (b:=b) (t:=(nth aJ (nth aA l x_1.1).2.2.2.1 x_2.1)) (by assumption) (by assumption);have ho:=gu (l:=l) (b:=b) (i:=(x_1.1:Int)) (t:=(nth aJ (nth aA l x_1.1).2.2.2.1 x_2.1)) (by assumption) (by rw [ht];rfl);rw [ht] at ho
  rw [xN (by assumption) rfl (by simp only [Int.toNat_natCast];dsimp only [D] at *;omega)] at ho
  exact ⟨(x_2.1 + 1,x_2.2++[((x_1.1:Int),(nth aJ (nth aA l x_1.1).2.2.2.1 x_2.1).1,(dk l b x_1.1 (nth aJ (nth aA l x_1.1).2.2.2.1 x_2.1)).1,())]),⟨by omega,by rw [<-q_2.2.1,pU (k:=x_2.1) (by omega) (by rw [ho];rfl)],by simp only [List.length_append,List.length_singleton];omega⟩,by simp only;omega,⟨by simp only;omega,iR (by rw [ho];simp only [Int.toNat_natCast];dsimp only [D] at *;omega),trivial⟩,iR (by rw [ho];simp only [Int.toNat_natCast];dsimp only [D] at *;omega),(by trivial)⟩
 case ap=>
  simp only [bl,reduceCtorEq] at h11 h14
  have hlen:b.length=l.length:=(by omega);have hib:fD b:=fun j hj=>q_0.2 j (by omega)
  have ht:=iP (l:=l) (b:=b) (t:=(nth aJ (nth aA l x_1.1).2.2.2.1 x_2.1)) (by assumption) (by assumption);have ho:=gu (l:=l) (b:=b) (i:=(x_1.1:Int)) (t:=(nth aJ (nth aA l x_1.1).2.2.2.1 x_2.1)) (by assumption) (by rw [ht];rfl);rw [ht] at ho
  rw [nK (by first | assumption | (simp_all;done)) (by simp only [Int.toNat_natCast];dsimp only [D] at *;omega)] at ho
  have e:cH (l,b)=([],(dk l b x_1.1 (nth aJ (nth aA l x_1.1).2.2.2.1 x_2.1)).2):=(by rw [iO hlen hib,<-q_2.2.1,lT (by omega) (by rw [ho];rfl)])
  rw [e,ho];rfl
 case aq=>
  simp only [bl,reduceCtorEq] at h11 h14
  have hm:=hp.2 x_1.1 (by omega);have:=hm.1;have:=hp.1;exact ⟨rfl,by simp only [List.length_singleton,aG];omega⟩
 case ar=>
  simp only [bl,reduceCtorEq] at h11 h14
  simp only [aC,aG] at *;omega
 case au=>
  simp only [bl,reduceCtorEq] at h11 h14
  have hlen:b.length=l.length:=(by omega);have hib:fD b:=fun j hj=>q_0.2 j (by omega)
  have ht:=iP (l:=l) (b:=b) (t:=(nth aJ (nth aA l x_1.1).2.2.2.1 x_2.1)) (by assumption) (by assumption);have ho:=gu (l:=l) (b:=b) (i:=(x_1.1:Int)) (t:=(nth aJ (nth aA l x_1.1).2.2.2.1 x_2.1)) (by assumption) (by rw [ht];rfl);rw [ht] at ho
  rw [ni (by first | assumption | (simp_all;done)) rfl (by simp only [Int.toNat_natCast];dsimp only [D] at *;omega)] at ho
  exact ⟨(x_2.1 + 1,x_2.2++[((x_1.1:Int),(nth aJ (nth aA l x_1.1).2.2.2.1 x_2.1).1,(dk l b x_1.1 (nth aJ (nth aA l x_1.1).2.2.2.1 x_2.1)).1,())]),⟨by omega,by rw [<-q_2.2.1,pU (k:=x_2.1) (by omega) (by rw [ho];rfl)],by simp only [List.length_append,List.length_singleton];omega⟩,by simp only;omega,⟨by simp only;omega,iR (by rw [ho];simp only [Int.toNat_natCast];dsimp only [D] at *;omega),trivial⟩,iR (by rw [ho];simp only [Int.toNat_natCast];dsimp only [D] at *;omega),(by trivial)⟩
 case av|ax|ay=>
  have hlen:b.length=l.length:=(by omega);have hib:fD b:=fun j hj=>q_0.2 j (by omega)
  have hf:=nh (l:=l) (s:=(nth aJ (nth aA l x_1.1).2.2.2.1 x_2.1).2.2.2.1) (by omega);have hbf:=fZ (i:=(cB (l,(nth aJ (nth aA l x_1.1).2.2.2.1 x_2.1).2.2.2.1)).1) hib hlen (by omega) (by omega);have hsf:=wQ (l:=l) (s:=(nth aJ (nth aA l x_1.1).2.2.2.1 x_2.1).2.2.2.1) hp (by omega);unfold Small at hsf;dsimp only [D] at *
  omega
 case aw|az|b1|b2=>
  have hlen:b.length=l.length:=(by omega);have hib:fD b:=fun j hj=>q_0.2 j (by omega)
  have hm:=hp.2 x_1.1 (by omega);have htk:=hm.2.2 x_2.1 (by omega);have hb:=fZ (i:=(x_1.1:Int)) hib hlen (by omega) (by omega);unfold Small Word at htk;rw [Int.toNat_natCast] at hb
  have hf:=nh (l:=l) (s:=(nth aJ (nth aA l x_1.1).2.2.2.1 x_2.1).2.2.2.1) (by omega);have hbf:=fZ (i:=(cB (l,(nth aJ (nth aA l x_1.1).2.2.2.1 x_2.1).2.2.2.1)).1) hib hlen (by omega) (by omega);have hsf:=wQ (l:=l) (s:=(nth aJ (nth aA l x_1.1).2.2.2.1 x_2.1).2.2.2.1) hp (by omega);unfold Small at hsf;dsimp only [D] at *
  simp only [aC];omega
 case b3|b4=>
  have hlen:b.length=l.length:=(by omega);have hib:fD b:=fun j hj=>q_0.2 j (by omega)
  have ht:=jG (l:=l) (b:=b) (t:=(nth aJ (nth aA l x_1.1).2.2.2.1 x_2.1)) (by assumption);have ho:=gu (l:=l) (b:=b) (i:=(x_1.1:Int)) (t:=(nth aJ (nth aA l x_1.1).2.2.2.1 x_2.1)) (by assumption) (by rw [ht];rfl);rw [ht] at ho
  rw [vp (by assumption) (by simp only [Int.toNat_natCast];dsimp only [D] at *;omega)] at ho
  have e:cH (l,b)=([],(dk l b x_1.1 (nth aJ (nth aA l x_1.1).2.2.2.1 x_2.1)).2):=(by rw [iO hlen hib,<-q_2.2.1,lT (by omega) (by rw [ho];rfl)])
  rw [e,ho];rfl
 case b5=>
  simp only [bl,reduceCtorEq] at h23
  omega
 case b6=>
  simp only [bl,reduceCtorEq] at h23
  have hm:=hp.2 x_1.1 (by omega);have:=hm.1;have:=hp.1;exact ⟨rfl,by simp only [List.length_singleton,aG];omega⟩
 case b7=>
  simp only [bl,reduceCtorEq] at h23
  simp only [aC,aG] at *;omega
 case b8=>
  simp only [bl,reduceCtorEq] at h23
  have hlen:b.length=l.length:=(by omega);have hib:fD b:=fun j hj=>q_0.2 j (by omega)
  have ht:=jG (l:=l) (b:=b) (t:=(nth aJ (nth aA l x_1.1).2.2.2.1 x_2.1)) (by assumption);have ho:=gu (l:=l) (b:=b) (i:=(x_1.1:Int)) (t:=(nth aJ (nth aA l x_1.1).2.2.2.1 x_2.1)) (by assumption) (by rw [ht];rfl);rw [ht] at ho
  rw [xN (by assumption) rfl (by simp only [Int.toNat_natCast];dsimp only [D] at *;omega)] at ho
  exact ⟨(x_2.1 + 1,x_2.2++[((x_1.1:Int),(nth aJ (nth aA l x_1.1).2.2.2.1 x_2.1).1,(dk l b x_1.1 (nth aJ (nth aA l x_1.1).2.2.2.1 x_2.1)).1,())]),⟨by omega,by rw [<-q_2.2.1,pU (k:=x_2.1) (by omega) (by rw [ho];rfl)],by simp only [List.length_append,List.length_singleton];omega⟩,by simp only;omega,⟨by simp only;omega,iR (by rw [ho];simp only [Int.toNat_natCast];dsimp only [D] at *;omega),trivial⟩,iR (by rw [ho];simp only [Int.toNat_natCast];dsimp only [D] at *;omega),(by trivial)⟩
 case b9=>
  simp only [bl,reduceCtorEq] at h17
  have hlen:b.length=l.length:=(by omega);have hib:fD b:=fun j hj=>q_0.2 j (by omega)
  have ht:=jG (l:=l) (b:=b) (t:=(nth aJ (nth aA l x_1.1).2.2.2.1 x_2.1)) (by assumption);have ho:=gu (l:=l) (b:=b) (i:=(x_1.1:Int)) (t:=(nth aJ (nth aA l x_1.1).2.2.2.1 x_2.1)) (by assumption) (by rw [ht];rfl);rw [ht] at ho
  rw [nK (by first | assumption | (simp_all;done)) (by simp only [Int.toNat_natCast];dsimp only [D] at *;omega)] at ho
  have e:cH (l,b)=([],(dk l b x_1.1 (nth aJ (nth aA l x_1.1).2.2.2.1 x_2.1)).2):=(by rw [iO hlen hib,<-q_2.2.1,lT (by omega) (by rw [ho];rfl)])
  rw [e,ho];rfl
 case ba=>
  simp only [bl,reduceCtorEq] at h17
  have hm:=hp.2 x_1.1 (by omega);have:=hm.1;have:=hp.1;exact ⟨rfl,by simp only [List.length_singleton,aG];omega⟩
 case bb=>
  simp only [bl,reduceCtorEq] at h17
  simp only [aC,aG] at *;omega
 case bc=>
  simp only [bl,reduceCtorEq] at h17
  have hlen:b.length=l.length:=(by omega);have hib:fD b:=fun j hj=>q_0.2 j (by omega)
  have ht:=jG (l:=l) (b:=b) (t:=(nth aJ (nth aA l x_1.1).2.2.2.1 x_2.1)) (by assumption);have ho:=gu (l:=l) (b:=b) (i:=(x_1.1:Int)) (t:=(nth aJ (nth aA l x_1.1).2.2.2.1 x_2.1)) (by assumption) (by rw [ht];rfl);rw [ht] at ho
  rw [ni (by first | assumption | (simp_all;done)) rfl (by simp only [Int.toNat_natCast];dsimp only [D] at *;omega)] at ho
  exact ⟨(x_2.1 + 1,x_2.2++[((x_1.1:Int),(nth aJ (nth aA l x_1.1).2.2.2.1 x_2.1).1,(dk l b x_1.1 (nth aJ (nth aA l x_1.1).2.2.2.1 x_2.1)).1,())]),⟨by omega,by rw [<-q_2.2.1,pU (k:=x_2.1) (by omega) (by rw [ho];rfl)],by simp only [List.length_append,List.length_singleton];omega⟩,by simp only;omega,⟨by simp only;omega,iR (by rw [ho];simp only [Int.toNat_natCast];dsimp only [D] at *;omega),trivial⟩,iR (by rw [ho];simp only [Int.toNat_natCast];dsimp only [D] at *;omega),(by trivial)⟩
 case bm|bn|bo|bp=>
  simp only [bl,reduceCtorEq] at h13
  omega
 case br=>
  have hm:=hp.2 x_1.1 (by omega)
  exact ⟨(x_1.1 + 1,x_2.2),⟨by omega,by rw [<-q_2.2.1,Fc (by omega)],by have:=hm.1;simp only;omega⟩,by simp only;omega,⟨by simp only;omega,rfl,trivial⟩,(by trivial)⟩
 case bs=>
  have hlen:b.length=l.length:=(by omega);have hib:fD b:=fun j hj=>q_0.2 j (by omega)
  rw [iO hlen hib,<-q_1.2.1,Fb (by omega)];rfl
theorem Tryz.Ey:bG Tryz.prog Tryz.B.eT Tryz.X 74 [.slice aA, .slice (.int .i64)] [.slice aN, .int .i64] (fun x=>eC x.1) (fun x y=>y=(fun x=>((cH x).1,eJ (cH x).2)) x):=
 bI (X:=Tryz.X) Tryz.Ev Tryz.func74 (by kernel_rfl) (fun x=>z7 x.1 x.2) (fun x hw hp=>Ew x.1 x.2 hw hp)
def Db (a:List (D aN)) (b:List (D aN)):cy:=[(0,fun st=>{X:=Nat,inv:=fun i=>i<=a.length/\∀j,j < i->nth aN a j=nth aN b j,aW:=fun i=>a.length - i,aQ:=fun i=>[(5,sI i)],aU:=[0,1]})]
theorem x4 (a:List (D aN)) (b:List (D aN)) (hw:c8 [.slice aN, .slice aN] (a,b)):(cp Tryz.B [] Tryz.f35 (Db a b) [.slice aN, .slice aN] [.bool] (fun x y=>y=(fun x=>jc x.1 x.2) x) (a,b)).holds:=by
 refine holds_of (p:=
  let za:=List.length a
  let zb:=(↑(List.length b):Int)
  let zc:=false=jc a b
  ((za<=aG)->((List.length b<=aG)->((((↑za:Int) != zb)=true->(zc))/\(((↑za:Int) != zb)=false->(∃(x:Nat),(x<=za/\∀(j:Nat),j < x->nth aN a j=nth aN b j)/\((0:Int)=(↑x:Int)/\True)/\True)/\(∀x_0:Nat,((x_0<=za/\∀(j:Nat),j < x_0->nth aN a j=nth aN b j)->((za<=aG)->(((decide ((↑x_0:Int) < (↑za:Int)))=true->((0:Int)<=(↑x_0:Int)/\(↑x_0:Int) < (↑za:Int))/\((0:Int)<=(↑x_0:Int)/\(↑x_0:Int) < zb)/\(((!(decide ((nth aN a x_0).1=(nth aN b x_0).1) && (decide ((nth aN a x_0).2.1=(nth aN b x_0).2.1) && (decide ((nth aN a x_0).2.2.1=(nth aN b x_0).2.2.1) && true))))=true->(zc))/\((!(decide ((nth aN a x_0).1=(nth aN b x_0).1) && (decide ((nth aN a x_0).2.1=(nth aN b x_0).2.1) && (decide ((nth aN a x_0).2.2.1=(nth aN b x_0).2.2.1) && true))))=false->((aC (↑x_0:Int))->((aC (1:Int))->(aC ((↑x_0:Int) + (1:Int)))/\(∃(x':Nat),(x'<=za/\∀(j:Nat),j < x'->nth aN a j=nth aN b j)/\za - x' < za - x_0/\((↑x_0:Int) + (1:Int)=(↑x':Int)/\True)/\True))))))/\((decide ((↑x_0:Int) < (↑za:Int)))=false->(true=jc a b))))))))))) (by kernel_rfl) ?_
 dsimp -iota -proj -eta only
 refine fun h0 h1=>iN (fun h2=>(Iv (by assumption))) (fun h2=>⟨(⟨0,⟨by omega,fun j hj=>by omega⟩,⟨rfl,trivial⟩,trivial⟩),fun x_0 q_0 h3=>iL (fun h4=>⟨?a,?b,⟨fun h5 => ?c,fun h5 h6 h7=>⟨?d,?e⟩⟩⟩) (fun h4=>(Gz (by assumption) (fun i hi=>q_0.2 i (by omega))))⟩)
 case a|b=>omega
 case c=>
  simp only [bl,reduceCtorEq] at h5
  exact KG (i:=x_0) (fun e=>by rw [e] at h5;simp at h5)
 case d=>
  simp only [bl,reduceCtorEq] at h5
  simp only [aC,aG] at *;omega
 case e=>
  simp only [bl,reduceCtorEq] at h5
  have h:=h5;simp at h;exact ⟨x_0 + 1,⟨by omega,oC q_0.2 (Prod.ext h.1 (Prod.ext h.2.1 (Prod.ext h.2.2 rfl)))⟩,by omega,⟨by omega,trivial⟩,(by trivial)⟩
theorem Tryz.x5:bG Tryz.prog Tryz.B.eT Tryz.X 35 [.slice aN, .slice aN] [.bool] (fun _=>True) (fun x y=>y=(fun x=>jc x.1 x.2) x):=
 bI (X:=Tryz.X) (bY Tryz.bZ) Tryz.func35 (by kernel_rfl) (fun x=>Db x.1 x.2) (fun x hw hp=>x4 x.1 x.2 hw)
end Go.Proofs.YtgokjhhcfemnhaaGreatDoor

namespace Go.Proofs.YtgokjhhcfemnhaaGreatDoor
open Go.Vg Go.Mrl
def Jv (w:List (List Int)) (l:List (D aN)):cy:=[
 (200000,fun st=>{X:=Nat,inv:=fun i=>i<=w.length,aW:=fun i=>w.length - i,aQ:=fun i=>[(13,sI i)],aO:=[.ext 0 iF],refs:=[(6,0)],pd:=fun i=>(w.take i,()),aU:=[1,4,5,11,12]}),
 (2,fun st=>{X:=Nat,inv:=fun k=>k<=l.length/\∀j,j < k->oD w (nth aN l j),aW:=fun k=>l.length - k,aQ:=fun k=>[(25,sI k)],aF:=fun k=>[(aR st 6, .ext 0 iF (et w (l.take k)))],aU:=[6,23,24],dq:=[aR st 6]})]
theorem NS (w:List (List Int)) (l:List (D aN)) (hw:c8 [iF, .slice aN] (w,l)) (hp:(fun x=>x.1.length<=100000/\∀i,i < x.1.length->(nth dL x.1 i).length<=100000000) (w,l)):(cp (ir Tryz.B [6]) [] Tryz.f105 (Jv w l) [iF, .slice aN] [iF, .err] (fun x y=>y=(fun x=>eU x) x) (w,l)).holds:=by
 refine holds_of (p:=
  let za:=List.length w
  let zb:=@List.nil (List Int) = @List.nil (List Int)/\True
  let zc:=(!false && true)=true
  let zd:=fun (x_0:Nat)=>[nth (Ty.slice (Ty.int IntKind.i64)) w x_0]
  let ze:=fun (x_0:Nat)=>(↑x_0:Int) + (1:Int)
  let zf:=List.length l
  let zg:=fun (x_1:Nat)=>(nth aN l x_1).1
  let zh:=([],bB.no (1:Int))=eU (w,l)
  let zi:=fun (x_1:Nat)=>et w (List.take x_1 l)
  let zj:=fun (x_1:Nat)=>(nth aN l x_1).2.1
  let zk:=fun (x_1:Nat)=>(0:Int)<=zg x_1/\zg x_1 < (↑(List.length (zi x_1)):Int)
  let zl:=fun (x_1:Nat)=>Int.toNat (zg x_1) < List.length (zi x_1)
  let zm:=fun (x_1:Nat)=>nth dL (zi x_1) (Int.toNat (zg x_1))
  ((za<=aG)->(((∃(x':Nat),x'<=za/\True/\((0:Int)=(↑x':Int)/\True)/\zb/\zc/\([],())=(List.take x' w,())))/\((∀x_0:Nat,((x_0<=za)->(((decide ((↑x_0:Int) < (↑za:Int)))=true->((0:Int)<=(↑x_0:Int)/\(↑x_0:Int) < (↑za:Int))/\(List.length (nth (Ty.slice (Ty.int IntKind.i64)) w x_0)<=(1000000000:Nat))/\((0:Nat) < List.length (zd x_0)/\List.length (List.take x_0 w) + List.length (zd x_0)<=(1000000000:Nat))/\((aC (↑x_0:Int))->((aC (1:Int))->(aC (ze x_0))/\(∃(x':Nat),x'<=za/\za - x' < za - x_0/\(ze x_0=(↑x':Int)/\True)/\zb/\zc/\(List.take x_0 w++zd x_0,())=(List.take x' w,())))))/\((decide ((↑x_0:Int) < (↑za:Int)))=false->((zf<=aG)->(∃(x:Nat),(x<=zf/\∀(j:Nat),j < x->oD w (nth aN l j))/\((0:Int)=(↑x:Int)/\True)/\List.take x_0 w=et w (List.take x l)/\True)/\(∀x_1:Nat,((x_1<=zf/\∀(j:Nat),j < x_1->oD w (nth aN l j))->(((decide ((↑x_1:Int) < (↑zf:Int)))=true->((0:Int)<=(↑x_1:Int)/\(↑x_1:Int) < (↑zf:Int))/\(((decide (zg x_1 < (0:Int)))=true->(zh))/\((decide (zg x_1 < (0:Int)))=false->((List.length (zi x_1)<=aG)->(((decide (zg x_1>=(↑(List.length (zi x_1)):Int)))=true->(zh))/\((decide (zg x_1>=(↑(List.length (zi x_1)):Int)))=false->(((decide (zj x_1 < (0:Int)))=true->(zh))/\((decide (zj x_1 < (0:Int)))=false->(zk x_1)/\(zl x_1)/\(zl x_1)/\((List.length (zm x_1)<=aG)->(((decide (zj x_1>=(↑(List.length (zm x_1)):Int)))=true->(zh))/\((decide (zj x_1>=(↑(List.length (zm x_1)):Int)))=false->(zk x_1)/\(zl x_1)/\(zl x_1/\(0:Int)<=zj x_1/\zj x_1 < (↑(List.length (zm x_1)):Int))/\(zl x_1/\Int.toNat (zj x_1) < List.length (zm x_1))/\((aC (↑x_1:Int))->((aC (1:Int))->(aC (ze x_1))/\(∃(x':Nat),(x'<=zf/\∀(j:Nat),j < x'->oD w (nth aN l j))/\zf - x' < zf - x_1/\(ze x_1=(↑x':Int)/\True)/\List.set (zi x_1) (Int.toNat (zg x_1)) (List.set (zm x_1) (Int.toNat (zj x_1)) (nth aN l x_1).2.2.1)=et w (List.take x' l)/\zb))))))))))))))/\((decide ((↑x_1:Int) < (↑zf:Int)))=false->((zi x_1,bB.nil)=eU (w,l))))))))))))))) (by kernel_rfl) ?_
 dsimp -iota -proj -eta only
 dsimp only at hp
 refine fun h0=>⟨(⟨0,by omega,trivial,⟨rfl,trivial⟩,⟨rfl,trivial⟩,rfl,rfl⟩),fun x_0 q_0=>iL (fun h1=>⟨?a,(by have:=hp.2 x_0 (by omega);show List.length (nth dL w x_0)<=1000000000;omega),(by have:=hp.1;simp only [List.length_singleton,List.length_take,aG];omega),fun h2 h3=>⟨?b,(⟨x_0 + 1,by omega,by omega,⟨by omega,trivial⟩,⟨rfl,trivial⟩,rfl,by rw [hY (t:=dL) (by omega)]⟩)⟩⟩) (fun h1 h2=>⟨(by exact ⟨0,⟨by omega,fun j hj=>by omega⟩,⟨rfl,trivial⟩,by rw [List.take_of_length_le (by omega)];rfl,trivial⟩),fun x_1 q_1=>iL (fun h3=>⟨?c,iL (fun h4 => ?d) (fun h4 h5=>iE (fun h6 => ?e) (fun h6=>iL (fun h7 => ?f) (fun h7=>⟨?g,?h,?i,fun h8=>iE (fun h9 => ?j) (fun h9=>⟨?k,?l,?m,?n,fun h10 h11=>⟨?o,?p⟩⟩)⟩)))⟩) (fun h3=>(by rw [pT fun i hi=>q_1.2 i (by omega),List.take_of_length_le (by omega)]))⟩)⟩
 case a|c=>omega
 case b|o=>simp only [aC,aG] at *;omega
 case d|e|f|j=>
  have hr:=oE (l.take x_1) w (nth aN l x_1).1.toNat;have hll:=mf (l.take x_1) w
  exact (KB (i:=x_1) (by omega) (by unfold oD;dsimp only [D] at *;omega)).symm
 case g|h|i|k|l|m|n=>
  have hr:=oE (l.take x_1) w (nth aN l x_1).1.toNat;have hll:=mf (l.take x_1) w
  first | omega | (dsimp only [D] at *;omega)
 case p=>
  have hr:=oE (l.take x_1) w (nth aN l x_1).1.toNat;have hll:=mf (l.take x_1) w
  exact ⟨x_1 + 1,⟨by omega,ja q_1.2 (by unfold oD;dsimp only [D] at *;omega)⟩,by omega,⟨by omega,trivial⟩,Is (by omega),(by trivial)⟩
theorem Tryz.NT:bG Tryz.prog Tryz.B.eT Tryz.X 105 [iF, .slice aN] [iF, .err] (fun x=>x.1.length<=100000/\∀i,i < x.1.length->(nth dL x.1 i).length<=100000000) (fun x y=>y=(fun x=>eU x) x):=
 bI (B:=(ir Tryz.B [6])) (X:=Tryz.X) (bU.hint (l:=[6]) (bY Tryz.bZ)) Tryz.func105 (by kernel_rfl) (fun x=>Jv x.1 x.2) (fun x hw hp=>NS x.1 x.2 hw hp)
end Go.Proofs.YtgokjhhcfemnhaaGreatDoor

namespace Go.Proofs.YtgokjhhcfemnhaaGreatDoor
open Go.Vg Go.Mrl
def Dc (l:List (D aA)):cy:=[
 (0,fun st=>{X:=Nat,inv:=fun i=>i<=l.length,aW:=fun i=>l.length - i,aQ:=fun i=>[(8,sI i),(3, .s (.one (.app (.int .i64) (bK (l.take i)) (aR st 3))))],aF:=fun i=>[(aR st 3, .tok (.int .i64) (bK (l.take i)))],aU:=[2,6,7],dq:=[aR st 3]})]
theorem Jw (l:List (D aA)) (hw:c8 [.slice aA] l) (hp:(fun l=>l.length<=1000) l):(cp Tryz.B [] Tryz.f77 (Dc l) [.slice aA] [.slice (.int .i64)] (fun x y=>y=(fun l=>bK l) x) l).holds:=by
 refine holds_of (p:=
  let za:=List.length l
  let zb:=fun (x_0:Nat)=>List.length (nth aA l x_0).2.1
  let zc:=fun (x_0:Nat)=>bK (List.take x_0 l)
  let zd:=fun (x_0:Nat)=>zc x_0++[(↑(zb x_0):Int)]
  ((za<=aG)->(∃(x:Nat),x<=za/\((0:Int)=(↑x:Int)/\@List.nil Int=bK (List.take x l)/\True)/\@List.nil Int=bK (List.take x l)/\True)/\(∀x_0:Nat,((x_0<=za)->(((decide ((↑x_0:Int) < (↑za:Int)))=true->((0:Int)<=(↑x_0:Int)/\(↑x_0:Int) < (↑za:Int))/\((zb x_0<=aG)->(zc x_0=zc x_0/\List.length (zc x_0) + List.length [(↑(zb x_0):Int)]<=(1000000000:Nat))/\((aC (↑x_0:Int))->((aC (1:Int))->(aC ((↑x_0:Int) + (1:Int)))/\(∃(x':Nat),x'<=za/\za - x' < za - x_0/\((↑x_0:Int) + (1:Int)=(↑x':Int)/\zd x_0=bK (List.take x' l)/\True)/\zd x_0=bK (List.take x' l)/\@List.nil Int = @List.nil Int/\True)))))/\((decide ((↑x_0:Int) < (↑za:Int)))=false->(zc x_0=bK l))))))) (by kernel_rfl) ?_
 dsimp -iota -proj -eta only
 exact fun h0=>⟨(⟨0,by omega,⟨rfl,rfl,trivial⟩,rfl,trivial⟩),fun x_0 q_0=>iL (fun h1=>⟨(by omega),fun h2=>⟨(by exact ⟨rfl,by rw [xg,List.length_take];simp only [List.length_singleton];omega⟩),fun h3 h4=>⟨(by simp only [aC,aG] at *;omega),(⟨x_0 + 1,by omega,by omega,⟨by omega,(mi (by omega)).symm,trivial⟩,(mi (by omega)).symm,(by trivial)⟩)⟩⟩⟩) (fun h1=>(by rw [List.take_of_length_le (by omega)]))⟩
theorem Tryz.Jx:bG Tryz.prog Tryz.B.eT Tryz.X 77 [.slice aA] [.slice (.int .i64)] (fun l=>l.length<=1000) (fun x y=>y=(fun l=>bK l) x):=
 bI (X:=Tryz.X) (bY Tryz.bZ) Tryz.func77 (by kernel_rfl) (fun x=>Dc x) (fun x hw hp=>Jw x hw hp)
def Dd (l:List (D aA)):cy:=[
 (0,fun st=>{X:=Nat,inv:=fun i=>i<=l.length,aW:=fun i=>l.length - i,aQ:=fun i=>[(8,sI i),(3, .s (.one (.app dL (cf (l.take i)) (aR st 3))))],aF:=fun i=>[(aR st 3, .tok dL (cf (l.take i)))],aU:=[2,6,7],dq:=[aR st 3]})]
theorem Jy (l:List (D aA)) (hw:c8 [.slice aA] l) (hp:(fun l=>l.length<=1000) l):(cp Tryz.B [] Tryz.f106 (Dd l) [.slice aA] [iF] (fun x y=>y=(fun l=>cf l) x) l).holds:=by
 refine holds_of (p:=
  let za:=List.length l
  let zb:=fun (x_0:Nat)=>cf (List.take x_0 l)
  let zc:=fun (x_0:Nat)=>zb x_0++[(nth aA l x_0).2.1]
  ((za<=aG)->(∃(x:Nat),x<=za/\((0:Int)=(↑x:Int)/\@List.nil (List Int)=cf (List.take x l)/\True)/\@List.nil (List Int)=cf (List.take x l)/\True)/\(∀x_0:Nat,((x_0<=za)->(((decide ((↑x_0:Int) < (↑za:Int)))=true->((0:Int)<=(↑x_0:Int)/\(↑x_0:Int) < (↑za:Int))/\(zb x_0=zb x_0/\List.length (zb x_0) + List.length [(nth aA l x_0).2.1]<=(1000000000:Nat))/\((aC (↑x_0:Int))->((aC (1:Int))->(aC ((↑x_0:Int) + (1:Int)))/\(∃(x':Nat),x'<=za/\za - x' < za - x_0/\((↑x_0:Int) + (1:Int)=(↑x':Int)/\zc x_0=cf (List.take x' l)/\True)/\zc x_0=cf (List.take x' l)/\@List.nil (List Int) = @List.nil (List Int)/\True))))/\((decide ((↑x_0:Int) < (↑za:Int)))=false->(zb x_0=cf l))))))) (by kernel_rfl) ?_
 dsimp -iota -proj -eta only
 exact fun h0=>⟨(⟨0,by omega,⟨rfl,rfl,trivial⟩,rfl,trivial⟩),fun x_0 q_0=>iL (fun h1=>⟨(by omega),(by exact ⟨rfl,by rw [jK,List.length_take];simp only [List.length_singleton];omega⟩),fun h2 h3=>⟨(by simp only [aC,aG] at *;omega),(⟨x_0 + 1,by omega,by omega,⟨by omega,(uH (by omega)).symm,trivial⟩,(uH (by omega)).symm,(by trivial)⟩)⟩⟩) (fun h1=>(by rw [List.take_of_length_le (by omega)]))⟩
theorem Tryz.Jz:bG Tryz.prog Tryz.B.eT Tryz.X 106 [.slice aA] [iF] (fun l=>l.length<=1000) (fun x y=>y=(fun l=>cf l) x):=
 bI (X:=Tryz.X) (bY Tryz.bZ) Tryz.func106 (by kernel_rfl) (fun x=>Dd x) (fun x hw hp=>Jy x hw hp)
noncomputable def Tryz.JA:List (FuncId × (Bool × bQ)):=[(106,(true,aM [.slice aA] [iF] (fun l=>l.length<=1000) (fun l=>cf l))),
 (105,(true,aM [iF, .slice aN] [iF, .err] (fun x=>x.1.length<=100000/\∀i,i < x.1.length->(nth dL x.1 i).length<=100000000) (fun x=>eU x)))]
theorem Tryz.LF:bU Tryz.prog Tryz.B Tryz.X Tryz.JA:=
 aS (aE Tryz.Jz) (aS (aE Tryz.NT) (bY Tryz.bZ))
noncomputable def JB (ns:List (List UInt8)) (bs:List Int) (os:List (D aA)) (ps:List (D aN)):cy:=[
 (0,fun st=>{X:=Nat,inv:=fun i=>i<=os.length,aW:=fun i=>os.length - i,aQ:=fun i=>[(39,sI i),(12, .s (.one (.app bE (c7 ns bs (eU (cf os,ps)).1 i) (aR st 12))))],aF:=fun i=>[(aR st 12, .tok bE (c7 ns bs (eU (cf os,ps)).1 i))],aU:=[0,1,8,9,10,38],dq:=[aR st 12]})]
theorem NU (ns:List (List UInt8)) (bs:List Int) (os:List (D aA)) (ps:List (D aN)) (hw:c8 [.slice .str, .slice (.int .i64), .slice aA, .slice aN] (ns,bs,os,ps)) (hp:(fun x=>x.2.2.1.length<=1000/\∀i,i < x.2.2.1.length->(nth aA x.2.2.1 i).2.1.length<=1000) (ns,bs,os,ps)):(cp Tryz.B Tryz.JA Tryz.f72 (JB ns bs os ps) [.slice .str, .slice (.int .i64), .slice aA, .slice aN] [.slice bE, .err] (fun x y=>y=(fun x=>iV x.1 x.2.1 x.2.2.1 x.2.2.2) x) (ns,bs,os,ps)).holds:=by
 refine holds_of (p:=
  let za:=List.length os
  let zb:=za<=aG
  let zc:=(↑(List.length ns):Int)
  let zd:=(↑za:Int)
  let ze:=iV ns bs os ps
  let zf:=([],bB.no (3:Int))=ze
  let zg:=(↑(List.length bs):Int)
  let zh:=cf os
  let zi:=eU (zh,ps)
  let zj:=(eU (zh,ps)).1
  let zk:=fun (x_0:Nat)=>(↑x_0:Int)
  let zl:=fun (x_0:Nat)=>(0:Int)<=zk x_0
  let zm:=fun (x_0:Nat)=>c7 ns bs zj x_0
  let zn:=fun (x_0:Nat)=>[(nth Ty.str ns x_0,nth (Ty.int IntKind.i64) bs x_0,nth (Ty.slice (Ty.int IntKind.i64)) zi.1 x_0,())]
  ((List.length ns<=aG)->((zb)->(((zc != zd)=true->(zf))/\((zc != zd)=false->((List.length bs<=aG)->((zb)->(((zg != zd)=true->(zf))/\((zg != zd)=false->(za<=(1000:Nat))/\(List.length zh<=(100000:Nat)/\∀(i:Nat),i < List.length zh->List.length (nth dL zh i)<=(100000000:Nat))/\(((!bB.isNil zi.2)=true->(([],zi.2)=ze))/\((!bB.isNil zi.2)=false->((zb)->(∃(x:Nat),x<=za/\((0:Int)=(↑x:Int)/\@List.nil (List UInt8 × Int × List Int × Unit)=c7 ns bs zj x/\True)/\@List.nil (List UInt8 × Int × List Int × Unit)=c7 ns bs zj x/\True)/\(∀x_0:Nat,((x_0<=za)->(((decide (zk x_0 < zd))=true->(zl x_0/\zk x_0 < zc)/\(zl x_0/\zk x_0 < zg)/\(zl x_0/\zk x_0 < (↑(List.length zi.1):Int))/\(zm x_0=zm x_0/\List.length (zm x_0) + List.length (zn x_0)<=(1000000000:Nat))/\((aC (zk x_0))->((aC (1:Int))->(aC (zk x_0 + (1:Int)))/\(∃(x':Nat),x'<=za/\za - x' < za - x_0/\(zk x_0 + (1:Int)=(↑x':Int)/\zm x_0++zn x_0=c7 ns bs zj x'/\True)/\zm x_0++zn x_0=c7 ns bs zj x'/\@List.nil (List UInt8 × Int × List Int × Unit) = @List.nil (List UInt8 × Int × List Int × Unit)/\True))))/\((decide (zk x_0 < zd))=false->((zm x_0,bB.nil)=ze))))))))))))))))) (by kernel_rfl) ?_
 dsimp -iota -proj -eta only
 dsimp only at hp
 refine fun h0 h1=>iN (fun h2=>((xh (.inl (by omega))).symm)) (fun h2 h3 h4=>iN (fun h5=>((xh (.inr (by omega))).symm)) (fun h5=>⟨?a,(Mw hp),iB (fun h6=>((K3 (by omega) (by omega) h6).symm)) (fun h6 h7=>⟨(⟨0,by omega,⟨rfl,rfl,trivial⟩,rfl,trivial⟩),fun x_0 q_0=>iL (fun h8=>⟨?b,?c,(by rw [KF (by assumption),jK];omega),(by exact ⟨rfl,by rw [ep];simp only [List.length_singleton];omega⟩),fun h9 h10=>⟨(by simp only [aC,aG] at *;omega),(⟨x_0 + 1,by omega,by omega,⟨by omega,(pk _ _ _ _).symm,trivial⟩,(pk _ _ _ _).symm,(by trivial)⟩)⟩⟩) (fun h8=>(by rw [xU (by omega) (by omega) (by assumption),show x_0=os.length by omega]))⟩)⟩))
 case a|b|c=>omega
theorem Tryz.NV:bG Tryz.prog Tryz.B.eT Tryz.X 72 [.slice .str, .slice (.int .i64), .slice aA, .slice aN] [.slice bE, .err] (fun x=>x.2.2.1.length<=1000/\∀i,i < x.2.2.1.length->(nth aA x.2.2.1 i).2.1.length<=1000) (fun x y=>y=(fun x=>iV x.1 x.2.1 x.2.2.1 x.2.2.2) x):=
 bI (X:=Tryz.X) Tryz.LF Tryz.func72 (by kernel_rfl) (fun x=>JB x.1 x.2.1 x.2.2.1 x.2.2.2) (fun x hw hp=>NU x.1 x.2.1 x.2.2.1 x.2.2.2 hw hp)
def L6 (l:List (D bE)) (a:Int):cy:=[
 (0,fun st=>{X:=Nat,inv:=fun i=>i<=l.length/\fV (l.drop i) a=fV l a,aW:=fun i=>l.length - i,aQ:=fun i=>[(10,sI i)],aU:=[1,8,9]})]
theorem NW (l:List (D bE)) (a:Int) (hw:c8 [.slice bE, .int .i64] (l,a)) (hp:(fun x=>vE x.1) (l,a)):(cp Tryz.B [] Tryz.f36 (L6 l a) [.slice bE, .int .i64] [.int .i64, .bool] (fun x y=>y=(fun x=>fV x.1 x.2) x) (l,a)).holds:=by
 refine holds_of (p:=
  let za:=List.length l
  let zb:=fV l a
  let zc:=fun (x_0:Nat)=>(nth bE l x_0).2.1
  let zd:=fun (x_0:Nat)=>List.length (nth bE l x_0).2.2.1
  let ze:=fun (x_0:Nat)=>((aC (↑x_0:Int))->((aC (1:Int))->(aC ((↑x_0:Int) + (1:Int)))/\(∃(x':Nat),(x'<=za/\fV (List.drop x' l) a=zb)/\za - x' < za - x_0/\((↑x_0:Int) + (1:Int)=(↑x':Int)/\True)/\True)))
  ((za<=aG)->(∃(x:Nat),(x<=za/\fV (List.drop x l) a=zb)/\((0:Int)=(↑x:Int)/\True)/\True)/\(∀x_0:Nat,((x_0<=za/\fV (List.drop x_0 l) a=zb)->(((decide ((↑x_0:Int) < (↑za:Int)))=true->((0:Int)<=(↑x_0:Int)/\(↑x_0:Int) < (↑za:Int))/\(((decide (a>=zc x_0))=true->((zd x_0<=aG)->((aC (zc x_0))->((aC (↑(zd x_0):Int))->(aC (zc x_0 + (↑(zd x_0):Int)))/\(((decide (a < zc x_0 + (↑(zd x_0):Int)))=true->((aC a)->((aC (zc x_0))->(aC (a - zc x_0))/\((0:Int)<=a - zc x_0/\a - zc x_0 < (↑(zd x_0):Int))/\((nth (Ty.int IntKind.i64) (nth bE l x_0).2.2.1 (Int.toNat (a - zc x_0)),true)=zb))))/\((decide (a < zc x_0 + (↑(zd x_0):Int)))=false->(ze x_0)))))))/\((decide (a>=zc x_0))=false->(ze x_0))))/\((decide ((↑x_0:Int) < (↑za:Int)))=false->(((0:Int),false)=zb))))))) (by kernel_rfl) ?_
 dsimp -iota -proj -eta only
 dsimp only at hp
 have ho:=hp
 refine fun h0=>⟨(⟨0,⟨by omega,rfl⟩,⟨rfl,trivial⟩,trivial⟩),fun x_0 q_0=>iL (fun h1=>⟨?a,iE (fun h2 h3 h4 h5=>⟨(by have h:=ho x_0 (by omega);dsimp only [D] at *;simp only [aC];omega),iL (fun h6 h7 h8=>⟨?b,?c,((vF (by omega) q_0.2 (by assumption) (by assumption)).symm)⟩) (fun h6 h7 h8=>⟨?d,?e⟩)⟩) (fun h2 h3 h4=>⟨?f,?g⟩)⟩) (fun h1=>((xV (by omega) q_0.2).symm))⟩
 case a|c=>omega
 case b|d|f=>simp only [aC,aG] at *;omega
 case e|g=>exact ⟨x_0 + 1,⟨by omega,Cs (by omega) q_0.2 (by omega)⟩,by omega,⟨by omega,trivial⟩,(by trivial)⟩
theorem Tryz.JC:bG Tryz.prog Tryz.B.eT Tryz.X 36 [.slice bE, .int .i64] [.int .i64, .bool] (fun x=>vE x.1) (fun x y=>y=(fun x=>fV x.1 x.2) x):=
 bI (X:=Tryz.X) (bY Tryz.bZ) Tryz.func36 (by kernel_rfl) (fun x=>L6 x.1 x.2) (fun x hw hp=>NW x.1 x.2 hw hp)
noncomputable def Tryz.z8:List (FuncId × (Bool × bQ)):=[(25,(false,bM Tryz.bw [.obj 0, .d .str] (fun _ x=>x.2.1.1.length<=6) Tryz.xY)),
 (77,(true,aM [.slice aA] [.slice (.int .i64)] (fun l=>l.length<=1000) (fun l=>bK l))),
 (76,(true,aM [.slice (.int .i64), .slice aP] [.slice (.int .i64), .err] (fun _=>True) (fun x=>bW x))),
 (78,(true,aM [.slice aA, .slice (.int .i64)] [.slice aN, .err] (fun x=>eC x.1) (fun x=>cH x)))]
theorem Tryz.Ez:bU Tryz.prog Tryz.B Tryz.X Tryz.z8:=
 aS (Tryz.Ep) (aS (aE Tryz.Jx) (aS (aE Tryz.Lz) (aS (aE Tryz.NR) (bY Tryz.bZ))))
noncomputable def Tryz.na:List (Alt Tryz.bw [.obj 0, .d .str]):=[{bV:=Tryz.bw,res:=[.d (.slice .str), .d (.slice aA), .d (.slice (.int .i64)), .d (.slice aN), .d .err],out:=fun _ x=>x,ret:=fun a x=>((bA (bS x) a.1).1,(bA (bS x) a.1).2.1,(bA (bS x) a.1).2.2.1,(bA (bS x) a.1).2.2.2.1,aY (bA (bS x) a.1).2.2.2.2,())}]
theorem JD (s:List UInt8) (f:ft) (hw:hP [.obj 0, .d .str] (s,())) (hp:(fun _ x=>x.2.1.1.length<=6) (s,()) f):(dR Tryz.B Tryz.z8 Tryz.f34 [] Tryz.bw [.obj 0, .d .str] Tryz.na (s,()) f).holds:=by
 refine holds_of (p:=
  let za:=aL (bS f) s
  let zb:=aY za.2.2
  let zc:=f=f
  let zd:=bA (bS f) s
  let ze:=(zd.1,zd.2.1,zd.2.2.1,zd.2.2.2.1,aY zd.2.2.2.2,())
  let zf:=za.2.1
  let zg:=bW (bK zf,[])
  let zh:=cH (zf,zg.1)
  (List.length f.2.1.1<=(6:Nat))/\((True)->(((!bB.isNil zb)=true->(True/\zc/\([],[],[],[],zb,())=ze))/\((!bB.isNil zb)=false->(List.length zf<=(1000:Nat))/\(True)/\(((!bB.isNil zg.2)=true->(True/\zc/\([],[],[],[],zg.2,())=ze))/\((!bB.isNil zg.2)=false->(eC zf)/\(((!bB.isNil zh.2)=true->(True/\zc/\([],[],[],[],zh.2,())=ze))/\((!bB.isNil zh.2)=false->(True/\zc/\(za.1,zf,zg.1,zh.1,bB.nil,())=ze))))))))) (by kernel_rfl) ?_
 dsimp -iota -proj -eta only
 exact ⟨(by trivial),fun h0=>iB (fun h1=>⟨trivial,rfl,by rw [nT (zJ h1)]⟩) (fun h1=>⟨(Nat.le_trans (tc (hZ hp) (bL.1 (by assumption))) (by decide)),trivial,iB (fun h2=>⟨trivial,rfl,by rw [nU (bL.1 (by assumption)) h2,rb (mV _)]⟩) (fun h2=>⟨(xi (hZ hp) (bL.1 (by assumption))),iB (fun h3=>⟨trivial,rfl,by rw [re (bL.1 (by assumption)) (by assumption) h3,K6]⟩) (fun h3=>(by exact ⟨trivial,rfl,by rw [pj (bL.1 (by assumption)) (by assumption) (by assumption)];rfl⟩))⟩)⟩)⟩
theorem Tryz.Aa:cL Tryz.prog Tryz.B.eT Tryz.X 34 false (bM Tryz.bw [.obj 0, .d .str] (fun _ x=>x.2.1.1.length<=6) Tryz.na):=
 cn (X:=Tryz.X) Tryz.Ez Tryz.func34 (by kernel_rfl) (fun (a:CD [.obj 0, .d .str]) (x:PD Tryz.bw)=>[]) (fun (a:CD [.obj 0, .d .str]) (x:PD Tryz.bw) hw hp=>JD a.1 x hw hp)
noncomputable def Tryz.FJ:List (FuncId × (Bool × bQ)):=[(34,(false,bM Tryz.bw [.obj 0, .d .str] (fun _ x=>x.2.1.1.length<=6) Tryz.na)),
 (72,(true,aM [.slice .str, .slice (.int .i64), .slice aA, .slice aN] [.slice bE, .err] (fun x=>x.2.2.1.length<=1000/\∀i,i < x.2.2.1.length->(nth aA x.2.2.1 i).2.1.length<=1000) (fun x=>iV x.1 x.2.1 x.2.2.1 x.2.2.2)))]
theorem Tryz.JE:bU Tryz.prog Tryz.B Tryz.X Tryz.FJ:=
 aS (Tryz.Aa) (aS (aE Tryz.NV) (bY Tryz.bZ))
noncomputable def Tryz.rm:List (Alt Tryz.bw [.obj 0, .d .str]):=[{bV:=Tryz.bw,res:=[.d (.slice bE), .d .err],out:=fun _ x=>x,ret:=fun a x=>((cu (bS x) a.1).1,aY (cu (bS x) a.1).2,())}]
theorem MM (s:List UInt8) (f:ft) (hw:hP [.obj 0, .d .str] (s,())) (hp:(fun _ x=>x.2.1.1.length<=6) (s,()) f):(dR Tryz.B Tryz.FJ Tryz.f31 [] Tryz.bw [.obj 0, .d .str] Tryz.rm (s,()) f).holds:=by
 refine holds_of (p:=
  let za:=bA (bS f) s
  let zb:=aY za.2.2.2.2
  let zc:=cu (bS f) s
  let zd:=(zc.1,aY zc.2,())
  let ze:=List.length za.2.1
  let zf:=iV za.1 za.2.2.1 za.2.1 za.2.2.2.1
  (List.length f.2.1.1<=(6:Nat))/\((True)->(((!bB.isNil zb)=true->(True/\f=f/\([],zb,())=zd))/\((!bB.isNil zb)=false->(ze<=(1000:Nat)/\∀(i:Nat),i < ze->List.length (nth aA za.2.1 i).2.1<=(1000:Nat))/\(True/\f=f/\(zf.1,zf.2,())=zd))))) (by kernel_rfl) ?_
 dsimp -iota -proj -eta only
 exact ⟨(by trivial),fun h0=>iB (fun h1=>⟨trivial,rfl,by rw [nW (zJ h1)]⟩) (fun h1=>⟨(Ct (hZ hp) (bL.1 (by assumption))),⟨trivial,rfl,K5 (bL.1 (by assumption))⟩⟩)⟩
theorem Tryz.FK:cL Tryz.prog Tryz.B.eT Tryz.X 31 false (bM Tryz.bw [.obj 0, .d .str] (fun _ x=>x.2.1.1.length<=6) Tryz.rm):=
 cn (X:=Tryz.X) Tryz.JE Tryz.func31 (by kernel_rfl) (fun (a:CD [.obj 0, .d .str]) (x:PD Tryz.bw)=>[]) (fun (a:CD [.obj 0, .d .str]) (x:PD Tryz.bw) hw hp=>MM a.1 x hw hp)
end Go.Proofs.YtgokjhhcfemnhaaGreatDoor

namespace Go.Proofs.YtgokjhhcfemnhaaGreatDoor
open Go.Vg Go.Mrl
@[reducible] def Tryz.bC:List Ob:=[.box 123 [.d (.slice cq), .d (.int .i64)]]
def De (s:List UInt8) (f:RS):cy:=[(0,fun st=>{X:=Nat,inv:=fun i=>i<=f.1.length/\∀j,j < i->¬ (nth cq f.1 j).1=s,aW:=fun i=>f.1.length - i,aQ:=fun i=>[(7,sI i)],aU:=[0,1]})]
def Tryz.mE:List (Alt Tryz.bC [.obj 0, .d .str]):=[{bV:=Tryz.bC,res:=[.d .str, .d (.int .i64), .d (.int .i64)],out:=fun _ x=>x,ret:=fun a x=>((bH x.1.1 a.1).1,(bH x.1.1 a.1).2.1,(bH x.1.1 a.1).2.2,())}]
theorem LG (s:List UInt8) (f:RS) (hw:hP [.obj 0, .d .str] (s,())):(dR Tryz.B [] Tryz.f65 (De s f) Tryz.bC [.obj 0, .d .str] Tryz.mE (s,()) (f,())).holds:=by
 refine holds_of (p:=
  let za:=List.length f.1
  let zb:=fun (x_0:Nat)=>(↑x_0:Int) < (↑(List.length f.1):Int)
  let zc:=fun (x_0:Nat)=>(0:Int)<=(↑x_0:Int)/\zb x_0
  let zd:=(f,())=(f,())
  let ze:=bH f.1 s
  let zf:=(ze.1,ze.2.1,ze.2.2,())
  (∃(x:Nat),(x<=za/\∀(j:Nat),j < x->¬(nth cq f.1 j).1=s)/\((0:Int)=(↑x:Int)/\True)/\True)/\(∀x_0:Nat,((x_0<=za/\∀(j:Nat),j < x_0->¬(nth cq f.1 j).1=s)->((List.length f.1<=aG)->(((decide (zb x_0))=true->(zc x_0)/\((((nth cq f.1 x_0).1 == s)=true->(zc x_0)/\(zc x_0)/\(True/\zd/\((nth cq f.1 x_0).2.1,(nth cq f.1 x_0).2.2.1,(0:Int),())=zf))/\(((nth cq f.1 x_0).1 == s)=false->((aC (↑x_0:Int))->((aC (1:Int))->(aC ((↑x_0:Int) + (1:Int)))/\(∃(x':Nat),(x'<=za/\∀(j:Nat),j < x'->¬(nth cq f.1 j).1=s)/\za - x' < za - x_0/\((↑x_0:Int) + (1:Int)=(↑x':Int)/\True)/\(f.1=f.1/\f.2.1=f.2.1/\True)/\True))))))/\((decide (zb x_0))=false->(True/\zd/\([],(0:Int),(5:Int),())=zf))))))) (by kernel_rfl) ?_
 dsimp -iota -proj -eta only
 refine ⟨(⟨0,⟨by omega,fun j hj=>by omega⟩,⟨rfl,trivial⟩,trivial⟩),fun x_0 q_0 h0=>iL (fun h1=>⟨?a,iQ (fun h2=>⟨?b,?c,(by rw [B8 q_0.2 (by omega) h2];exact ⟨trivial,rfl,rfl⟩)⟩) (fun h2 h3 h4=>⟨(by simp only [aC,aG] at *;omega),(⟨x_0 + 1,⟨by omega,oC q_0.2 h2⟩,by omega,⟨by omega,trivial⟩,(by trivial)⟩)⟩)⟩) (fun h1=>(by rw [Iy fun j hj=>q_0.2 j (by omega)];exact ⟨trivial,rfl,rfl⟩))⟩
 case a|b|c=>omega
theorem Tryz.vL:cL Tryz.prog Tryz.B.eT Tryz.X 65 false (bM Tryz.bC [.obj 0, .d .str] (fun _ _=>True) Tryz.mE):=
 cn (X:=Tryz.X) (bY Tryz.bZ) Tryz.func65 (by kernel_rfl) (fun (a:CD [.obj 0, .d .str]) (x:PD Tryz.bC)=>De a.1 x.1) (fun (a:CD [.obj 0, .d .str]) (x:PD Tryz.bC) hw hp=>LG a.1 x.1 hw)
noncomputable def Tryz.Df:List (FuncId × (Bool × bQ)):=[(87,(true,aM [.str] [.err] (fun _=>True) (fun s=>aY (aK s)))),
 (94,(true,aM [.str] [.int .i64] (fun _=>True) (fun s=>aK s))),
 (9,(true,aM [.err, .int .i64] [.bool] (fun _=>True) (fun x=>cG x.1 x.2))),
 (65,(false,bM Tryz.bC [.obj 0, .d .str] (fun _ _=>True) Tryz.mE))]
theorem Tryz.Hs:bU Tryz.prog Tryz.B Tryz.X Tryz.Df:=
 aS (aE Tryz.fM) (aS (aE Tryz.dz) (aS (aE Tryz.gv) (aS (Tryz.vL) (bY Tryz.bZ))))
def Ab (s:List UInt8) (t:List UInt8) (f:RS):cy:=[(0,fun st=>{X:=Nat × Bool × List (D cq),inv:=fun x=>x.1<=f.1.length/\ct f.1 s (s,t,f.2.1 + 1,()) x.1 x.2.1 x.2.2,aW:=fun x=>f.1.length - x.1,aQ:=fun x=>[(13,sI x.1),(12,sB x.2.1),(11, .s (.one (.app cq x.2.2 (aR st 11))))],aF:=fun x=>[(aR st 11, .tok cq x.2.2)],aU:=[0,1,2,6],dq:=[aR st 11]})]
def Tryz.rn:List (Alt Tryz.bC [.obj 0, .d .str, .d .str]):=[{bV:=Tryz.bC,res:=[.d (.int .i64)],out:=fun a x=>((ek x.1 a.1 a.2.1).1,()),ret:=fun a x=>((ek x.1 a.1 a.2.1).2,())}]
theorem JF (s:List UInt8) (t:List UInt8) (f:RS) (hw:hP [.obj 0, .d .str, .d .str] (s,t,())) (hp:(fun _ x=>x.1.1.length<=6/\0<=x.1.2.1/\x.1.2.1<=1000000) (s,t,()) (f,())):(dR Tryz.B Tryz.Df Tryz.f61 (Ab s t f) Tryz.bC [.obj 0, .d .str, .d .str] Tryz.rn (s,t,()) (f,())).holds:=by
 refine holds_of (p:=
  let za:=ek f s t
  let zb:=(za.1,())
  let zc:=(f,())=zb
  let zd:=(za.2,())
  let ze:=List.length f.1<=aG
  let zf:=(↑(List.length f.1):Int)
  let zg:=True/\zc/\((8:Int),())=zd
  let zh:=aC (1:Int)
  let zi:=f.2.1 + (1:Int)
  let zj:=Nat × Bool × List (List UInt8 × List UInt8 × Int × Unit)
  let zk:=List.length f.1
  let zl:=(s,t,f.2.1 + (1:Int),())
  let zm:=fun (x_0:Nat × Bool × List (List UInt8 × List UInt8 × Int × Unit))=>(0:Int)<=(↑x_0.1:Int)/\(↑x_0.1:Int) < zf
  let zn:=fun (x_0:Nat × Bool × List (List UInt8 × List UInt8 × Int × Unit))=>(nth cq f.1 x_0.1).1
  let zo:=(zi,())
  let zp:=[(s,t,zo)]
  let zq:=fun (x_0:Nat × Bool × List (List UInt8 × List UInt8 × Int × Unit))=>x_0.2.2=x_0.2.2/\List.length x_0.2.2 + List.length zp<=(1000000000:Nat)
  let zr:=fun (x_0:Nat × Bool × List (List UInt8 × List UInt8 × Int × Unit))=>x_0.2.2++zp
  let zs:=fun (x_0:Nat × Bool × List (List UInt8 × List UInt8 × Int × Unit))=>[nth cq f.1 x_0.1]
  let zt:=fun (x_0:Nat × Bool × List (List UInt8 × List UInt8 × Int × Unit))=>aC (↑x_0.1:Int)
  let zu:=fun (x_0:Nat × Bool × List (List UInt8 × List UInt8 × Int × Unit))=>(↑x_0.1:Int) + (1:Int)
  let zv:=(f.1=f.1/\zi=zi/\True)/\True
  let zw:=fun (x_0:Nat × Bool × List (List UInt8 × List UInt8 × Int × Unit))=>(zm x_0)/\(((!zn x_0 == s)=true->(zm x_0)/\(x_0.2.2=x_0.2.2/\List.length x_0.2.2 + List.length (zs x_0)<=(1000000000:Nat))/\((zt x_0)->((zh)->(aC (zu x_0))/\(∃(x':zj),(Prod.fst x'<=zk/\ct f.1 s zl (Prod.fst x') (Prod.snd x').1 (Prod.snd x').2)/\zk - Prod.fst x' < zk - x_0.1/\(zu x_0=(↑(Prod.fst x'):Int)/\x_0.2.1=(Prod.snd x').1/\x_0.2.2++zs x_0=(Prod.snd x').2/\True)/\x_0.2.2++zs x_0=(Prod.snd x').2/\zv))))/\((!zn x_0 == s)=false->((zt x_0)->((zh)->(aC (zu x_0))/\(∃(x':zj),(Prod.fst x'<=zk/\ct f.1 s zl (Prod.fst x') (Prod.snd x').1 (Prod.snd x').2)/\zk - Prod.fst x' < zk - x_0.1/\(zu x_0=(↑(Prod.fst x'):Int)/\x_0.2.1=(Prod.snd x').1/\x_0.2.2=(Prod.snd x').2/\True)/\x_0.2.2=(Prod.snd x').2/\zv)))))
  let zx:=((0:Int),())=zd
  let zy:=(((f.2.1 == (1000000:Int))=true->(zg))/\((f.2.1 == (1000000:Int))=false->((aC f.2.1)->((zh)->(aC zi)/\(∃(x:zj),(Prod.fst x<=zk/\ct f.1 s zl (Prod.fst x) (Prod.snd x).1 (Prod.snd x).2)/\((0:Int)=(↑(Prod.fst x):Int)/\false=(Prod.snd x).1/\@List.nil (List UInt8 × List UInt8 × Int × Unit)=(Prod.snd x).2/\True)/\@List.nil (List UInt8 × List UInt8 × Int × Unit)=(Prod.snd x).2/\True)/\(∀x_0:Nat × Bool × List (List UInt8 × List UInt8 × Int × Unit),((x_0.1<=zk/\ct f.1 s zl x_0.1 x_0.2.1 x_0.2.2)->((ze)->(((decide ((↑x_0.1:Int) < zf))=true->(((!x_0.2.1)=true->(zm x_0)/\(((Op.bytesLess s (zn x_0) || s == zn x_0)=true->(zq x_0)/\(zm x_0)/\(((!zn x_0 == s)=true->(zm x_0)/\(zr x_0=zr x_0/\List.length (zr x_0) + List.length (zs x_0)<=(1000000000:Nat))/\((zt x_0)->((zh)->(aC (zu x_0))/\(∃(x':zj),(Prod.fst x'<=zk/\ct f.1 s zl (Prod.fst x') (Prod.snd x').1 (Prod.snd x').2)/\zk - Prod.fst x' < zk - x_0.1/\(zu x_0=(↑(Prod.fst x'):Int)/\true=(Prod.snd x').1/\zr x_0++zs x_0=(Prod.snd x').2/\True)/\zr x_0++zs x_0=(Prod.snd x').2/\zv))))/\((!zn x_0 == s)=false->((zt x_0)->((zh)->(aC (zu x_0))/\(∃(x':zj),(Prod.fst x'<=zk/\ct f.1 s zl (Prod.fst x') (Prod.snd x').1 (Prod.snd x').2)/\zk - Prod.fst x' < zk - x_0.1/\(zu x_0=(↑(Prod.fst x'):Int)/\true=(Prod.snd x').1/\zr x_0=(Prod.snd x').2/\True)/\zr x_0=(Prod.snd x').2/\zv))))))/\((Op.bytesLess s (zn x_0) || s == zn x_0)=false->(zw x_0))))/\((!x_0.2.1)=false->(zw x_0))))/\((decide ((↑x_0.1:Int) < zf))=false->(((!x_0.2.1)=true->(zq x_0)/\(True/\((zr x_0,zo),())=zb/\zx))/\((!x_0.2.1)=false->(True/\((x_0.2.2,zo),())=zb/\zx))))))))))))
  (True)/\(((decide (aK s > (0:Int)))=true->(True/\zc/\(aK s,())=zd))/\((decide (aK s > (0:Int)))=false->((List.length t<=aG)->(((decide ((↑(List.length t):Int) > (1200:Int)))=true->(True/\zc/\((2:Int),())=zd))/\((decide ((↑(List.length t):Int) > (1200:Int)))=false->(True)/\((True)->(((decide ((bH f.1 s).2.2 > (0:Int)))=true->((ze)->(((zf == (6:Int))=true->(zg))/\((zf == (6:Int))=false->(zy)))))/\((decide ((bH f.1 s).2.2 > (0:Int)))=false->(zy)))))))))) (by kernel_rfl) ?_
 dsimp -iota -proj -eta only
 dsimp only at hp
 refine ⟨trivial,iL (fun h0=>(by rw [DV (by omega)];exact ⟨trivial,rfl,rfl⟩)) (fun h0 h1=>iL (fun h2 => ?a) (fun h2=>⟨trivial,fun h3=>iL (fun h4 h5=>iQ (fun h6 => ?b) (fun h6=>iQ (fun h7 => ?c) (fun h7 h8 h9=>⟨?d,?e,fun x_0 q_0 h10=>iL (fun h11=>⟨fun h12=>⟨?f,⟨fun h13=>⟨?g,?h,⟨fun h14=>⟨?i,?j,fun h15 h16=>⟨?k,?l⟩⟩,fun h14 h15 h16=>⟨?m,?n⟩⟩⟩,fun h13=>⟨?o,⟨fun h14=>⟨?p,?q,fun h15 h16=>⟨?r,?s⟩⟩,fun h14 h15 h16=>⟨?t,?u⟩⟩⟩⟩⟩,fun h12=>⟨?v,⟨fun h13=>⟨?w,?x,fun h14 h15=>⟨?y,?z⟩⟩,fun h13 h14 h15=>⟨?a0,?a1⟩⟩⟩⟩) (fun h11=>⟨fun h12=>⟨?a2,?a3⟩,fun h12 => ?a4⟩)⟩))) (fun h4=>iQ (fun h5 => ?a5) (fun h5 h6 h7=>⟨?a6,?a7,fun x_0 q_0 h8=>iL (fun h9=>⟨fun h10=>⟨?a8,⟨fun h11=>⟨?a9,?aa,⟨fun h12=>⟨?ab,?ac,fun h13 h14=>⟨?ad,?ae⟩⟩,fun h12 h13 h14=>⟨?af,?ag⟩⟩⟩,fun h11=>⟨?ah,⟨fun h12=>⟨?ai,?aj,fun h13 h14=>⟨?ak,?al⟩⟩,fun h12 h13 h14=>⟨?am,?an⟩⟩⟩⟩⟩,fun h10=>⟨?ao,⟨fun h11=>⟨?ap,?aq,fun h12 h13=>⟨?ar,?au⟩⟩,fun h11 h12 h13=>⟨?av,?aw⟩⟩⟩⟩) (fun h9=>⟨fun h10=>⟨?ax,?ay⟩,fun h10 => ?az⟩)⟩))⟩))⟩
 case a=>
  have hnn:=cj s;have hn0:aK s=0:=(by omega)
  rw [DW hn0 (by omega)];exact ⟨trivial,rfl,rfl⟩
 case b|c|a5=>
  have hnn:=cj s;have hn0:aK s=0:=(by omega)
  rw [DX hn0 (by omega) (by omega)];exact ⟨trivial,rfl,rfl⟩
 case d|a6=>simp only [aC,aG] at *;omega
 case e|a7=>exact ⟨(0,false,[]),⟨by omega,ct.start _ _ _⟩,⟨rfl,rfl,rfl,trivial⟩,rfl,trivial⟩
 case f|v=>
  simp only [bl,reduceCtorEq] at h12
  omega
 case g|x=>
  simp only [bl,reduceCtorEq] at h12 h13
  have:=q_0.2.2.2.1;exact ⟨rfl,by simp only [List.length_singleton];omega⟩
 case h|o|w=>
  simp only [bl,reduceCtorEq] at h12 h13
  omega
 case i|p=>
  simp only [bl,reduceCtorEq] at h12 h13 h14
  omega
 case j=>
  simp only [bl,reduceCtorEq] at h12 h13 h14
  have:=q_0.2.2.2.1;exact ⟨rfl,by simp only [List.length_append,List.length_singleton];omega⟩
 case k|m|r|t=>
  simp only [bl,reduceCtorEq] at h12 h13 h14
  simp only [aC,aG] at *;omega
 case l=>
  simp only [bl,reduceCtorEq] at h12 h13 h14
  have hl:x_0.2.1=false:=(by assumption);have hv:ct f.1 s (s,t,f.2.1 + 1,()) x_0.1 false x_0.2.2:=(by have:=q_0.2;rwa [hl] at this)
  exact ⟨(x_0.1 + 1,true,_),⟨by omega,hv.put (by omega) (by simp_all) (by assumption)⟩,by simp only;omega,⟨by simp only;omega,rfl,rfl,trivial⟩,rfl,(by trivial)⟩
 case n=>
  simp only [bl,reduceCtorEq] at h12 h13 h14
  have hl:x_0.2.1=false:=(by assumption);have hv:ct f.1 s (s,t,f.2.1 + 1,()) x_0.1 false x_0.2.2:=(by have:=q_0.2;rwa [hl] at this)
  exact ⟨(x_0.1 + 1,true,_),⟨by omega,hv.Ff (by omega) (by simp_all) (by assumption)⟩,by simp only;omega,⟨by simp only;omega,rfl,rfl,trivial⟩,rfl,(by trivial)⟩
 case q=>
  simp only [bl,reduceCtorEq] at h12 h13 h14
  have:=q_0.2.2.2.1;exact ⟨rfl,by simp only [List.length_singleton];omega⟩
 case s=>
  simp only [bl,reduceCtorEq] at h12 h13 h14
  have hl:x_0.2.1=false:=(by assumption);have hv:ct f.1 s (s,t,f.2.1 + 1,()) x_0.1 false x_0.2.2:=(by have:=q_0.2;rwa [hl] at this)
  exact ⟨(x_0.1 + 1,false,_),⟨by omega,hv.low (by omega) (by simp_all)⟩,by simp only;omega,⟨by simp only;omega,hl,rfl,trivial⟩,rfl,(by trivial)⟩
 case u=>
  simp only [bl,reduceCtorEq] at h12 h13 h14
  simp_all
 case y|a0=>
  simp only [bl,reduceCtorEq] at h12 h13
  simp only [aC,aG] at *;omega
 case z=>
  simp only [bl,reduceCtorEq] at h12 h13
  have hl:x_0.2.1=true:=(by assumption);have hv:ct f.1 s (s,t,f.2.1 + 1,()) x_0.1 true x_0.2.2:=(by have:=q_0.2;rwa [hl] at this)
  exact ⟨(x_0.1 + 1,true,_),⟨by omega,hv.high (by omega) (by assumption)⟩,by simp only;omega,⟨by simp only;omega,hl,rfl,trivial⟩,rfl,(by trivial)⟩
 case a1=>
  simp only [bl,reduceCtorEq] at h12 h13
  have hl:x_0.2.1=true:=(by assumption);have hv:ct f.1 s (s,t,f.2.1 + 1,()) x_0.1 true x_0.2.2:=(by have:=q_0.2;rwa [hl] at this)
  exact ⟨(x_0.1 + 1,true,_),⟨by omega,hv.skip (by omega) (by assumption)⟩,by simp only;omega,⟨by simp only;omega,hl,rfl,trivial⟩,rfl,(by trivial)⟩
 case a2=>
  simp only [bl,reduceCtorEq] at h12
  have:=q_0.2.2.2.1;exact ⟨rfl,by simp only [List.length_singleton];omega⟩
 case a3=>
  simp only [bl,reduceCtorEq] at h12
  have hl:x_0.2.1=false:=(by assumption);have hv:ct f.1 s (s,t,f.2.1 + 1,()) x_0.1 false x_0.2.2:=(by have:=q_0.2;rwa [hl] at this)
  have hnn:=cj s;have hn0:aK s=0:=(by omega)
  rw [oM hn0 (by omega) (by omega),<-hv.last (by omega)];exact ⟨trivial,rfl,rfl⟩
 case a4=>
  simp only [bl,reduceCtorEq] at h12
  have hl:x_0.2.1=true:=(by assumption);have hv:ct f.1 s (s,t,f.2.1 + 1,()) x_0.1 true x_0.2.2:=(by have:=q_0.2;rwa [hl] at this)
  have hnn:=cj s;have hn0:aK s=0:=(by omega)
  rw [oM hn0 (by omega) (by omega),<-hv.all (by omega)];exact ⟨trivial,rfl,rfl⟩
 case a8|ao=>
  simp only [bl,reduceCtorEq] at h10
  omega
 case a9|aq=>
  simp only [bl,reduceCtorEq] at h10 h11
  have:=q_0.2.2.2.1;exact ⟨rfl,by simp only [List.length_singleton];omega⟩
 case aa|ah|ap=>
  simp only [bl,reduceCtorEq] at h10 h11
  omega
 case ab|ai=>
  simp only [bl,reduceCtorEq] at h10 h11 h12
  omega
 case ac=>
  simp only [bl,reduceCtorEq] at h10 h11 h12
  have:=q_0.2.2.2.1;exact ⟨rfl,by simp only [List.length_append,List.length_singleton];omega⟩
 case ad|af|ak|am=>
  simp only [bl,reduceCtorEq] at h10 h11 h12
  simp only [aC,aG] at *;omega
 case ae=>
  simp only [bl,reduceCtorEq] at h10 h11 h12
  have hl:x_0.2.1=false:=(by assumption);have hv:ct f.1 s (s,t,f.2.1 + 1,()) x_0.1 false x_0.2.2:=(by have:=q_0.2;rwa [hl] at this)
  exact ⟨(x_0.1 + 1,true,_),⟨by omega,hv.put (by omega) (by simp_all) (by assumption)⟩,by simp only;omega,⟨by simp only;omega,rfl,rfl,trivial⟩,rfl,(by trivial)⟩
 case ag=>
  simp only [bl,reduceCtorEq] at h10 h11 h12
  have hl:x_0.2.1=false:=(by assumption);have hv:ct f.1 s (s,t,f.2.1 + 1,()) x_0.1 false x_0.2.2:=(by have:=q_0.2;rwa [hl] at this)
  exact ⟨(x_0.1 + 1,true,_),⟨by omega,hv.Ff (by omega) (by simp_all) (by assumption)⟩,by simp only;omega,⟨by simp only;omega,rfl,rfl,trivial⟩,rfl,(by trivial)⟩
 case aj=>
  simp only [bl,reduceCtorEq] at h10 h11 h12
  have:=q_0.2.2.2.1;exact ⟨rfl,by simp only [List.length_singleton];omega⟩
 case al=>
  simp only [bl,reduceCtorEq] at h10 h11 h12
  have hl:x_0.2.1=false:=(by assumption);have hv:ct f.1 s (s,t,f.2.1 + 1,()) x_0.1 false x_0.2.2:=(by have:=q_0.2;rwa [hl] at this)
  exact ⟨(x_0.1 + 1,false,_),⟨by omega,hv.low (by omega) (by simp_all)⟩,by simp only;omega,⟨by simp only;omega,hl,rfl,trivial⟩,rfl,(by trivial)⟩
 case an=>
  simp only [bl,reduceCtorEq] at h10 h11 h12
  simp_all
 case ar|av=>
  simp only [bl,reduceCtorEq] at h10 h11
  simp only [aC,aG] at *;omega
 case au=>
  simp only [bl,reduceCtorEq] at h10 h11
  have hl:x_0.2.1=true:=(by assumption);have hv:ct f.1 s (s,t,f.2.1 + 1,()) x_0.1 true x_0.2.2:=(by have:=q_0.2;rwa [hl] at this)
  exact ⟨(x_0.1 + 1,true,_),⟨by omega,hv.high (by omega) (by assumption)⟩,by simp only;omega,⟨by simp only;omega,hl,rfl,trivial⟩,rfl,(by trivial)⟩
 case aw=>
  simp only [bl,reduceCtorEq] at h10 h11
  have hl:x_0.2.1=true:=(by assumption);have hv:ct f.1 s (s,t,f.2.1 + 1,()) x_0.1 true x_0.2.2:=(by have:=q_0.2;rwa [hl] at this)
  exact ⟨(x_0.1 + 1,true,_),⟨by omega,hv.skip (by omega) (by assumption)⟩,by simp only;omega,⟨by simp only;omega,hl,rfl,trivial⟩,rfl,(by trivial)⟩
 case ax=>
  simp only [bl,reduceCtorEq] at h10
  have:=q_0.2.2.2.1;exact ⟨rfl,by simp only [List.length_singleton];omega⟩
 case ay=>
  simp only [bl,reduceCtorEq] at h10
  have hl:x_0.2.1=false:=(by assumption);have hv:ct f.1 s (s,t,f.2.1 + 1,()) x_0.1 false x_0.2.2:=(by have:=q_0.2;rwa [hl] at this)
  have hnn:=cj s;have hn0:aK s=0:=(by omega)
  rw [oM hn0 (by omega) (by omega),<-hv.last (by omega)];exact ⟨trivial,rfl,rfl⟩
 case az=>
  simp only [bl,reduceCtorEq] at h10
  have hl:x_0.2.1=true:=(by assumption);have hv:ct f.1 s (s,t,f.2.1 + 1,()) x_0.1 true x_0.2.2:=(by have:=q_0.2;rwa [hl] at this)
  have hnn:=cj s;have hn0:aK s=0:=(by omega)
  rw [oM hn0 (by omega) (by omega),<-hv.all (by omega)];exact ⟨trivial,rfl,rfl⟩
theorem Tryz.JG:cL Tryz.prog Tryz.B.eT Tryz.X 61 false (bM Tryz.bC [.obj 0, .d .str, .d .str] (fun _ x=>x.1.1.length<=6/\0<=x.1.2.1/\x.1.2.1<=1000000) Tryz.rn):=
 cn (X:=Tryz.X) Tryz.Hs Tryz.func61 (by kernel_rfl) (fun (a:CD [.obj 0, .d .str, .d .str]) (x:PD Tryz.bC)=>Ab a.1 a.2.1 x.1) (fun (a:CD [.obj 0, .d .str, .d .str]) (x:PD Tryz.bC) hw hp=>JF a.1 a.2.1 x.1 hw hp)
def xq (s:List UInt8) (f:RS):cy:=[(0,fun st=>{X:=Nat × List (D cq),inv:=fun x=>x.1<=f.1.length/\x.2++(f.1.drop x.1).filter (dB s)=f.1.filter (dB s)/\x.2.length<=x.1,aW:=fun x=>f.1.length - x.1,aQ:=fun x=>[(6,sI x.1),(5, .s (.one (.app cq x.2 (aR st 5))))],aF:=fun x=>[(aR st 5, .tok cq x.2)],aU:=[0,1,4],dq:=[aR st 5]})]
def Tryz.po:List (Alt Tryz.bC [.obj 0, .d .str]):=[{bV:=Tryz.bC,res:=[.d (.int .i64)],out:=fun a x=>((ed x.1 a.1).1,()),ret:=fun a x=>((ed x.1 a.1).2,())}]
theorem Ht (s:List UInt8) (f:RS) (hw:hP [.obj 0, .d .str] (s,())) (hp:(fun _ x=>x.1.1.length<=6) (s,()) (f,())):(dR Tryz.B [] Tryz.f63 (xq s f) Tryz.bC [.obj 0, .d .str] Tryz.po (s,()) (f,())).holds:=by
 refine holds_of (p:=
  let za:=Nat × List (List UInt8 × List UInt8 × Int × Unit)
  let zb:=List.length f.1
  let zc:=dB s
  let zd:=List.filter zc f.1
  let ze:=List.length f.1<=aG
  let zf:=(↑(List.length f.1):Int)
  let zg:=fun (x_0:Nat × List (List UInt8 × List UInt8 × Int × Unit))=>(0:Int)<=(↑x_0.1:Int)/\(↑x_0.1:Int) < zf
  let zh:=fun (x_0:Nat × List (List UInt8 × List UInt8 × Int × Unit))=>(↑x_0.1:Int) + (1:Int)
  let zi:=fun (x_0:Nat × List (List UInt8 × List UInt8 × Int × Unit))=>x_0.2++[nth cq f.1 x_0.1]
  let zj:=(f.1=f.1/\f.2.1=f.2.1/\True)/\True
  let zk:=((ed f s).1,())
  let zl:=((ed f s).2,())
  (∃(x:za),(Prod.fst x<=zb/\Prod.snd x++List.filter zc (List.drop (Prod.fst x) f.1)=zd/\List.length (Prod.snd x)<=Prod.fst x)/\((0:Int)=(↑(Prod.fst x):Int)/\@List.nil (List UInt8 × List UInt8 × Int × Unit)=Prod.snd x/\True)/\@List.nil (List UInt8 × List UInt8 × Int × Unit)=Prod.snd x/\True)/\(∀x_0:Nat × List (List UInt8 × List UInt8 × Int × Unit),((x_0.1<=zb/\x_0.2++List.filter zc (List.drop x_0.1 f.1)=zd/\List.length x_0.2<=x_0.1)->((ze)->(((decide ((↑x_0.1:Int) < zf))=true->(zg x_0)/\(((!(nth cq f.1 x_0.1).1 == s)=true->(zg x_0)/\(x_0.2=x_0.2/\List.length x_0.2 + List.length [nth cq f.1 x_0.1]<=(1000000000:Nat))/\((aC (↑x_0.1:Int))->((aC (1:Int))->(aC (zh x_0))/\(∃(x':za),(Prod.fst x'<=zb/\Prod.snd x'++List.filter zc (List.drop (Prod.fst x') f.1)=zd/\List.length (Prod.snd x')<=Prod.fst x')/\zb - Prod.fst x' < zb - x_0.1/\(zh x_0=(↑(Prod.fst x'):Int)/\zi x_0=Prod.snd x'/\True)/\zi x_0=Prod.snd x'/\zj))))/\((!(nth cq f.1 x_0.1).1 == s)=false->((aC (↑x_0.1:Int))->((aC (1:Int))->(aC (zh x_0))/\(∃(x':za),(Prod.fst x'<=zb/\Prod.snd x'++List.filter zc (List.drop (Prod.fst x') f.1)=zd/\List.length (Prod.snd x')<=Prod.fst x')/\zb - Prod.fst x' < zb - x_0.1/\(zh x_0=(↑(Prod.fst x'):Int)/\x_0.2=Prod.snd x'/\True)/\x_0.2=Prod.snd x'/\zj))))))/\((decide ((↑x_0.1:Int) < zf))=false->((List.length x_0.2<=aG)->((ze)->((((↑(List.length x_0.2):Int) == zf)=true->(True/\(f,())=zk/\((5:Int),())=zl))/\(((↑(List.length x_0.2):Int) == zf)=false->(True/\((x_0.2,f.2),())=zk/\((0:Int),())=zl))))))))))) (by kernel_rfl) ?_
 dsimp -iota -proj -eta only
 dsimp only at hp
 refine ⟨(⟨(0,[]),⟨by omega,rfl,by simp⟩,⟨rfl,rfl,trivial⟩,rfl,trivial⟩),fun x_0 q_0 h0=>iL (fun h1=>⟨(by omega),⟨fun h2=>⟨?a,?b,fun h3 h4=>⟨?c,?d⟩⟩,fun h2 h3 h4=>⟨?e,?f⟩⟩⟩) (fun h1 h2 h3=>iQ (fun h4=>(by have he:=B9 q_0.2.1 (by omega);rw [GC (by rw [<-he];omega)];exact ⟨trivial,rfl,rfl⟩)) (fun h4=>(by have he:=B9 q_0.2.1 (by omega);rw [DY (by rw [<-he];omega),<-he];exact ⟨trivial,rfl,rfl⟩)))⟩
 case a=>
  simp only [bl,reduceCtorEq] at h2
  omega
 case b=>
  simp only [bl,reduceCtorEq] at h2
  have:=q_0.2.2;exact ⟨rfl,by simp only [List.length_singleton];omega⟩
 case c|e=>
  simp only [bl,reduceCtorEq] at h2
  simp only [aC,aG] at *;omega
 case d=>
  simp only [bl,reduceCtorEq] at h2
  exact ⟨(x_0.1 + 1,_),⟨by omega,Iz q_0.2.1 (by omega) h2,by simp only [List.length_append,List.length_singleton];omega⟩,by simp only;omega,⟨by simp only;omega,rfl,trivial⟩,rfl,(by trivial)⟩
 case f=>
  simp only [bl,reduceCtorEq] at h2
  exact ⟨(x_0.1 + 1,x_0.2),⟨by omega,IA q_0.2.1 (by omega) h2,by simp only;omega⟩,by simp only;omega,⟨by simp only;omega,rfl,trivial⟩,rfl,(by trivial)⟩
theorem Tryz.Hu:cL Tryz.prog Tryz.B.eT Tryz.X 63 false (bM Tryz.bC [.obj 0, .d .str] (fun _ x=>x.1.1.length<=6) Tryz.po):=
 cn (X:=Tryz.X) (bY Tryz.bZ) Tryz.func63 (by kernel_rfl) (fun (a:CD [.obj 0, .d .str]) (x:PD Tryz.bC)=>xq a.1 x.1) (fun (a:CD [.obj 0, .d .str]) (x:PD Tryz.bC) hw hp=>Ht a.1 x.1 hw hp)
def Dg (f:RS):cy:=[(0,fun st=>{X:=Nat,inv:=fun i=>i<=f.1.length,aW:=fun i=>f.1.length - i,aQ:=fun i=>[(4,sI i),(3, .s (.one (.app .str ((f.1.take i).map eo) (aR st 3))))],aF:=fun i=>[(aR st 3, .tok .str ((f.1.take i).map eo))],aU:=[0,2],dq:=[aR st 3]})]
def Tryz.tl:List (Alt Tryz.bC [.obj 0]):=[{bV:=Tryz.bC,res:=[.d (.slice .str)],out:=fun _ x=>x,ret:=fun _ x=>(x.1.1.map eo,())}]
theorem LH (f:RS) (hw:hP [.obj 0] ()) (hp:(fun _ x=>x.1.1.length<=6) () (f,())):(dR Tryz.B [] Tryz.f67 (Dg f) Tryz.bC [.obj 0] Tryz.tl () (f,())).holds:=by
 refine holds_of (p:=
  let za:=List.length f.1
  let zb:=fun (x_0:Nat)=>(↑x_0:Int) < (↑(List.length f.1):Int)
  let zc:=fun (x_0:Nat)=>List.map eo (List.take x_0 f.1)
  let zd:=fun (x_0:Nat)=>zc x_0++[(nth cq f.1 x_0).1]
  (∃(x:Nat),x<=za/\((0:Int)=(↑x:Int)/\@List.nil (List UInt8)=List.map eo (List.take x f.1)/\True)/\@List.nil (List UInt8)=List.map eo (List.take x f.1)/\True)/\(∀x_0:Nat,((x_0<=za)->((List.length f.1<=aG)->(((decide (zb x_0))=true->((0:Int)<=(↑x_0:Int)/\zb x_0)/\(zc x_0=zc x_0/\List.length (zc x_0) + List.length [(nth cq f.1 x_0).1]<=(1000000000:Nat))/\((aC (↑x_0:Int))->((aC (1:Int))->(aC ((↑x_0:Int) + (1:Int)))/\(∃(x':Nat),x'<=za/\za - x' < za - x_0/\((↑x_0:Int) + (1:Int)=(↑x':Int)/\zd x_0=List.map eo (List.take x' f.1)/\True)/\zd x_0=List.map eo (List.take x' f.1)/\@List.nil (List UInt8) = @List.nil (List UInt8)/\(f.1=f.1/\f.2.1=f.2.1/\True)/\True))))/\((decide (zb x_0))=false->(True/\(f,())=(f,())/\(zc x_0,())=(List.map eo f.1,())))))))) (by kernel_rfl) ?_
 dsimp -iota -proj -eta only
 dsimp only at hp
 exact ⟨(⟨0,by omega,⟨rfl,rfl,trivial⟩,rfl,trivial⟩),fun x_0 q_0 h0=>iL (fun h1=>⟨(by omega),(by exact ⟨rfl,by simp only [List.length_map,List.length_take,List.length_singleton];omega⟩),fun h2 h3=>⟨(by simp only [aC,aG] at *;omega),(⟨x_0 + 1,by omega,by omega,⟨by omega,wT (by omega),trivial⟩,wT (by omega),(by trivial)⟩)⟩⟩) (fun h1=>(by rw [List.take_of_length_le (by omega)];exact ⟨trivial,rfl,rfl⟩))⟩
theorem Tryz.LI:cL Tryz.prog Tryz.B.eT Tryz.X 67 false (bM Tryz.bC [.obj 0] (fun _ x=>x.1.1.length<=6) Tryz.tl):=
 cn (X:=Tryz.X) (bY Tryz.bZ) Tryz.func67 (by kernel_rfl) (fun (a:CD [.obj 0]) (x:PD Tryz.bC)=>Dg x.1) (fun (a:CD [.obj 0]) (x:PD Tryz.bC) hw hp=>LH x.1 hw hp)
end Go.Proofs.YtgokjhhcfemnhaaGreatDoor

namespace Go.Proofs.YtgokjhhcfemnhaaGreatDoor
open Go.Vg Go.Mrl
noncomputable def Tryz.Hv (k:Nat):List (FuncId × (Bool × bQ)):=(129,(true,aM [.int .i64] [.str] (fun x=>(fun _=>True) x/\(fun n=>mD n) x < k) (fun n=>Lib.itoa n))) :: []
theorem Hw (k:Nat) (n:Int) (hw:c8 [.int .i64] n) (hp:(fun _=>True) n/\(fun n=>mD n) n < k + 1):(cp Tryz.B (Tryz.Hv k) Tryz.f129 [] [.int .i64] [.str] (fun x y=>y=(fun n=>Lib.itoa n) x) n).holds:=by
 refine holds_of (p:=
  let za:=Lib.itoa n
  let zb:=(0:Int) - n
  let zc:=[IntKind.wrap IntKind.u8 ((48:Int) + n)]
  let zd:=(10:Int)≠(0:Int)
  let ze:=fun (x_1:Int)=>List.length [IntKind.wrap IntKind.u8 ((48:Int) + x_1)]<=aG
  let zf:=fun (x_1:Int)=>bytesOf [IntKind.wrap IntKind.u8 ((48:Int) + x_1)]
  let zg:=fun (x_0:Int) (x_1:Int)=>(List.length (Lib.itoa x_0) + List.length (zf x_1)<=aG)/\(Lib.itoa x_0++zf x_1=za)
  (((decide (n < (0:Int)))=true->(((n == (-9223372036854775808:Int))=true->([(45:UInt8),57,50,50,51,51,55,50,48,51,54,56,53,52,55,55,53,56,48,56]=za))/\((n == (-9223372036854775808:Int))=false->((aC (0:Int))->((aC n)->(aC zb)/\(True/\mD zb < k)/\(List.length [(45:UInt8)] + List.length (Lib.itoa zb)<=aG)/\([(45:UInt8)]++Lib.itoa zb=za))))))/\((decide (n < (0:Int)))=false->(((decide (n < (10:Int)))=true->((aC (48:Int))->((aC n)->(aC ((48:Int) + n))/\(List.length zc<=aG)/\(bytesOf zc=za))))/\((decide (n < (10:Int)))=false->(zd)/\(∀x_0:Int,((x_0=Int.tdiv n (10:Int))->((aC n)->((aC (10:Int))->(aC x_0)/\(zd)/\(∀x_1:Int,((x_1=Int.tmod n (10:Int))->((aC (48:Int))->((aC x_1)->(aC ((48:Int) + x_1))/\((fun a0 a1:Prop=>a0/\a0/\a1) ((True/\mD x_0 < k)/\(ze x_1)/\(zg x_0 x_1)) ((ze x_1)/\(True/\mD x_0 < k)/\(zg x_0 x_1)))))))))))))))) (by kernel_rfl) ?_
 dsimp -iota -proj -eta only
 dsimp only at hp
 refine iL (fun h0=>iQ (fun h1=>(by rw [h1,KJ])) (fun h1 h2 h3=>⟨?a,(by have:=Nl h0;rw [Int.zero_sub];exact ⟨trivial,by omega⟩),(by unfold aC at h3;have:=Fi (n:=-n) (by omega) (by omega);rw [Int.zero_sub];simp only [List.length_cons,List.length_nil,aG];omega),(by rw [Int.zero_sub,yQ h0])⟩)) (fun h0=>iL (fun h1 h2 h3=>⟨?b,?c,(by rw [xR (by omega) (by omega),nO (by omega) (by omega)])⟩) (fun h1=>⟨?d,fun x_0 q_0 h2 h3=>⟨(by rw [q_0,Int.tdiv_eq_ediv_of_nonneg h0];unfold aC at *;omega),?e,fun x_1 q_1 h4 h5=>⟨(by rw [q_1,Int.tmod_eq_emod_of_nonneg h0];unfold aC at *;omega),(show ∀{a0 a1:Prop},a0->a1->a0/\a0/\a1 from fun g0 g1=>⟨g0,g0,g1⟩) (⟨?f,?g,?h,?i⟩) (⟨?j,?k,?l,?m⟩)⟩⟩⟩))
 case a|b=>simp only [aC,aG] at *;omega
 case c|g|j=>show 1<=aG;decide
 case d|e=>trivial
 case f|k=>rw [q_0,Int.tdiv_eq_ediv_of_nonneg h0];have:=Nn h1;exact ⟨trivial,by omega⟩
 case h|l=>rw [q_0,q_1,Int.tdiv_eq_ediv_of_nonneg h0,Int.tmod_eq_emod_of_nonneg h0,xR (by omega) (by omega)];have:=Fi (n:=n / 10) (by unfold aC at *;omega) (by unfold aC at *;omega);simp only [List.length_cons,List.length_nil,aG];omega
 case i|m=>rw [q_0,q_1,Int.tdiv_eq_ediv_of_nonneg h0,Int.tmod_eq_emod_of_nonneg h0,xR (by omega) (by omega),yR h1]
theorem Tryz.pq:∀k:Nat,bG Tryz.prog Tryz.B.eT Tryz.X 129 [.int .i64] [.str] (fun x=>(fun _=>True) x/\(fun n=>mD n) x < k) (fun x y=>y=(fun n=>Lib.itoa n) x)
 | 0=>⟨⟨Tryz.f129,Tryz.func129,by kernel_rfl,by kernel_rfl⟩,fun _ _ _ _ _ _ _ hp=>absurd hp.2 (Nat.not_lt_zero _)⟩
 | k + 1=>bI (X:=Tryz.X) (aS (aE (Tryz.pq k)) (bY Tryz.bZ)) Tryz.func129 (by kernel_rfl) (fun _=>[]) (fun x hw hp=>Hw k x hw hp)
theorem Tryz.Hx:bG Tryz.prog Tryz.B.eT Tryz.X 129 [.int .i64] [.str] (fun _=>True) (fun x y=>y=(fun n=>Lib.itoa n) x):=
 ⟨(Tryz.pq 0).1,fun O w x vs hG hO ha hp=>(Tryz.pq ((fun n=>mD n) x + 1)).2 O w x vs hG hO ha ⟨hp,Nat.lt_succ_self _⟩⟩
end Go.Proofs.YtgokjhhcfemnhaaGreatDoor

namespace Go.Proofs.YtgokjhhcfemnhaaGreatDoor
open Go.Vg Go.Mrl
noncomputable def Tryz.Ac:List (FuncId × (Bool × bQ)):=[(129,(true,aM [.int .i64] [.str] (fun _=>True) (fun n=>Lib.itoa n)))]
theorem Tryz.EA:bU Tryz.prog Tryz.B Tryz.X Tryz.Ac:=
 aS (aE Tryz.Hx) (bY Tryz.bZ)
def Ad (o:D aA):cy:=[
 (0,fun st=>{X:=Nat,inv:=fun i=>i<=o.1.length,aW:=fun i=>o.1.length - i,aQ:=fun i=>[(5,sI i),(4,sS (gh o i))],aU:=[1,2,3]}),
 (2,fun st=>{X:=Nat,inv:=fun i=>i<=o.2.1.length,aW:=fun i=>o.2.1.length - i,aQ:=fun i=>[(6,sI i),(4,sS (fL o i))],aU:=[1,2,3]}),
 (4,fun st=>{X:=Nat,inv:=fun i=>i<=o.2.2.1.length,aW:=fun i=>o.2.2.1.length - i,aQ:=fun i=>[(7,sI i),(4,sS (ew o i))],aU:=[1,2,3]}),
 (6,fun st=>{X:=Nat,inv:=fun i=>i<=o.2.2.2.1.length,aW:=fun i=>o.2.2.2.1.length - i,aQ:=fun i=>[(9,sI i),(4,sS (cR o i))],aU:=[1,2,3,8]})]
theorem JH (o:D aA) (hw:c8 [aA] o) (hp:(fun o=>bN o=0) o):(cp Tryz.B Tryz.Ac Tryz.f104 (Ad o) [aA] [.str, .int .i64] (fun x y=>y=(fun o=>gK o) x) o).holds:=by
 refine holds_of (p:=
  let za:=List.length o.1
  let zb:=fun (x_0:Nat)=>(↑x_0:Int)
  let zc:=[(110:UInt8),101,101,100,32]
  let zd:=fun (x_0:Nat)=>(0:Int)<=zb x_0
  let ze:=fun (x_0:Nat)=>gh o x_0++zc++nth Ty.str o.1 x_0
  let zf:=[(10:UInt8)]
  let zg:=List.length zf
  let zh:=fun (x_0:Nat)=>aC (zb x_0)
  let zi:=aC (1:Int)
  let zj:=fun (x_0:Nat)=>zb x_0 + (1:Int)
  let zk:=fun (x_0:Nat)=>aC (zj x_0)
  let zl:=o.2.1
  let zm:=o.2.2.1
  let zn:=o.2.2.2.1
  let zo:=(o.1=o.1/\zl=zl/\zm=zm/\zn=zn/\True)/\True
  let zp:=List.length zl
  let zq:=[(119:UInt8),111,114,100,32]
  let zr:=fun (x_1:Nat)=>fL o x_1++zq++Lib.itoa (nth (Ty.int IntKind.i64) zl x_1)
  let zs:=List.length zm
  let zt:=fun (x_2:Nat)=>zd x_2/\zb x_2 < (↑zs:Int)
  let zu:=[(119:UInt8),101,97,107,32]
  let zv:=[(115:UInt8),121,109,98,111,108,32]
  let zw:=fun (x_2:Nat)=>ew o x_2++zu++zv
  let zx:=fun (x_2:Nat)=>(nth aI zm x_2).1
  let zy:=[(32:UInt8)]
  let zz:=List.length zy
  let zaa:=fun (x_2:Nat)=>Lib.itoa (nth aI zm x_2).2.1
  let zab:=fun (x_2:Nat)=>zw x_2++zx x_2++zy++zaa x_2
  let zac:=fun (x_2:Nat)=>ew o x_2++zv++zx x_2
  let zad:=List.length zn
  let zae:=fun (x_3:Nat)=>List.length (cR o x_3)
  let zaf:=fun (x_3:Nat)=>(nth aJ zn x_3).2.1
  let zag:=[@List.nil UInt8,[(98:UInt8),97,115,101],[(119:UInt8),104,111,108,101],[(110:UInt8),101,97,114]]
  let zah:=fun (x_3:Nat)=>(0:Int)<=zaf x_3/\zaf x_3 < (↑(List.length zag):Int)
  let zai:=fun (x_3:Nat)=>nth Ty.str zag (Int.toNat (zaf x_3))
  let zaj:=fun (x_3:Nat)=>cR o x_3++zu++zai x_3
  let zak:=fun (x_3:Nat)=>Lib.itoa (nth aJ zn x_3).1
  let zal:=fun (x_3:Nat)=>zaj x_3++zy++zak x_3++zy
  let zam:=fun (x_3:Nat)=>Lib.itoa (nth aJ zn x_3).2.2.1
  let zan:=fun (x_3:Nat)=>zal x_3++zam x_3
  let zao:=fun (x_3:Nat)=>(nth aJ zn x_3).2.2.2.1
  let zap:=fun (x_3:Nat)=>cR o x_3++zai x_3++zy
  let zaq:=fun (x_3:Nat)=>zap x_3++zak x_3++zy++zam x_3
  (∃(x:Nat),x<=za/\((0:Int)=(↑x:Int)/\@List.nil UInt8=gh o x/\True)/\True)/\(∀x_0:Nat,((x_0<=za)->((za<=aG)->(((decide (zb x_0 < (↑za:Int)))=true->(List.length (gh o x_0) + List.length zc<=aG)/\(zd x_0/\zb x_0 < (↑za:Int))/\(List.length (gh o x_0++zc) + List.length (nth Ty.str o.1 x_0)<=aG)/\(List.length (ze x_0) + zg<=aG)/\((zh x_0)->((zi)->(zk x_0)/\(∃(x':Nat),x'<=za/\za - x' < za - x_0/\(zj x_0=(↑x':Int)/\ze x_0++zf=gh o x'/\True)/\zo))))/\((decide (zb x_0 < (↑za:Int)))=false->(∃(x:Nat),x<=zp/\((0:Int)=(↑x:Int)/\gh o x_0=fL o x/\True)/\True)/\(∀x_1:Nat,((x_1<=zp)->((zp<=aG)->(((decide (zb x_1 < (↑zp:Int)))=true->(List.length (fL o x_1) + List.length zq<=aG)/\(zd x_1/\zb x_1 < (↑zp:Int))/\(True)/\(List.length (fL o x_1++zq) + List.length (Lib.itoa (nth (Ty.int IntKind.i64) zl x_1))<=aG)/\(List.length (zr x_1) + zg<=aG)/\((zh x_1)->((zi)->(zk x_1)/\(∃(x':Nat),x'<=zp/\zp - x' < zp - x_1/\(zj x_1=(↑x':Int)/\zr x_1++zf=fL o x'/\True)/\zo))))/\((decide (zb x_1 < (↑zp:Int)))=false->(∃(x:Nat),x<=zs/\((0:Int)=(↑x:Int)/\fL o x_1=ew o x/\True)/\True)/\(∀x_2:Nat,((x_2<=zs)->((zs<=aG)->(((decide (zb x_2 < (↑zs:Int)))=true->(zt x_2)/\((((nth aI zm x_2).2.2.1)=true->(List.length (ew o x_2) + List.length zu<=aG)/\(List.length (ew o x_2++zu) + List.length zv<=aG)/\(zt x_2)/\(List.length (zw x_2) + List.length (zx x_2)<=aG)/\(List.length (zw x_2++zx x_2) + zz<=aG)/\(zt x_2)/\(True)/\(List.length (zw x_2++zx x_2++zy) + List.length (zaa x_2)<=aG)/\(List.length (zab x_2) + zg<=aG)/\((zh x_2)->((zi)->(zk x_2)/\(∃(x':Nat),x'<=zs/\zs - x' < zs - x_2/\(zj x_2=(↑x':Int)/\zab x_2++zf=ew o x'/\True)/\zo))))/\(((nth aI zm x_2).2.2.1)=false->(List.length (ew o x_2) + List.length zv<=aG)/\(zt x_2)/\(List.length (ew o x_2++zv) + List.length (zx x_2)<=aG)/\(List.length (zac x_2) + zz<=aG)/\(zt x_2)/\(True)/\(List.length (zac x_2++zy) + List.length (zaa x_2)<=aG)/\(List.length (zac x_2++zy++zaa x_2) + zg<=aG)/\((zh x_2)->((zi)->(zk x_2)/\(∃(x':Nat),x'<=zs/\zs - x' < zs - x_2/\(zj x_2=(↑x':Int)/\zac x_2++zy++zaa x_2++zf=ew o x'/\True)/\zo))))))/\((decide (zb x_2 < (↑zs:Int)))=false->(∃(x:Nat),x<=zad/\((0:Int)=(↑x:Int)/\ew o x_2=cR o x/\True)/\True)/\(∀x_3:Nat,((x_3<=zad)->((zad<=aG)->(((decide (zb x_3 < (↑zad:Int)))=true->(zd x_3/\zb x_3 < (↑zad:Int))/\((((nth aJ zn x_3).2.2.2.2.1)=true->(zae x_3 + List.length zu<=aG)/\(zah x_3)/\(List.length (cR o x_3++zu) + List.length (zai x_3)<=aG)/\(List.length (zaj x_3) + zz<=aG)/\(True)/\(List.length (zaj x_3++zy) + List.length (zak x_3)<=aG)/\(List.length (zaj x_3++zy++zak x_3) + zz<=aG)/\(True)/\(List.length (zal x_3) + List.length (zam x_3)<=aG)/\(((decide (zaf x_3 > (1:Int)))=true->(List.length (zan x_3) + zz<=aG)/\(List.length (zan x_3++zy) + List.length (zao x_3)<=aG)/\(List.length (zan x_3++zy++zao x_3) + zg<=aG)/\((zh x_3)->((zi)->(zk x_3)/\(∃(x':Nat),x'<=zad/\zad - x' < zad - x_3/\(zj x_3=(↑x':Int)/\zan x_3++zy++zao x_3++zf=cR o x'/\True)/\zo))))/\((decide (zaf x_3 > (1:Int)))=false->(List.length (zan x_3) + zg<=aG)/\((zh x_3)->((zi)->(zk x_3)/\(∃(x':Nat),x'<=zad/\zad - x' < zad - x_3/\(zj x_3=(↑x':Int)/\zan x_3++zf=cR o x'/\True)/\zo))))))/\(((nth aJ zn x_3).2.2.2.2.1)=false->(zah x_3)/\(zae x_3 + List.length (zai x_3)<=aG)/\(List.length (cR o x_3++zai x_3) + zz<=aG)/\(True)/\(List.length (zap x_3) + List.length (zak x_3)<=aG)/\(List.length (zap x_3++zak x_3) + zz<=aG)/\(True)/\(List.length (zap x_3++zak x_3++zy) + List.length (zam x_3)<=aG)/\(((decide (zaf x_3 > (1:Int)))=true->(List.length (zaq x_3) + zz<=aG)/\(List.length (zaq x_3++zy) + List.length (zao x_3)<=aG)/\(List.length (zaq x_3++zy++zao x_3) + zg<=aG)/\((zh x_3)->((zi)->(zk x_3)/\(∃(x':Nat),x'<=zad/\zad - x' < zad - x_3/\(zj x_3=(↑x':Int)/\zaq x_3++zy++zao x_3++zf=cR o x'/\True)/\zo))))/\((decide (zaf x_3 > (1:Int)))=false->(List.length (zaq x_3) + zg<=aG)/\((zh x_3)->((zi)->(zk x_3)/\(∃(x':Nat),x'<=zad/\zad - x' < zad - x_3/\(zj x_3=(↑x':Int)/\zaq x_3++zf=cR o x'/\True)/\zo))))))))/\((decide (zb x_3 < (↑zad:Int)))=false->((zae x_3<=aG)->(((decide ((↑(zae x_3):Int) > (1200:Int)))=true->(([],(2:Int))=gK o))/\((decide ((↑(zae x_3):Int) > (1200:Int)))=false->((cR o x_3,(0:Int))=gK o))))))))))))))))))))))))) (by kernel_rfl) ?_
 dsimp -iota -proj -eta only
 refine ⟨(⟨0,by omega,⟨rfl,rfl,trivial⟩,trivial⟩),fun x_0 q_0 h0=>iL (fun h1=>⟨?a,?b,?c,?d,fun h2 h3=>⟨?e,(⟨x_0 + 1,by omega,by omega,⟨by omega,N3 (by omega),trivial⟩,(by trivial)⟩)⟩⟩) (fun h1=>⟨(⟨0,by omega,⟨rfl,by rw [yW,show x_0=o.1.length by omega],trivial⟩,trivial⟩),fun x_1 q_1 h2=>iL (fun h3=>⟨?f,?g,trivial,?h,?i,fun h4 h5=>⟨?j,(⟨x_1 + 1,by omega,by omega,⟨by omega,N4 (by omega),trivial⟩,(by trivial)⟩)⟩⟩) (fun h3=>⟨(⟨0,by omega,⟨rfl,by rw [yX,show x_1=o.2.1.length by omega],trivial⟩,trivial⟩),fun x_2 q_2 h4=>iL (fun h5=>⟨?k,⟨fun h6=>⟨?l,?m,?n,?o,?p,?q,trivial,?r,?s,fun h7 h8=>⟨?t,(⟨x_2 + 1,by omega,by omega,⟨by omega,Nv (by omega) h6,trivial⟩,(by trivial)⟩)⟩⟩,fun h6=>⟨?u,?v,?w,?x,?y,trivial,?z,?a0,fun h7 h8=>⟨?a1,(⟨x_2 + 1,by omega,by omega,⟨by omega,Nw (by omega) h6,trivial⟩,(by trivial)⟩)⟩⟩⟩⟩) (fun h5=>⟨(⟨0,by omega,⟨rfl,by rw [yY,show x_2=o.2.2.1.length by omega],trivial⟩,trivial⟩),fun x_3 q_3 h6=>iL (fun h7=>⟨?a2,⟨fun h8=>⟨?a3,?a4,?a5,?a6,trivial,?a7,?a8,trivial,?a9,iL (fun h9=>⟨?aa,?ab,?ac,fun h10 h11=>⟨?ad,(⟨x_3 + 1,by omega,by omega,⟨by omega,Ns (by omega) (ee hp) h8 (Fj h9),trivial⟩,(by trivial)⟩)⟩⟩) (fun h9=>⟨?ae,fun h10 h11=>⟨?af,(absurd (h8.symm.trans (((ee hp).tie (i:=x_3) (by omega)).base (II (Int.not_lt.2 h9) ((ee hp).kind (by omega)))).2) (by decide))⟩⟩)⟩,fun h8=>⟨?ag,?ah,?ai,trivial,?aj,?ak,trivial,?al,iL (fun h9=>⟨?am,?an,?ao,fun h10 h11=>⟨?ap,(⟨x_3 + 1,by omega,by omega,⟨by omega,Nt (by omega) (ee hp) h8 (Fj h9),trivial⟩,(by trivial)⟩)⟩⟩) (fun h9=>⟨?aq,fun h10 h11=>⟨?ar,(⟨x_3 + 1,by omega,by omega,⟨by omega,Nu (by omega) (II (Int.not_lt.2 h9) ((ee hp).kind (by omega))),trivial⟩,(by trivial)⟩)⟩⟩)⟩⟩⟩) (fun h7 h8=>iL (fun h9=>(by rw [wY (show x_3=_ by omega) (by omega)])) (fun h9=>(by rw [qW (show x_3=_ by omega) (by omega)])))⟩)⟩)⟩)⟩
 case a|c|d=>have a:=sY (ee hp) (i:=x_0) (by omega);simp only [List.length_append,List.length_cons,List.length_nil,List.length_map,aG];omega
 case b|g|k|n|q|v|y|a2=>omega
 case e|j|t|a1|ad|af|ap|ar=>simp only [aC,aG] at *;omega
 case f|h|i=>have a:=sZ (ee hp) (i:=x_1) (by omega);simp only [List.length_append,List.length_cons,List.length_nil,List.length_map,aG];omega
 case l|m|o|p|r|s|u|w|x|z|a0=>have a:=vt (ee hp) (i:=x_2) (by omega);simp only [List.length_append,List.length_cons,List.length_nil,List.length_map,aG];omega
 case a3|a5|a6|a7|a8|a9|aa|ab|ac|ae|ah|ai|aj|ak|al|am|an|ao|aq=>have a:=vu (ee hp) (i:=x_3) (by omega);have b:=KM (Int.toNat (nth aJ o.2.2.2.1 x_3).2.1);simp only [List.length_append,List.length_cons,List.length_nil,List.length_map,aG];omega
 case a4|ag=>obtain ⟨a,b⟩:=(ee hp).kind (i:=x_3) (by omega);exact ⟨Int.le_trans (by decide) a,Int.lt_of_le_of_lt b (by decide)⟩
theorem Tryz.JI:bG Tryz.prog Tryz.B.eT Tryz.X 104 [aA] [.str, .int .i64] (fun o=>bN o=0) (fun x y=>y=(fun o=>gK o) x):=
 bI (X:=Tryz.X) Tryz.EA Tryz.func104 (by kernel_rfl) (fun x=>Ad x) (fun x hw hp=>JH x hw hp)
end Go.Proofs.YtgokjhhcfemnhaaGreatDoor

namespace Go.Proofs.YtgokjhhcfemnhaaGreatDoor
open Go.Vg Go.Mrl
def Ae (s:List UInt8):cy:=[(0,fun st=>{X:=Nat × List (List UInt8) × List UInt8,inv:=fun x=>eY 32 s x.1 x.2.1 x.2.2,aW:=fun x=>s.length - x.1,aQ:=fun x=>[(5,sI x.1),(3, .s (.one (.app .str x.2.1 (aR st 3)))),(4,sS x.2.2)],aF:=fun x=>[(aR st 3, .tok .str x.2.1)],aU:=[0,2],dq:=[aR st 3]})]
theorem JJ (s:List UInt8) (hw:c8 [.str] s) (hp:(fun s=>s.length<=1000000) s):(cp Tryz.B [] Tryz.f101 (Ae s) [.str] [.slice .str] (fun x y=>y=(fun s=>parts 32 s) x) s).holds:=by
 refine holds_of (p:=
  let za:=Nat × List (List UInt8) × List UInt8
  let zb:=List.length s
  let zc:=fun (x_0:Nat × List (List UInt8) × List UInt8)=>(↑x_0.1:Int)
  let zd:=fun (x_0:Nat × List (List UInt8) × List UInt8)=>x_0.2.1=x_0.2.1/\List.length x_0.2.1 + List.length [x_0.2.2]<=(1000000000:Nat)
  let ze:=aC (1:Int)
  let zf:=fun (x_0:Nat × List (List UInt8) × List UInt8)=>zc x_0 + (1:Int)
  let zg:=fun (x_0:Nat × List (List UInt8) × List UInt8)=>x_0.2.1++[x_0.2.2]
  let zh:=@List.nil (List UInt8) = @List.nil (List UInt8)/\True
  let zi:=fun (x_0:Nat × List (List UInt8) × List UInt8)=>List.drop x_0.1 (List.take (Int.toNat (zf x_0)) s)
  (∃(x:za),eY (32:UInt8) s (Prod.fst x) (Prod.snd x).1 (Prod.snd x).2/\((0:Int)=(↑(Prod.fst x):Int)/\@List.nil (List UInt8)=(Prod.snd x).1/\@List.nil UInt8=(Prod.snd x).2/\True)/\@List.nil (List UInt8)=(Prod.snd x).1/\True)/\(∀x_0:Nat × List (List UInt8) × List UInt8,((eY (32:UInt8) s x_0.1 x_0.2.1 x_0.2.2)->((zb<=aG)->(((decide (zc x_0 < (↑zb:Int)))=true->((0:Int)<=zc x_0/\zc x_0 < (↑zb:Int))/\((((↑(UInt8.toNat (bX s x_0.1)):Int) == (32:Int))=true->(zd x_0)/\((aC (zc x_0))->((ze)->(aC (zf x_0))/\(∃(x':za),eY (32:UInt8) s (Prod.fst x') (Prod.snd x').1 (Prod.snd x').2/\zb - Prod.fst x' < zb - x_0.1/\(zf x_0=(↑(Prod.fst x'):Int)/\zg x_0=(Prod.snd x').1/\@List.nil UInt8=(Prod.snd x').2/\True)/\zg x_0=(Prod.snd x').1/\zh))))/\(((↑(UInt8.toNat (bX s x_0.1)):Int) == (32:Int))=false->((aC (zc x_0))->((ze)->(aC (zf x_0))/\((0:Int)<=zc x_0/\zc x_0<=zf x_0/\zf x_0<=(↑zb:Int))/\(List.length x_0.2.2 + List.length (zi x_0)<=aG)/\((aC (zc x_0))->((ze)->(aC (zf x_0))/\(∃(x':za),eY (32:UInt8) s (Prod.fst x') (Prod.snd x').1 (Prod.snd x').2/\zb - Prod.fst x' < zb - x_0.1/\(zf x_0=(↑(Prod.fst x'):Int)/\x_0.2.1=(Prod.snd x').1/\x_0.2.2++zi x_0=(Prod.snd x').2/\True)/\x_0.2.1=(Prod.snd x').1/\zh))))))))/\((decide (zc x_0 < (↑zb:Int)))=false->(zd x_0)/\(zg x_0=parts (32:UInt8) s))))))) (by kernel_rfl) ?_
 dsimp -iota -proj -eta only
 refine ⟨(⟨(0,[],[]),eY.zero _ _,⟨rfl,rfl,rfl,trivial⟩,rfl,trivial⟩),fun x_0 q_0 h0=>iL (fun h1=>⟨?a,iQ (fun h2=>⟨?b,fun h3 h4=>⟨?c,(by exact ⟨(x_0.1 + 1,_,_),q_0.cut (by omega) (Fp (n:=32) h2 rfl),by simp only;omega,⟨by simp only;omega,rfl,rfl,trivial⟩,rfl,(by trivial)⟩)⟩⟩) (fun h2 h3 h4=>⟨?d,?e,(by have:=q_0.lx;have:=q_0.le;rw [xb (by omega)];simp only [List.length_singleton,aG];omega),fun h5 h6=>⟨?f,(by rw [xb (by omega)];exact ⟨(x_0.1 + 1,x_0.2.1,x_0.2.2++[bX s x_0.1]),q_0.more (by omega) (Fq (n:=32) h2 rfl),by simp only;omega,⟨by simp only;omega,rfl,rfl,trivial⟩,rfl,(by trivial)⟩)⟩⟩)⟩) (fun h1=>⟨?g,(q_0.done (by omega))⟩)⟩
 case a|e=>omega
 case b|g=>have:=q_0.len;have:=q_0.le;exact ⟨rfl,by simp only [List.length_singleton];omega⟩
 case c|d|f=>simp only [aC,aG] at *;omega
theorem Tryz.JK:bG Tryz.prog Tryz.B.eT Tryz.X 101 [.str] [.slice .str] (fun s=>s.length<=1000000) (fun x y=>y=(fun s=>parts 32 s) x):=
 bI (X:=Tryz.X) (bY Tryz.bZ) Tryz.func101 (by kernel_rfl) (fun x=>Ae x) (fun x hw hp=>JJ x hw hp)
def Af (s:List UInt8):cy:=[(0,fun st=>{X:=Nat × List (List UInt8) × Nat,inv:=fun x=>eZ 10 s x.1 x.2.1 x.2.2,aW:=fun x=>s.length - x.1,aQ:=fun x=>[(6,sI x.1),(4, .s (.one (.app .str x.2.1 (aR st 4)))),(5,sI x.2.2)],aF:=fun x=>[(aR st 4, .tok .str x.2.1)],aU:=[0,2,3],dq:=[aR st 4]})]
theorem JL (s:List UInt8) (hw:c8 [.str] s) (hp:(fun s=>s.length<=1000000) s):(cp Tryz.B [] Tryz.f100 (Af s) [.str] [.slice .str, .bool] (fun x y=>y=(fun s=>(iw s,s4 s)) x) s).holds:=by
 refine holds_of (p:=
  let za:=Nat × List (List UInt8) × Nat
  let zb:=List.length s
  let zc:=fun (x_0:Nat × List (List UInt8) × Nat)=>(↑x_0.1:Int)
  let zd:=(↑zb:Int)
  let ze:=fun (x_0:Nat × List (List UInt8) × Nat)=>(↑x_0.2.2:Int)
  let zf:=fun (x_0:Nat × List (List UInt8) × Nat)=>[List.drop x_0.2.2 (List.take x_0.1 s)]
  let zg:=aC (1:Int)
  let zh:=fun (x_0:Nat × List (List UInt8) × Nat)=>zc x_0 + (1:Int)
  let zi:=@List.nil (List UInt8) = @List.nil (List UInt8)/\True
  (∃(x:za),eZ (10:UInt8) s (Prod.fst x) (Prod.snd x).1 (Prod.snd x).2/\((0:Int)=(↑(Prod.fst x):Int)/\@List.nil (List UInt8)=(Prod.snd x).1/\(0:Int)=(↑(Prod.snd x).2:Int)/\True)/\@List.nil (List UInt8)=(Prod.snd x).1/\True)/\(∀x_0:Nat × List (List UInt8) × Nat,((eZ (10:UInt8) s x_0.1 x_0.2.1 x_0.2.2)->((zb<=aG)->(((decide (zc x_0 < zd))=true->((0:Int)<=zc x_0/\zc x_0 < zd)/\((((↑(UInt8.toNat (bX s x_0.1)):Int) == (10:Int))=true->((0:Int)<=ze x_0/\ze x_0<=zc x_0/\zc x_0<=zd)/\(x_0.2.1=x_0.2.1/\List.length x_0.2.1 + List.length (zf x_0)<=(1000000000:Nat))/\((aC (zc x_0))->((zg)->(aC (zh x_0))/\((aC (zc x_0))->((zg)->(aC (zh x_0))/\(∃(x':za),eZ (10:UInt8) s (Prod.fst x') (Prod.snd x').1 (Prod.snd x').2/\zb - Prod.fst x' < zb - x_0.1/\(zh x_0=(↑(Prod.fst x'):Int)/\x_0.2.1++zf x_0=(Prod.snd x').1/\zh x_0=(↑(Prod.snd x').2:Int)/\True)/\x_0.2.1++zf x_0=(Prod.snd x').1/\zi))))))/\(((↑(UInt8.toNat (bX s x_0.1)):Int) == (10:Int))=false->((aC (zc x_0))->((zg)->(aC (zh x_0))/\(∃(x':za),eZ (10:UInt8) s (Prod.fst x') (Prod.snd x').1 (Prod.snd x').2/\zb - Prod.fst x' < zb - x_0.1/\(zh x_0=(↑(Prod.fst x'):Int)/\x_0.2.1=(Prod.snd x').1/\ze x_0=(↑(Prod.snd x').2:Int)/\True)/\x_0.2.1=(Prod.snd x').1/\zi))))))/\((decide (zc x_0 < zd))=false->((zb<=aG)->((x_0.2.1,ze x_0 == zd)=(iw s,s4 s))))))))) (by kernel_rfl) ?_
 dsimp -iota -proj -eta only
 refine ⟨(⟨(0,[],0),eZ.zero _ _,⟨rfl,rfl,rfl,trivial⟩,rfl,trivial⟩),fun x_0 q_0 h0=>iL (fun h1=>⟨(by omega),iQ (fun h2=>⟨(by have:=q_0.fi;omega),(by have:=q_0.len;have:=q_0.le;exact ⟨rfl,by simp only [List.length_singleton];omega⟩),fun h3 h4=>⟨?a,fun h5 h6=>⟨?b,(by exact ⟨(x_0.1 + 1,_,x_0.1 + 1),q_0.cut (by omega) (Fp (n:=10) h2 rfl),by simp only;omega,⟨by simp only;omega,rfl,by simp only;omega,trivial⟩,rfl,(by trivial)⟩)⟩⟩⟩) (fun h2 h3 h4=>⟨?c,(by exact ⟨(x_0.1 + 1,x_0.2.1,x_0.2.2),q_0.more (by omega) (Fq (n:=10) h2 rfl),by simp only;omega,⟨by simp only;omega,rfl,rfl,trivial⟩,rfl,(by trivial)⟩)⟩)⟩) (fun h1 h2=>(by rw [show (iw s,s4 s)=pc s from rfl,<-q_0.done (by omega)];congr 1;rw [Bool.eq_iff_iff];simp;omega))⟩
 case a|b|c=>simp only [aC,aG] at *;omega
theorem Tryz.JM:bG Tryz.prog Tryz.B.eT Tryz.X 100 [.str] [.slice .str, .bool] (fun s=>s.length<=1000000) (fun x y=>y=(fun s=>(iw s,s4 s)) x):=
 bI (X:=Tryz.X) (bY Tryz.bZ) Tryz.func100 (by kernel_rfl) (fun x=>Af x) (fun x hw hp=>JL x hw hp)
def FL (s:List UInt8):cy:=[(0,fun st=>{X:=Nat,inv:=fun i=>i<=(cE s).length/\∀j,j < i->fA (bX (cE s) j)=true,aW:=fun i=>(cE s).length - i,aQ:=fun i=>[(6,sI i),(5,sI (gp ((cE s).take i)))],aU:=[0,4]})]
theorem Hy (s:List UInt8) (hw:c8 [.str] s):(cp Tryz.B [] Tryz.f102 (FL s) [.str] [.int .i64, .bool] (fun x y=>y=(fun s=>(pf s,mJ s)) x) s).holds:=by
 refine holds_of (p:=
  let za:=List.length s
  let zb:=za<=aG
  let zc:=(↑za:Int)
  let zd:=(0:Int)<=(0:Int)
  let ze:=zd/\(0:Int) < zc
  let zf:=(↑(UInt8.toNat (bX s (0:Nat))):Int)
  let zg:=List.drop (1:Nat) (List.take za s)
  let zh:=List.length zg<=aG
  let zi:=(↑(List.length zg):Int)
  let zj:=(pf s,mJ s)
  let zk:=((0:Int),false)=zj
  let zl:=decide (zc > (1:Int))
  let zm:=cE s
  let zn:=List.length zm
  let zo:=∃(x:Nat),(x<=zn/\∀(j:Nat),j < x->fA (bX zm j)=true)/\((0:Int)=(↑x:Int)/\(0:Int)=(↑(gp (List.take x zm)):Int)/\True)/\True
  let zp:=fun (x_0:Nat)=>x_0<=zn/\∀(j:Nat),j < x_0->fA (bX zm j)=true
  let zq:=fun (x_0:Nat)=>(0:Int)<=(↑x_0:Int)/\(↑x_0:Int) < zi
  let zr:=fun (x_0:Nat)=>(↑(UInt8.toNat (bX zg x_0)):Int)
  let zs:=fun (x_0:Nat)=>(↑(gp (List.take x_0 zm)):Int)
  let zt:=fun (x_1:Int) (x_2:Int) (x_0:Nat)=>((aC x_1)->((aC x_2)->(aC (x_1 + x_2))/\((aC (↑x_0:Int))->((aC (1:Int))->(aC ((↑x_0:Int) + (1:Int)))/\(∃(x':Nat),(x'<=zn/\∀(j:Nat),j < x'->fA (bX zm j)=true)/\zn - x' < zn - x_0/\((↑x_0:Int) + (1:Int)=(↑x':Int)/\x_1 + x_2=(↑(gp (List.take x' zm)):Int)/\True)/\True)))))
  let zu:=fun (x_0:Nat)=>((aC (0:Int))->((aC (zs x_0))->(aC ((0:Int) - zs x_0))/\(((0:Int) - zs x_0,true)=zj)))
  let zv:=(zo)/\(∀x_0:Nat,((zp x_0)->((zh)->(((decide ((↑x_0:Int) < zi))=true->(zq x_0)/\(((decide (zr x_0 < (48:Int)))=true->(zk))/\((decide (zr x_0 < (48:Int)))=false->(zq x_0)/\(((decide (zr x_0 > (57:Int)))=true->(zk))/\((decide (zr x_0 > (57:Int)))=false->(∀x_1:Int,((x_1=(10:Int) * zs x_0)->((aC (10:Int))->((aC (zs x_0))->(aC x_1)/\(zq x_0)/\(∀x_2:Int,((x_2=IntKind.wrap IntKind.u8 (zr x_0 - (48:Int)))->(zt x_1 x_2 x_0))))))))))))/\((decide ((↑x_0:Int) < zi))=false->((zh)->((zb)->(((decide (zi < zc))=true->(zu x_0))/\((decide (zi < zc))=false->((zs x_0,true)=zj))))))))))
  let zw:=fun (x_0:Nat)=>(0:Int)<=(↑x_0:Int)/\(↑x_0:Int) < zc
  let zx:=fun (x_0:Nat)=>(↑(UInt8.toNat (bX s x_0)):Int)
  let zy:=(zo)/\(∀x_0:Nat,((zp x_0)->((zb)->(((decide ((↑x_0:Int) < zc))=true->(zw x_0)/\(((decide (zx x_0 < (48:Int)))=true->(zk))/\((decide (zx x_0 < (48:Int)))=false->(zw x_0)/\(((decide (zx x_0 > (57:Int)))=true->(zk))/\((decide (zx x_0 > (57:Int)))=false->(∀x_1:Int,((x_1=(10:Int) * zs x_0)->((aC (10:Int))->((aC (zs x_0))->(aC x_1)/\(zw x_0)/\(∀x_2:Int,((x_2=IntKind.wrap IntKind.u8 (zx x_0 - (48:Int)))->(zt x_1 x_2 x_0))))))))))))/\((decide ((↑x_0:Int) < zc))=false->((zb)->((zb)->(((decide (zc < zc))=true->(zu x_0))/\((decide (zc < zc))=false->((zs x_0,true)=zj))))))))))
  let zz:=((zb)->(((decide (zc < (1:Int)))=true->(zk))/\((decide (zc < (1:Int)))=false->((zb)->(((decide (zc > (18:Int)))=true->(zk))/\((decide (zc > (18:Int)))=false->(ze)/\(((zf == (48:Int))=true->((zb)->(((zl)=true->(zk))/\((zl)=false->(zy)))))/\((zf == (48:Int))=false->(zy)))))))))
  ((zb)->(((decide (zc > (0:Int)))=true->(ze)/\(((zf == (45:Int))=true->((0:Int)<=(1:Int)/\(1:Int)<=zc/\zc<=zc)/\((zh)->(((decide (zi < (1:Int)))=true->(zk))/\((decide (zi < (1:Int)))=false->((zh)->(((decide (zi > (18:Int)))=true->(zk))/\((decide (zi > (18:Int)))=false->(zd/\(0:Int) < zi)/\((((↑(UInt8.toNat (bX zg (0:Nat))):Int) == (48:Int))=true->((zb)->(((zl)=true->(zk))/\((zl)=false->(zv)))))/\(((↑(UInt8.toNat (bX zg (0:Nat))):Int) == (48:Int))=false->(zv))))))))))/\((zf == (45:Int))=false->(zz))))/\((decide (zc > (0:Int)))=false->(zz))))) (by kernel_rfl) ?_
 dsimp -iota -proj -eta only
 refine fun h0=>iL (fun h1=>⟨?a,iQ (fun h2=>⟨?b,fun h3=>iL (fun h4 => ?c) (fun h4 h5=>iL (fun h6 => ?d) (fun h6=>⟨?e,iQ (fun h7 h8=>iL (fun h9 => ?f) (fun h9=>⟨?g,fun x_0 q_0 h10=>iL (fun h11=>⟨?h,iL (fun h12 => ?i) (fun h12=>⟨?j,iL (fun h13 => ?k) (fun h13 x_1 q_1 h14 h15=>⟨?l,?m,fun x_2 q_2 h16 h17=>⟨?n,fun h18 h19=>⟨?o,?p⟩⟩⟩)⟩)⟩) (fun h11 h12 h13=>iL (fun h14 h15 h16=>⟨?q,?r⟩) (fun h14 => ?s))⟩)) (fun h7=>⟨?t,fun x_0 q_0 h8=>iL (fun h9=>⟨?u,iL (fun h10 => ?v) (fun h10=>⟨?w,iL (fun h11 => ?x) (fun h11 x_1 q_1 h12 h13=>⟨?y,?z,fun x_2 q_2 h14 h15=>⟨?a0,fun h16 h17=>⟨?a1,?a2⟩⟩⟩)⟩)⟩) (fun h9 h10 h11=>iL (fun h12 h13 h14=>⟨?a3,?a4⟩) (fun h12 => ?a5))⟩)⟩))⟩) (fun h2 h3=>iL (fun h4 => ?a6) (fun h4 h5=>iL (fun h6 => ?a7) (fun h6=>⟨?a8,iQ (fun h7 h8=>iL (fun h9 => ?a9) (fun h9=>⟨?aa,fun x_0 q_0 h10=>iL (fun h11=>⟨?ab,iL (fun h12 => ?ac) (fun h12=>⟨?ad,iL (fun h13 => ?ae) (fun h13 x_1 q_1 h14 h15=>⟨?af,?ag,fun x_2 q_2 h16 h17=>⟨?ah,fun h18 h19=>⟨?ai,?aj⟩⟩⟩)⟩)⟩) (fun h11 h12 h13=>iL (fun h14 h15 h16=>⟨?ak,?al⟩) (fun h14 => ?am))⟩)) (fun h7=>⟨?an,fun x_0 q_0 h8=>iL (fun h9=>⟨?ao,iL (fun h10 => ?ap) (fun h10=>⟨?aq,iL (fun h11 => ?ar) (fun h11 x_1 q_1 h12 h13=>⟨?au,?av,fun x_2 q_2 h14 h15=>⟨?aw,fun h16 h17=>⟨?ax,?ay⟩⟩⟩)⟩)⟩) (fun h9 h10 h11=>iL (fun h12 h13 h14=>⟨?az,?b0⟩) (fun h12 => ?b1))⟩)⟩)))⟩) (fun h1 h2=>iL (fun h3 => ?b2) (fun h3 h4=>iL (fun h5 => ?b3) (fun h5=>⟨?b4,iQ (fun h6 h7=>iL (fun h8 => ?b5) (fun h8=>⟨?b6,fun x_0 q_0 h9=>iL (fun h10=>⟨?b7,iL (fun h11 => ?b8) (fun h11=>⟨?b9,iL (fun h12 => ?ba) (fun h12 x_1 q_1 h13 h14=>⟨?bb,?bc,fun x_2 q_2 h15 h16=>⟨?bd,fun h17 h18=>⟨?be,?bf⟩⟩⟩)⟩)⟩) (fun h10 h11 h12=>iL (fun h13 h14 h15=>⟨?bg,?bh⟩) (fun h13 => ?bi))⟩)) (fun h6=>⟨?bj,fun x_0 q_0 h7=>iL (fun h8=>⟨?bk,iL (fun h9 => ?bl) (fun h9=>⟨?bm,iL (fun h10 => ?bn) (fun h10 x_1 q_1 h11 h12=>⟨?bo,?bp,fun x_2 q_2 h13 h14=>⟨?bq,fun h15 h16=>⟨?br,?bs⟩⟩⟩)⟩)⟩) (fun h8 h9 h10=>iL (fun h11 h12 h13=>⟨?bt,?bu⟩) (fun h11 => ?bv))⟩)⟩)))
 case a|e|a8|b4=>trivial
 case b|h|j|m|u|w|z|ab|ad|ag|ao|aq|av|b7|b9|bc|bk|bm|bp=>omega
 case c|d|f|i|k|v|x|a6|a7|a9|ac|ae|ap|ar|b2|b3|b5|b8|ba|bl|bn=>(first | have hm:=w8 h1 h2 | have hm:=w9 h2 | have hm:=xa h1);first | exact KR hm (by omega) | exact IT hm (by omega) (by assumption) (by omega) | exact KS hm (i:=x_0) (by omega) (by omega)
 case g|t|aa|an|b6|bj=>exact ⟨0,⟨by omega,fun j hj=>by omega⟩,⟨rfl,rfl,trivial⟩,trivial⟩
 case l|y|af|au|bb|bo=>(first | have hm:=w8 h1 h2 | have hm:=w9 h2 | have hm:=xa h1);have hi:x_0 < (cE s).length:=(by rw [hm];omega);have hs:=uF (s:=cE s) (i:=x_0) hi (by rw [hm];omega) q_0.2;simp only [aC];omega
 case n|a0|ah|aw|bd|bq=>(first | have hm:=w8 h1 h2 | have hm:=w9 h2 | have hm:=xa h1);have hi:x_0 < (cE s).length:=(by rw [hm];omega);have hs:=uF (s:=cE s) (i:=x_0) hi (by rw [hm];omega) q_0.2;have hn:=Cm hm (i:=x_0) (by omega) (by assumption) (by assumption) q_1 q_2;simp only [aC];omega
 case o|q|a1|a3|ai|ak|ax|az|be|bg|br|bt=>simp only [aC] at *;omega
 case p|a2|aj|ay|bf|bs=>
  (first | have hm:=w8 h1 h2 | have hm:=w9 h2 | have hm:=xa h1)
  have hi:x_0 < (cE s).length:=(by rw [hm];omega)
  exact ⟨x_0 + 1,⟨by omega,ja q_0.2 (by rw [hm];exact KT (by assumption) (by assumption))⟩,by omega,⟨by omega,(Cm hm (i:=x_0) (by omega) (by assumption) (by assumption) q_1 q_2).1,trivial⟩,(by trivial)⟩
 case r|s|a4|a5|al|am|b0|b1|bh|bi|bu|bv=>(first | have hm:=w8 h1 h2 | have hm:=w9 h2 | have hm:=xa h1);first | exact KU hm (by omega) (by omega) (by first | (intro;omega) | (intro h;exact absurd h (by assumption))) (i:=x_0) (by omega) q_0.2 (by omega) | exact KV hm (by omega) (by omega) (by first | (intro;omega) | (intro h;exact absurd h (by assumption))) (i:=x_0) (by omega) q_0.2 (by omega)
theorem Tryz.Hz:bG Tryz.prog Tryz.B.eT Tryz.X 102 [.str] [.int .i64, .bool] (fun _=>True) (fun x y=>y=(fun s=>(pf s,mJ s)) x):=
 bI (X:=Tryz.X) (bY Tryz.bZ) Tryz.func102 (by kernel_rfl) (fun x=>FL x) (fun x hw hp=>Hy x hw)
end Go.Proofs.YtgokjhhcfemnhaaGreatDoor

namespace Go.Proofs.YtgokjhhcfemnhaaGreatDoor
open Go.Vg Go.Mrl
noncomputable def Tryz.JN:List (FuncId × (Bool × bQ)):=[(101,(true,aM [.str] [.slice .str] (fun s=>s.length<=1000000) (fun s=>parts 32 s))),
 (100,(true,aM [.str] [.slice .str, .bool] (fun s=>s.length<=1000000) (fun s=>(iw s,s4 s)))),
 (102,(true,aM [.str] [.int .i64, .bool] (fun _=>True) (fun s=>(pf s,mJ s)))),
 (103,(true,aM [aA] [.int .i64] (fun _=>True) (fun o=>bN o))),
 (104,(true,aM [aA] [.str, .int .i64] (fun o=>bN o=0) (fun o=>gK o)))]
theorem Tryz.LJ:bU Tryz.prog Tryz.B Tryz.X Tryz.JN:=
 aS (aE Tryz.JK) (aS (aE Tryz.JM) (aS (aE Tryz.Hz) (aS (aE Tryz.Jl) (aS (aE Tryz.JI) (bY Tryz.bZ)))))
def JO (s:List UInt8):cy:=[
 (0,fun st=>{X:=Nat × D aA,inv:=fun x=>gS (iw s) x.1 x.2,aW:=fun x=>(iw s).length - x.1,aQ:=fun x=>[(7,sI x.1)],aU:=[0,2,4,6],aF:=fun x=>[(aR st 6, .cells 88 [.app .str x.2.1 (kr st (aR st 6) 0), .app (.int .i64) x.2.2.1 (kr st (aR st 6) 1), .app aI x.2.2.2.1 (kr st (aR st 6) 2), .app aJ x.2.2.2.2.1 (kr st (aR st 6) 3)]),(kr st (aR st 6) 0, .tok .str x.2.1),(kr st (aR st 6) 1, .tok (.int .i64) x.2.2.1),(kr st (aR st 6) 2, .tok aI x.2.2.2.1),(kr st (aR st 6) 3, .tok aJ x.2.2.2.2.1)],dq:=[aR st 6,kr st (aR st 6) 0,kr st (aR st 6) 1,kr st (aR st 6) 2,kr st (aR st 6) 3]}),
 (300010,fun st=>{X:=List (List UInt8),inv:=fun w=>w=parts 32 (nth .str (iw s) (Int.toNat (aX (.int .i64) st 7))),aW:=fun _=>0,aQ:=fun w=>[(8,sD (.slice .str) w)],aU:=[0,2,3,4,6,7,29,30,31,32]}),
 (400013,fun st=>{X:=List (List UInt8),inv:=fun w=>∀o:D aA,gk o (nth .str (iw s) (Int.toNat (aX (.int .i64) st 7)))=eD o (nth .str (aX (.slice .str) st 8) 0 == jH) w,aW:=fun _=>0,aQ:=fun w=>[(8,sD (.slice .str) w)],aU:=[0,2,3,4,6,7,9,29,30,31,32,35,36,37,38,39,40,41,42,43,44]}),
 (2,fun st=>{X:=Nat,inv:=fun k=>1<=k/\k<=3/\(k=1\/k<=List.length (aX (.slice .str) st 8)),aW:=fun k=>3 - k,aQ:=fun k=>[(11,sI k),(10, .s (.one (.app (.int .i64) (cN (aX (.slice .str) st 8) k) (aR st 10))))],aF:=fun k=>[(aR st 10, .tok (.int .i64) (cN (aX (.slice .str) st 8) k))],aU:=[0,2,3,4,6,7,8,9,29,30,31,32,35,36,37,38,39,40,41,42,43,44,45,46],dq:=[aR st 10]}),
 (300016,fun st=>{X:=Bool,inv:=fun c=>c=true ↔ ((aX (.int .i64) st 11) < List.length (aX (.slice .str) st 8)/\(aX (.int .i64) st 11) < 3),aW:=fun _=>0,aQ:=fun c=>[(54,sB c)],aU:=[0,2,3,4,6,7,8,9,10,11,29,30,31,32,35,36,37,38,39,40,41,42,43,44,45,46]}),
 (300023,fun st=>{X:=Bool,inv:=fun c=>c=true ↔ (List.length (aX (.slice .str) st 8)=2/\nth .str (aX (.slice .str) st 8) 0=dK),aW:=fun _=>0,aQ:=fun c=>[(72,sB c)],aU:=[0,2,3,4,6,7,8,9,10,11,12,13,29,30,31,32,35,36,37,38,39,40,41,42,43,44,45,46,47,48,49,50,51,52,53,54,55,56,57,58,59,60,61,62,63,64,65,66,67,68,69,70]}),
 (300025,fun st=>{X:=Bool,inv:=fun c=>c=true ↔ (List.length (aX (.slice .str) st 8)=2/\nth .str (aX (.slice .str) st 8) 0=dC),aW:=fun _=>0,aQ:=fun c=>[(90,sB c)],aU:=[0,2,3,4,6,7,8,9,10,11,12,13,29,30,31,32,35,36,37,38,39,40,41,42,43,44,45,46,47,48,49,50,51,52,53,54,55,56,57,58,59,60,61,62,63,64,65,66,67,68,69,70,72,73,74,75,76,77,78,79,80,81,82,83,84,85,86,87,88,89]}),
 (300027,fun st=>{X:=Bool,inv:=fun c=>c=true ↔ (List.length (aX (.slice .str) st 8)=3/\nth .str (aX (.slice .str) st 8) 0=cW),aW:=fun _=>0,aQ:=fun c=>[(108,sB c)],aU:=[0,2,3,4,6,7,8,9,10,11,12,13,29,30,31,32,35,36,37,38,39,40,41,42,43,44,45,46,47,48,49,50,51,52,53,54,55,56,57,58,59,60,61,62,63,64,65,66,67,68,69,70,72,73,74,75,76,77,78,79,80,81,82,83,84,85,86,87,88,89,90,91,92,93,94,95,96,97,98,99,100,101,102,103,104,105,106,107]}),
 (300029,fun st=>{X:=Bool,inv:=fun c=>c=true ↔ (List.length (aX (.slice .str) st 8)=3/\nth .str (aX (.slice .str) st 8) 0=fh),aW:=fun _=>0,aQ:=fun c=>[(131,sB c)],aU:=[0,2,3,4,6,7,8,9,10,11,12,13,29,30,31,32,35,36,37,38,39,40,41,42,43,44,45,46,47,48,49,50,51,52,53,54,55,56,57,58,59,60,61,62,63,64,65,66,67,68,69,70,72,73,74,75,76,77,78,79,80,81,82,83,84,85,86,87,88,89,90,91,92,93,94,95,96,97,98,99,100,101,102,103,104,105,106,107,108,109,110,111,112,113,114,115,116,117,118,119,120,121,122,123,124,125,126,127,128,129,130]}),
 (300031,fun st=>{X:=Bool,inv:=fun c=>c=true ↔ (List.length (aX (.slice .str) st 8)=4/\nth .str (aX (.slice .str) st 8) 0=dV),aW:=fun _=>0,aQ:=fun c=>[(154,sB c)],aU:=[0,2,3,4,6,7,8,9,10,11,12,13,29,30,31,32,35,36,37,38,39,40,41,42,43,44,45,46,47,48,49,50,51,52,53,54,55,56,57,58,59,60,61,62,63,64,65,66,67,68,69,70,72,73,74,75,76,77,78,79,80,81,82,83,84,85,86,87,88,89,90,91,92,93,94,95,96,97,98,99,100,101,102,103,104,105,106,107,108,109,110,111,112,113,114,115,116,117,118,119,120,121,122,123,124,125,126,127,128,129,130,131,132,133,134,135,136,137,138,139,140,141,142,143,144,145,146,147,148,149,150,151,152,153]}),
 (300033,fun st=>{X:=Bool,inv:=fun c=>c=true ↔ (List.length (aX (.slice .str) st 8)=4/\nth .str (aX (.slice .str) st 8) 0=eG),aW:=fun _=>0,aQ:=fun c=>[(180,sB c)],aU:=[0,2,3,4,6,7,8,9,10,11,12,13,29,30,31,32,35,36,37,38,39,40,41,42,43,44,45,46,47,48,49,50,51,52,53,54,55,56,57,58,59,60,61,62,63,64,65,66,67,68,69,70,72,73,74,75,76,77,78,79,80,81,82,83,84,85,86,87,88,89,90,91,92,93,94,95,96,97,98,99,100,101,102,103,104,105,106,107,108,109,110,111,112,113,114,115,116,117,118,119,120,121,122,123,124,125,126,127,128,129,130,131,132,133,134,135,136,137,138,139,140,141,142,143,144,145,146,147,148,149,150,151,152,153,154,155,156,157,158,159,160,161,162,163,164,165,166,167,168,169,170,171,172,173,174,175,176,177,178,179]})]
theorem Dh (s:List UInt8) (hw:c8 [.str] s):(cp Tryz.B Tryz.JN Tryz.f70 (JO s) [.str] [aA, .int .i64] (fun x y=>y=(fun s=>ck s) x) s).holds:=by
 refine holds_of (p:=
  let za:=List.length s
  let zb:=([],[],[],[],())
  let zc:=(zb,(4:Int))=ck s
  let zd:=List UInt8
  let ze:=List zd
  let zf:=ze × List Int × List (zd × Int × Bool × Unit) × List (Int × Int × Int × zd × Bool × Unit) × Unit
  let zg:=Nat × zf
  let zh:=iw s
  let zi:=fun (x_0:Nat × List (List UInt8) × List Int × List (List UInt8 × Int × Bool × Unit) × List (Int × Int × Int × List UInt8 × Bool × Unit) × Unit)=>(↑x_0.1:Int) < (↑(List.length zh):Int)
  let zj:=fun (x_0:Nat × List (List UInt8) × List Int × List (List UInt8 × Int × Bool × Unit) × List (Int × Int × Int × List UInt8 × Bool × Unit) × Unit)=>nth Ty.str zh x_0.1
  let zk:=fun (x_0:Nat × List (List UInt8) × List Int × List (List UInt8 × Int × Bool × Unit) × List (Int × Int × Int × List UInt8 × Bool × Unit) × Unit)=>parts (32:UInt8) (zj x_0)
  let zl:=fun (x_0:Nat × List (List UInt8) × List Int × List (List UInt8 × Int × Bool × Unit) × List (Int × Int × Int × List UInt8 × Bool × Unit) × Unit)=>x_0.2.1=x_0.2.1
  let zm:=fun (x_0:Nat × List (List UInt8) × List Int × List (List UInt8 × Int × Bool × Unit) × List (Int × Int × Int × List UInt8 × Bool × Unit) × Unit)=>x_0.2.2.1
  let zn:=fun (x_0:Nat × List (List UInt8) × List Int × List (List UInt8 × Int × Bool × Unit) × List (Int × Int × Int × List UInt8 × Bool × Unit) × Unit)=>x_0.2.2.2.1
  let zo:=fun (x_0:Nat × List (List UInt8) × List Int × List (List UInt8 × Int × Bool × Unit) × List (Int × Int × Int × List UInt8 × Bool × Unit) × Unit)=>x_0.2.2.2.2.1
  let zp:=fun (x_0:Nat × List (List UInt8) × List Int × List (List UInt8 × Int × Bool × Unit) × List (Int × Int × Int × List UInt8 × Bool × Unit) × Unit)=>zo x_0=zo x_0
  let zq:=@List.nil (Int × Int × Int × List UInt8 × Bool × Unit) = @List.nil (Int × Int × Int × List UInt8 × Bool × Unit)
  let zr:=@List.nil (List UInt8 × Int × Bool × Unit) = @List.nil (List UInt8 × Int × Bool × Unit)
  let zs:=@List.nil Int = @List.nil Int
  let zt:=@List.nil (List UInt8) = @List.nil (List UInt8)
  let zu:=zq/\zr/\zs/\zt/\(zt/\zs/\zr/\zq/\True)/\zq/\zr/\zs/\zt/\True
  let zv:=fun (x_0:Nat × List (List UInt8) × List Int × List (List UInt8 × Int × Bool × Unit) × List (Int × Int × Int × List UInt8 × Bool × Unit) × Unit)=>(zl x_0/\zm x_0=zm x_0/\zn x_0=zn x_0/\zp x_0/\True)/\zl x_0/\zm x_0=zm x_0/\zn x_0=zn x_0/\zp x_0/\zu
  let zw:=(0:Int)<=(0:Int)
  let zx:=fun (x_1:List (List UInt8))=>List.length x_1
  let zy:=fun (x_1:List (List UInt8))=>(↑(zx x_1):Int)
  let zz:=fun (x_1:List (List UInt8))=>zw/\(0:Int) < zy x_1
  let zaa:=fun (x_1:List (List UInt8))=>nth Ty.str x_1 (0:Nat)
  let zab:=fun (x_1:List (List UInt8))=>zaa x_1 == [(119:UInt8),101,97,107]
  let zac:=(0:Int)<=(1:Int)
  let zad:=fun (x_2:List (List UInt8))=>zx x_2<=aG
  let zae:=fun (x_3:Nat) (x_2:List (List UInt8))=>(↑x_3:Int) < zy x_2/\(↑x_3:Int) < (3:Int)
  let zaf:=fun (x_2:List (List UInt8)) (x_3:Nat)=>cN x_2 x_3=cN x_2 x_3
  let zag:=fun (x_2:List (List UInt8)) (x_3:Nat) (x_0:Nat × List (List UInt8) × List Int × List (List UInt8 × Int × Bool × Unit) × List (Int × Int × Int × List UInt8 × Bool × Unit) × Unit)=>zaf x_2 x_3/\zv x_0
  let zah:=aC (1:Int)
  let zai:=fun (x_3:Nat)=>(↑x_3:Int) + (1:Int)
  let zaj:=fun (x_2:List (List UInt8))=>zx x_2=(2:Nat)/\zaa x_2=dK
  let zak:=fun (x_0:Nat × List (List UInt8) × List Int × List (List UInt8 × Int × Bool × Unit) × List (Int × Int × Int × List UInt8 × Bool × Unit) × Unit)=>aC (↑x_0.1:Int)
  let zal:=fun (x_0:Nat × List (List UInt8) × List Int × List (List UInt8 × Int × Bool × Unit) × List (Int × Int × Int × List UInt8 × Bool × Unit) × Unit)=>(↑x_0.1:Int) + (1:Int)
  let zam:=fun (x_0:Nat × List (List UInt8) × List Int × List (List UInt8 × Int × Bool × Unit) × List (Int × Int × Int × List UInt8 × Bool × Unit) × Unit)=>aC (zal x_0)
  let zan:=List.length zh
  let zao:=fun (x_0:Nat × List (List UInt8) × List Int × List (List UInt8 × Int × Bool × Unit) × List (Int × Int × Int × List UInt8 × Bool × Unit) × Unit)=>zan - x_0.1
  let zap:=fun (x_2:List (List UInt8))=>zx x_2=(2:Nat)/\zaa x_2=dC
  let zaq:=fun (x_2:List (List UInt8)) (x_3:Nat)=>zw/\(0:Int) < (↑(List.length (cN x_2 x_3)):Int)
  let zar:=fun (x_2:List (List UInt8)) (x_3:Nat)=>nth (Ty.int IntKind.i64) (cN x_2 x_3) (0:Nat)
  let zas:=fun (x_2:List (List UInt8))=>zx x_2=(3:Nat)/\zaa x_2=cW
  let zat:=fun (x_2:List (List UInt8)) (x_3:Nat)=>zac/\(1:Int) < (↑(List.length (cN x_2 x_3)):Int)
  let zau:=fun (x_2:List (List UInt8)) (x_3:Nat)=>nth (Ty.int IntKind.i64) (cN x_2 x_3) (1:Nat)
  let zav:=fun (x_2:List (List UInt8))=>zx x_2=(3:Nat)/\zaa x_2=fh
  let zaw:=fun (x_2:List (List UInt8)) (x_3:Nat) (x_1:List (List UInt8))=>[(zar x_2 x_3,(1:Int),zau x_2 x_3,@List.nil UInt8,zab x_1,())]
  let zax:=fun (x_2:List (List UInt8))=>zx x_2=(4:Nat)/\zaa x_2=dV
  let zay:=fun (x_2:List (List UInt8))=>(0:Int)<=(3:Int)/\(3:Int) < zy x_2
  let zaz:=fun (x_2:List (List UInt8)) (x_3:Nat) (x_1:List (List UInt8))=>[(zar x_2 x_3,(2:Int),zau x_2 x_3,nth Ty.str x_2 (3:Nat),zab x_1,())]
  let zba:=fun (x_2:List (List UInt8))=>zx x_2=(4:Nat)/\zaa x_2=eG
  let zbb:=fun (x_2:List (List UInt8)) (x_3:Nat) (x_1:List (List UInt8))=>[(zar x_2 x_3,(3:Int),zau x_2 x_3,nth Ty.str x_2 (3:Nat),zab x_1,())]
  ((za<=aG)->(((decide ((↑za:Int) > (1200:Int)))=true->((zb,(2:Int))=ck s))/\((decide ((↑za:Int) > (1200:Int)))=false->(za<=(1000000:Nat))/\(((!s4 s)=true->(zc))/\((!s4 s)=false->(∃(x:zg),gS zh (Prod.fst x) (Prod.snd x)/\((0:Int)=(↑(Prod.fst x):Int)/\True)/\(@List.nil (List UInt8)=(Prod.snd x).1/\@List.nil Int=(Prod.snd x).2.1/\@List.nil (List UInt8 × Int × Bool × Unit)=(Prod.snd x).2.2.1/\@List.nil (Int × Int × Int × List UInt8 × Bool × Unit)=(Prod.snd x).2.2.2.1/\True)/\@List.nil (List UInt8)=(Prod.snd x).1/\@List.nil Int=(Prod.snd x).2.1/\@List.nil (List UInt8 × Int × Bool × Unit)=(Prod.snd x).2.2.1/\@List.nil (Int × Int × Int × List UInt8 × Bool × Unit)=(Prod.snd x).2.2.2.1/\True)/\(∀x_0:Nat × List (List UInt8) × List Int × List (List UInt8 × Int × Bool × Unit) × List (Int × Int × Int × List UInt8 × Bool × Unit) × Unit,((gS zh x_0.1 x_0.2)->((List.length zh<=aG)->(((decide (zi x_0))=true->((((0:Int)<=(↑x_0.1:Int)/\zi x_0)/\(List.length (zj x_0)<=(1000000:Nat))/\(∃(x':ze),x'=zk x_0/\(zk x_0=x'/\True)/\zv x_0))/\((∀x_1:List (List UInt8),((x_1=zk x_0)->(zz x_1)/\(((((zab x_1)=true->(zac/\(1:Int)<=zy x_1/\zy x_1<=zy x_1)/\(∃(x':ze),(∀(o:zf),gk o (zj x_0)=eD o (zaa x_1 == jH) x')/\(List.drop (1:Nat) (List.take (zx x_1) x_1)=x'/\True)/\zv x_0))/\((zab x_1)=false->(∃(x':ze),(∀(o:zf),gk o (zj x_0)=eD o (zaa x_1 == jH) x')/\(x_1=x'/\True)/\zv x_0))))/\((∀x_2:List (List UInt8),((∀(o:zf),gk o (zj x_0)=eD o (zaa x_1 == jH) x_2)->(∃(x:Nat),((1:Nat)<=x/\x<=(3:Nat)/\(x=(1:Nat)\/x<=zx x_2))/\((1:Int)=(↑x:Int)/\@List.nil Int=cN x_2 x/\True)/\@List.nil Int=cN x_2 x/\True)/\(∀x_3:Nat,(((1:Nat)<=x_3/\x_3<=(3:Nat)/\(x_3=(1:Nat)\/x_3<=zx x_2))->((((zad x_2)->(((decide ((↑x_3:Int) < zy x_2))=true->(∃(x':Bool),(x'=true ↔ zae x_3 x_2)/\(decide ((↑x_3:Int) < (3:Int))=x'/\True)/\zag x_2 x_3 x_0))/\((decide ((↑x_3:Int) < zy x_2))=false->(∃(x':Bool),(x'=true ↔ zae x_3 x_2)/\(false=x'/\True)/\zag x_2 x_3 x_0)))))/\((∀x_4:Bool,((x_4=true ↔ zae x_3 x_2)->(((x_4)=true->((0:Int)<=(↑x_3:Int)/\(↑x_3:Int) < zy x_2)/\(True)/\(((!mJ (nth Ty.str x_2 x_3))=true->(zaf x_2 x_3/\List.length (cN x_2 x_3) + List.length [(-1099511627776:Int)]<=(1000000000:Nat))/\((aC (↑x_3:Int))->((zah)->(aC (zai x_3))/\(∃(x':Nat),((1:Nat)<=x'/\x'<=(3:Nat)/\(x'=(1:Nat)\/x'<=zx x_2))/\(3:Nat) - x' < (3:Nat) - x_3/\(zai x_3=(↑x':Int)/\cN x_2 x_3++[(-1099511627776:Int)]=cN x_2 x'/\True)/\cN x_2 x_3++[(-1099511627776:Int)]=cN x_2 x'/\zv x_0))))/\((!mJ (nth Ty.str x_2 x_3))=false->(zaf x_2 x_3/\List.length (cN x_2 x_3) + List.length [pf (nth Ty.str x_2 x_3)]<=(1000000000:Nat))/\((aC (↑x_3:Int))->((zah)->(aC (zai x_3))/\(∃(x':Nat),((1:Nat)<=x'/\x'<=(3:Nat)/\(x'=(1:Nat)\/x'<=zx x_2))/\(3:Nat) - x' < (3:Nat) - x_3/\(zai x_3=(↑x':Int)/\cN x_2 x_3++[pf (nth Ty.str x_2 x_3)]=cN x_2 x'/\True)/\cN x_2 x_3++[pf (nth Ty.str x_2 x_3)]=cN x_2 x'/\zv x_0))))))/\((x_4)=false->((((zad x_2)->(((zy x_2 == (2:Int))=true->(zz x_2)/\(∃(x':Bool),(x'=true ↔ zaj x_2)/\((zaa x_2 == [(110:UInt8),101,101,100])=x'/\True)/\zag x_2 x_3 x_0))/\((zy x_2 == (2:Int))=false->(∃(x':Bool),(x'=true ↔ zaj x_2)/\(false=x'/\True)/\zag x_2 x_3 x_0)))))/\((∀x_5:Bool,((x_5=true ↔ zaj x_2)->(((x_5)=true->(zac/\(1:Int) < zy x_2)/\(zl x_0/\List.length x_0.2.1 + List.length [nth Ty.str x_2 (1:Nat)]<=(1000000000:Nat))/\((zak x_0)->((zah)->(zam x_0)/\(∃(x':zg),gS zh (Prod.fst x') (Prod.snd x')/\zan - Prod.fst x' < zao x_0/\(zal x_0=(↑(Prod.fst x'):Int)/\True)/\(x_0.2.1++[nth Ty.str x_2 (1:Nat)]=(Prod.snd x').1/\zm x_0=(Prod.snd x').2.1/\zn x_0=(Prod.snd x').2.2.1/\zo x_0=(Prod.snd x').2.2.2.1/\True)/\x_0.2.1++[nth Ty.str x_2 (1:Nat)]=(Prod.snd x').1/\zm x_0=(Prod.snd x').2.1/\zn x_0=(Prod.snd x').2.2.1/\zo x_0=(Prod.snd x').2.2.2.1/\zu))))/\((x_5)=false->((((zad x_2)->(((zy x_2 == (2:Int))=true->(zz x_2)/\(∃(x':Bool),(x'=true ↔ zap x_2)/\((zaa x_2 == [(119:UInt8),111,114,100])=x'/\True)/\zag x_2 x_3 x_0))/\((zy x_2 == (2:Int))=false->(∃(x':Bool),(x'=true ↔ zap x_2)/\(false=x'/\True)/\zag x_2 x_3 x_0)))))/\((∀x_6:Bool,((x_6=true ↔ zap x_2)->(((x_6)=true->(zaq x_2 x_3)/\(zm x_0=zm x_0/\List.length (zm x_0) + List.length [zar x_2 x_3]<=(1000000000:Nat))/\((zak x_0)->((zah)->(zam x_0)/\(∃(x':zg),gS zh (Prod.fst x') (Prod.snd x')/\zan - Prod.fst x' < zao x_0/\(zal x_0=(↑(Prod.fst x'):Int)/\True)/\(x_0.2.1=(Prod.snd x').1/\zm x_0++[zar x_2 x_3]=(Prod.snd x').2.1/\zn x_0=(Prod.snd x').2.2.1/\zo x_0=(Prod.snd x').2.2.2.1/\True)/\x_0.2.1=(Prod.snd x').1/\zm x_0++[zar x_2 x_3]=(Prod.snd x').2.1/\zn x_0=(Prod.snd x').2.2.1/\zo x_0=(Prod.snd x').2.2.2.1/\zu))))/\((x_6)=false->((((zad x_2)->(((zy x_2 == (3:Int))=true->(zz x_2)/\(∃(x':Bool),(x'=true ↔ zas x_2)/\((zaa x_2 == [(115:UInt8),121,109,98,111,108])=x'/\True)/\zag x_2 x_3 x_0))/\((zy x_2 == (3:Int))=false->(∃(x':Bool),(x'=true ↔ zas x_2)/\(false=x'/\True)/\zag x_2 x_3 x_0)))))/\((∀x_7:Bool,((x_7=true ↔ zas x_2)->(((x_7)=true->(zac/\(1:Int) < zy x_2)/\(zat x_2 x_3)/\(zn x_0=zn x_0/\List.length (zn x_0) + List.length [(nth Ty.str x_2 (1:Nat),zau x_2 x_3,zab x_1,())]<=(1000000000:Nat))/\((zak x_0)->((zah)->(zam x_0)/\(∃(x':zg),gS zh (Prod.fst x') (Prod.snd x')/\zan - Prod.fst x' < zao x_0/\(zal x_0=(↑(Prod.fst x'):Int)/\True)/\(x_0.2.1=(Prod.snd x').1/\zm x_0=(Prod.snd x').2.1/\zn x_0++[(nth Ty.str x_2 (1:Nat),zau x_2 x_3,zab x_1,())]=(Prod.snd x').2.2.1/\zo x_0=(Prod.snd x').2.2.2.1/\True)/\x_0.2.1=(Prod.snd x').1/\zm x_0=(Prod.snd x').2.1/\zn x_0++[(nth Ty.str x_2 (1:Nat),zau x_2 x_3,zab x_1,())]=(Prod.snd x').2.2.1/\zo x_0=(Prod.snd x').2.2.2.1/\zu))))/\((x_7)=false->((((zad x_2)->(((zy x_2 == (3:Int))=true->(zz x_2)/\(∃(x':Bool),(x'=true ↔ zav x_2)/\((zaa x_2 == [(98:UInt8),97,115,101])=x'/\True)/\zag x_2 x_3 x_0))/\((zy x_2 == (3:Int))=false->(∃(x':Bool),(x'=true ↔ zav x_2)/\(false=x'/\True)/\zag x_2 x_3 x_0)))))/\((∀x_8:Bool,((x_8=true ↔ zav x_2)->(((x_8)=true->(zaq x_2 x_3)/\(zat x_2 x_3)/\(zp x_0/\List.length (zo x_0) + List.length (zaw x_2 x_3 x_1)<=(1000000000:Nat))/\((zak x_0)->((zah)->(zam x_0)/\(∃(x':zg),gS zh (Prod.fst x') (Prod.snd x')/\zan - Prod.fst x' < zao x_0/\(zal x_0=(↑(Prod.fst x'):Int)/\True)/\(x_0.2.1=(Prod.snd x').1/\zm x_0=(Prod.snd x').2.1/\zn x_0=(Prod.snd x').2.2.1/\zo x_0++zaw x_2 x_3 x_1=(Prod.snd x').2.2.2.1/\True)/\x_0.2.1=(Prod.snd x').1/\zm x_0=(Prod.snd x').2.1/\zn x_0=(Prod.snd x').2.2.1/\zo x_0++zaw x_2 x_3 x_1=(Prod.snd x').2.2.2.1/\zu))))/\((x_8)=false->((((zad x_2)->(((zy x_2 == (4:Int))=true->(zz x_2)/\(∃(x':Bool),(x'=true ↔ zax x_2)/\((zaa x_2 == [(119:UInt8),104,111,108,101])=x'/\True)/\zag x_2 x_3 x_0))/\((zy x_2 == (4:Int))=false->(∃(x':Bool),(x'=true ↔ zax x_2)/\(false=x'/\True)/\zag x_2 x_3 x_0)))))/\((∀x_9:Bool,((x_9=true ↔ zax x_2)->(((x_9)=true->(zaq x_2 x_3)/\(zat x_2 x_3)/\(zay x_2)/\(zp x_0/\List.length (zo x_0) + List.length (zaz x_2 x_3 x_1)<=(1000000000:Nat))/\((zak x_0)->((zah)->(zam x_0)/\(∃(x':zg),gS zh (Prod.fst x') (Prod.snd x')/\zan - Prod.fst x' < zao x_0/\(zal x_0=(↑(Prod.fst x'):Int)/\True)/\(x_0.2.1=(Prod.snd x').1/\zm x_0=(Prod.snd x').2.1/\zn x_0=(Prod.snd x').2.2.1/\zo x_0++zaz x_2 x_3 x_1=(Prod.snd x').2.2.2.1/\True)/\x_0.2.1=(Prod.snd x').1/\zm x_0=(Prod.snd x').2.1/\zn x_0=(Prod.snd x').2.2.1/\zo x_0++zaz x_2 x_3 x_1=(Prod.snd x').2.2.2.1/\zu))))/\((x_9)=false->((((zad x_2)->(((zy x_2 == (4:Int))=true->(zz x_2)/\(∃(x':Bool),(x'=true ↔ zba x_2)/\((zaa x_2 == [(110:UInt8),101,97,114])=x'/\True)/\zag x_2 x_3 x_0))/\((zy x_2 == (4:Int))=false->(∃(x':Bool),(x'=true ↔ zba x_2)/\(false=x'/\True)/\zag x_2 x_3 x_0)))))/\((∀x_10:Bool,((x_10=true ↔ zba x_2)->(((x_10)=true->(zaq x_2 x_3)/\(zat x_2 x_3)/\(zay x_2)/\(zp x_0/\List.length (zo x_0) + List.length (zbb x_2 x_3 x_1)<=(1000000000:Nat))/\((zak x_0)->((zah)->(zam x_0)/\(∃(x':zg),gS zh (Prod.fst x') (Prod.snd x')/\zan - Prod.fst x' < zao x_0/\(zal x_0=(↑(Prod.fst x'):Int)/\True)/\(x_0.2.1=(Prod.snd x').1/\zm x_0=(Prod.snd x').2.1/\zn x_0=(Prod.snd x').2.2.1/\zo x_0++zbb x_2 x_3 x_1=(Prod.snd x').2.2.2.1/\True)/\x_0.2.1=(Prod.snd x').1/\zm x_0=(Prod.snd x').2.1/\zn x_0=(Prod.snd x').2.2.1/\zo x_0++zbb x_2 x_3 x_1=(Prod.snd x').2.2.2.1/\zu))))/\((x_10)=false->(zc))))))))))))))))))))))))))))))))))))))))))))))))))))))/\((decide (zi x_0))=false->(True)/\(((decide (bN x_0.2 > (0:Int)))=true->(zc))/\((decide (bN x_0.2 > (0:Int)))=false->(bN x_0.2=(0:Int))/\(((decide ((gK x_0.2).2 > (0:Int)))=true->(zc))/\((decide ((gK x_0.2).2 > (0:Int)))=false->(((!(gK x_0.2).1 == s)=true->(zc))/\((!(gK x_0.2).1 == s)=false->((x_0.2,(0:Int))=ck s)))))))))))))))))) (by kernel_rfl) ?_
 dsimp -iota -proj -eta only
 refine fun h0=>iL (fun h1=>(I1 (by omega))) (fun h1=>⟨(by omega),⟨fun h2 => ?a,fun h2=>⟨?b,fun x_0 q_0 h3=>iL (fun h4=>⟨⟨?c,?d,?e⟩,fun x_1 q_1=>⟨?f,⟨iQ (fun h5=>⟨?g,?h⟩) (fun h5 => ?i),fun x_2 q_2=>⟨?j,fun x_3 q_3=>⟨fun h5=>iL (fun h6 => ?k) (fun h6 => ?l),fun x_4 q_4=>⟨fun h5=>⟨?m,trivial,⟨fun h6=>⟨?n,fun h7 h8=>⟨?o,?p⟩⟩,fun h6=>⟨?q,fun h7 h8=>⟨?r,?s⟩⟩⟩⟩,fun h5=>⟨fun h6=>iQ (fun h7=>⟨?t,?u⟩) (fun h7 => ?v),fun x_5 q_5=>⟨fun h6=>⟨?w,?x,fun h7 h8=>⟨?y,?z⟩⟩,fun h6=>⟨fun h7=>iQ (fun h8=>⟨?a0,?a1⟩) (fun h8 => ?a2),fun x_6 q_6=>⟨fun h7=>⟨?a3,?a4,fun h8 h9=>⟨?a5,?a6⟩⟩,fun h7=>⟨fun h8=>iQ (fun h9=>⟨?a7,?a8⟩) (fun h9 => ?a9),fun x_7 q_7=>⟨fun h8=>⟨?aa,?ab,?ac,fun h9 h10=>⟨?ad,?ae⟩⟩,fun h8=>⟨fun h9=>iQ (fun h10=>⟨?af,?ag⟩) (fun h10 => ?ah),fun x_8 q_8=>⟨fun h9=>⟨?ai,?aj,?ak,fun h10 h11=>⟨?al,?am⟩⟩,fun h9=>⟨fun h10=>iQ (fun h11=>⟨?an,?ao⟩) (fun h11 => ?ap),fun x_9 q_9=>⟨fun h10=>⟨?aq,?ar,?au,?av,fun h11 h12=>⟨?aw,?ax⟩⟩,fun h10=>⟨fun h11=>iQ (fun h12=>⟨?ay,?az⟩) (fun h12 => ?b0),fun x_10 q_10=>⟨fun h11=>⟨?b1,?b2,?b3,?b4,fun h12 h13=>⟨?b5,?b6⟩⟩,fun h11 => ?b7⟩⟩⟩⟩⟩⟩⟩⟩⟩⟩⟩⟩⟩⟩⟩⟩⟩⟩) (fun h4=>⟨trivial,iL (fun h5 => ?b8) (fun h5=>⟨?b9,iL (fun h6 => ?ba) (fun h6=>⟨fun h7 => ?bb,fun h7 => ?bc⟩)⟩)⟩)⟩⟩⟩)
 case a=>
  simp only [bl,reduceCtorEq] at h2
  exact G4 (by omega) h2
 case b=>
  simp only [bl,reduceCtorEq] at h2
  exact ⟨(0,cd aA),gS.zero _,⟨rfl,trivial⟩,(by trivial)⟩
 case c|t|a0|a7|af|an|ay=>
  simp only [bl,reduceCtorEq] at h2
  omega
 case d=>
  simp only [bl,reduceCtorEq] at h2
  have:=G5 (s:=s) (by omega) x_0.1;omega
 case e=>
  simp only [bl,reduceCtorEq] at h2
  exact ⟨_,rfl,⟨rfl,trivial⟩,(by trivial)⟩
 case f|g=>
  simp only [bl,reduceCtorEq] at h2
  have:=NF q_1;omega
 case h=>
  simp only [bl,reduceCtorEq] at h2
  exact ⟨_,fun _=>I0 q_1 h5 rfl,⟨by rw [List.take_length],trivial⟩,(by trivial)⟩
 case i=>
  simp only [bl,reduceCtorEq] at h2
  exact ⟨_,fun _=>K9 q_1 h5,⟨rfl,trivial⟩,(by trivial)⟩
 case j=>
  simp only [bl,reduceCtorEq] at h2
  exact ⟨1,⟨by omega,by omega, .inl rfl⟩,⟨rfl,rfl,trivial⟩,(by trivial)⟩
 case k=>
  simp only [bl,reduceCtorEq] at h2
  exact ⟨_,eT h6,⟨rfl,trivial⟩,(by trivial)⟩
 case l=>
  simp only [bl,reduceCtorEq] at h2
  exact ⟨_,eF h6,⟨rfl,trivial⟩,(by trivial)⟩
 case m|w|aa|au|b3=>
  simp only [bl,reduceCtorEq] at h2
  simp_all
 case n|q=>
  simp only [bl,reduceCtorEq] at h2 h6
  have a1:=q_0.l1;have a2:=q_0.l2;have a3:=q_0.l3;have a4:=q_0.l4;have a5:=q_0.le;have a6:=CB (s:=s) (by omega);exact ⟨rfl,by simp only [List.length_singleton];first | omega | (rw [tf];omega)⟩
 case o|r=>
  simp only [bl,reduceCtorEq] at h2 h6
  simp only [aC,aG] at *;omega
 case p=>
  simp only [bl,reduceCtorEq] at h2 h6
  have hc:=q_4.1 (by assumption);exact ⟨x_3 + 1,⟨by omega,by omega, .inr (by omega)⟩,by omega,⟨by omega,zK (by omega) h6,trivial⟩,zK (by omega) h6,(by trivial)⟩
 case s=>
  simp only [bl,reduceCtorEq] at h2 h6
  have hc:=q_4.1 (by assumption);exact ⟨x_3 + 1,⟨by omega,by omega, .inr (by omega)⟩,by omega,⟨by omega,Cz (by omega) h6,trivial⟩,Cz (by omega) h6,(by trivial)⟩
 case u=>
  simp only [bl,reduceCtorEq] at h2
  exact ⟨_,jT h7 rfl,⟨rfl,trivial⟩,(by trivial)⟩
 case v=>
  simp only [bl,reduceCtorEq] at h2
  exact ⟨_,jF h7 rfl,⟨rfl,trivial⟩,(by trivial)⟩
 case x|a4|ac|ak|av|b4=>
  simp only [bl,reduceCtorEq] at h2
  have a1:=q_0.l1;have a2:=q_0.l2;have a3:=q_0.l3;have a4:=q_0.l4;have a5:=q_0.le;have a6:=CB (s:=s) (by omega);exact ⟨rfl,by simp only [List.length_singleton];first | omega | (rw [tf];omega)⟩
 case y|a5|ad|al|aw|b5=>
  simp only [bl,reduceCtorEq] at h2
  simp only [aC,aG] at *;omega
 case z=>
  simp only [bl,reduceCtorEq] at h2
  (have hk:=rf q_3 (dW q_4 (by assumption)));(first | have hc:=q_10.1 (by assumption) | have hc:=q_9.1 (by assumption) | have hc:=q_8.1 (by assumption) | have hc:=q_7.1 (by assumption) | have hc:=q_6.1 (by assumption) | have hc:=q_5.1 (by assumption));exact ⟨(x_0.1 + 1,_),q_0.next (by omega) ((q_2 _).trans (D4 (q_5.1 (by assumption)))) (kM.nQ _ _),by simp only;omega,⟨by simp only;omega,trivial⟩,(by trivial)⟩
 case a1=>
  simp only [bl,reduceCtorEq] at h2
  exact ⟨_,jT h8 rfl,⟨rfl,trivial⟩,(by trivial)⟩
 case a2=>
  simp only [bl,reduceCtorEq] at h2
  exact ⟨_,jF h8 rfl,⟨rfl,trivial⟩,(by trivial)⟩
 case a3|ab|ai|aj|aq|ar|b1|b2=>
  simp only [bl,reduceCtorEq] at h2
  (have hk:=rf q_3 (dW q_4 (by assumption)));(first | have hc:=q_10.1 (by assumption) | have hc:=q_9.1 (by assumption) | have hc:=q_8.1 (by assumption) | have hc:=q_7.1 (by assumption) | have hc:=q_6.1 (by assumption) | have hc:=q_5.1 (by assumption));rw [tf];omega
 case a6=>
  simp only [bl,reduceCtorEq] at h2
  (have hk:=rf q_3 (dW q_4 (by assumption)));(first | have hc:=q_10.1 (by assumption) | have hc:=q_9.1 (by assumption) | have hc:=q_8.1 (by assumption) | have hc:=q_7.1 (by assumption) | have hc:=q_6.1 (by assumption) | have hc:=q_5.1 (by assumption));exact ⟨(x_0.1 + 1,_),q_0.next (by omega) ((q_2 _).trans (D5 (k:=x_3) (dW q_5 (by assumption)) (q_6.1 (by assumption)) (by omega))) (kM.word _ _),by simp only;omega,⟨by simp only;omega,trivial⟩,(by trivial)⟩
 case a8=>
  simp only [bl,reduceCtorEq] at h2
  exact ⟨_,jT h9 rfl,⟨rfl,trivial⟩,(by trivial)⟩
 case a9=>
  simp only [bl,reduceCtorEq] at h2
  exact ⟨_,jF h9 rfl,⟨rfl,trivial⟩,(by trivial)⟩
 case ae=>
  simp only [bl,reduceCtorEq] at h2
  (have hk:=rf q_3 (dW q_4 (by assumption)));(first | have hc:=q_10.1 (by assumption) | have hc:=q_9.1 (by assumption) | have hc:=q_8.1 (by assumption) | have hc:=q_7.1 (by assumption) | have hc:=q_6.1 (by assumption) | have hc:=q_5.1 (by assumption));exact ⟨(x_0.1 + 1,_),q_0.next (by omega) ((q_2 _).trans (G1 (k:=x_3) (q_7.1 (by assumption)) (by omega))) (kM.sym _ _),by simp only;omega,⟨by simp only;omega,trivial⟩,(by trivial)⟩
 case ag=>
  simp only [bl,reduceCtorEq] at h2
  exact ⟨_,jT h10 rfl,⟨rfl,trivial⟩,(by trivial)⟩
 case ah=>
  simp only [bl,reduceCtorEq] at h2
  exact ⟨_,jF h10 rfl,⟨rfl,trivial⟩,(by trivial)⟩
 case am=>
  simp only [bl,reduceCtorEq] at h2
  (have hk:=rf q_3 (dW q_4 (by assumption)));(first | have hc:=q_10.1 (by assumption) | have hc:=q_9.1 (by assumption) | have hc:=q_8.1 (by assumption) | have hc:=q_7.1 (by assumption) | have hc:=q_6.1 (by assumption) | have hc:=q_5.1 (by assumption));exact ⟨(x_0.1 + 1,_),q_0.next (by omega) ((q_2 _).trans (D6 (k:=x_3) (dW q_7 (by assumption)) (q_8.1 (by assumption)) (by omega))) (kM.tie _ _),by simp only;omega,⟨by simp only;omega,trivial⟩,(by trivial)⟩
 case ao=>
  simp only [bl,reduceCtorEq] at h2
  exact ⟨_,jT h11 rfl,⟨rfl,trivial⟩,(by trivial)⟩
 case ap=>
  simp only [bl,reduceCtorEq] at h2
  exact ⟨_,jF h11 rfl,⟨rfl,trivial⟩,(by trivial)⟩
 case ax=>
  simp only [bl,reduceCtorEq] at h2
  (have hk:=rf q_3 (dW q_4 (by assumption)));(first | have hc:=q_10.1 (by assumption) | have hc:=q_9.1 (by assumption) | have hc:=q_8.1 (by assumption) | have hc:=q_7.1 (by assumption) | have hc:=q_6.1 (by assumption) | have hc:=q_5.1 (by assumption));exact ⟨(x_0.1 + 1,_),q_0.next (by omega) ((q_2 _).trans (CA (k:=x_3) (q_9.1 (by assumption)) (by omega))) (kM.tie _ _),by simp only;omega,⟨by simp only;omega,trivial⟩,(by trivial)⟩
 case az=>
  simp only [bl,reduceCtorEq] at h2
  exact ⟨_,jT h12 rfl,⟨rfl,trivial⟩,(by trivial)⟩
 case b0=>
  simp only [bl,reduceCtorEq] at h2
  exact ⟨_,jF h12 rfl,⟨rfl,trivial⟩,(by trivial)⟩
 case b6=>
  simp only [bl,reduceCtorEq] at h2
  (have hk:=rf q_3 (dW q_4 (by assumption)));(first | have hc:=q_10.1 (by assumption) | have hc:=q_9.1 (by assumption) | have hc:=q_8.1 (by assumption) | have hc:=q_7.1 (by assumption) | have hc:=q_6.1 (by assumption) | have hc:=q_5.1 (by assumption));exact ⟨(x_0.1 + 1,_),q_0.next (by omega) ((q_2 _).trans (D7 (k:=x_3) (dW q_9 (by assumption)) (q_10.1 (by assumption)) (by omega))) (kM.tie _ _),by simp only;omega,⟨by simp only;omega,trivial⟩,(by trivial)⟩
 case b7=>
  simp only [bl,reduceCtorEq] at h2
  exact G2 (by omega) q_0 (by omega) ((q_2 _).trans (D8 (dW q_5 (by assumption)) (dW q_6 (by assumption)) (dW q_7 (by assumption)) (dW q_8 (by assumption)) (dW q_9 (by assumption)) (dW q_10 (by assumption))))
 case b8=>
  simp only [bl,reduceCtorEq] at h2
  exact tg (by omega) q_0 (by omega) (.inl h5)
 case b9=>
  simp only [bl,reduceCtorEq] at h2
  exact Int.le_antisymm h5 (rG _)
 case ba=>
  simp only [bl,reduceCtorEq] at h2
  exact tg (by omega) q_0 (by omega) (.inr (.inl h6))
 case bb=>
  simp only [bl,reduceCtorEq] at h2 h7
  exact tg (by omega) q_0 (by omega) (.inr (.inr h7))
 case bc=>
  simp only [bl,reduceCtorEq] at h2 h7
  exact G3 (by omega) (by assumption) (by assumption) h7
theorem Tryz.Di:bG Tryz.prog Tryz.B.eT Tryz.X 70 [.str] [aA, .int .i64] (fun _=>True) (fun x y=>y=(fun s=>ck s) x):=
 bI (X:=Tryz.X) Tryz.LJ Tryz.func70 (by kernel_rfl) (fun x=>JO x) (fun x hw hp=>Dh x hw)
end Go.Proofs.YtgokjhhcfemnhaaGreatDoor

namespace Go.Proofs.YtgokjhhcfemnhaaGreatDoor
open Go.Vg Go.Mrl
noncomputable def Tryz.Ag:List (FuncId × (Bool × bQ)):=[(65,(false,bM Tryz.bC [.obj 0, .d .str] (fun _ _=>True) Tryz.mE)),
 (70,(true,aM [.str] [aA, .int .i64] (fun _=>True) (fun s=>ck s)))]
theorem Tryz.EB:bU Tryz.prog Tryz.B Tryz.X Tryz.Ag:=
 aS (Tryz.vL) (aS (aE Tryz.Di) (bY Tryz.bZ))
def Tryz.Ah (s:List UInt8) (f:RS):cy:=[
 (0,fun st=>{X:=Nat × List (List UInt8) × List (D aA),inv:=fun y=>fP (bH f.1) s y.1 y.2.1 y.2.2,aW:=fun y=>7 - y.1,aQ:=fun y=>[(9,sI y.1),(7, .s (.one (.app .str y.2.1 (aR st 7)))),(8, .s (.one (.app aA y.2.2 (aR st 8))))],aF:=fun y=>[(aR st 7, .tok .str y.2.1),(aR st 8, .tok aA y.2.2)],aU:=[0],dq:=[aR st 7,aR st 8]}),
 (2,fun st=>{X:=Nat,inv:=fun k=>k<=List.length (aX aA st 41).1,aW:=fun k=>List.length (aX aA st 41).1 - k,aQ:=fun k=>[(14,sI k),(7, .s (.one (.app .str (cU (aX (.slice .str) st 7) (List.take k (aX aA st 41).1)) (aR st 7))))],aF:=fun k=>[(aR st 7, .tok .str (cU (aX (.slice .str) st 7) (List.take k (aX aA st 41).1)))],aU:=[0,4,5,6,8,9,10,12,13,19,20,21,22,25,26,27,28,29,30,31,32,33,34,35,36,37,38,39,40,41,42,43,44,45,46,47,48,49],dq:=[aR st 7]}),
 (4,fun st=>{X:=Nat,inv:=fun j=>j<=List.length (aX (.slice .str) st 7),aW:=fun j=>List.length (aX (.slice .str) st 7) - j,aQ:=fun j=>[(16,sI j),(15,sB (List.any (List.take j (aX (.slice .str) st 7)) fun x=>x == (nth .str (aX aA st 41).1 (Int.toNat (aX (.int .i64) st 14)))))],aU:=[0,4,5,6,7,8,9,10,12,13,14,19,20,21,22,25,26,27,28,29,30,31,32,33,34,35,36,37,38,39,40,41,42,43,44,45,46,47,48,49,50,51,52,53,54]})]
noncomputable def Tryz.rp:List (Alt Tryz.bC [.obj 0, .d .str]):=[{bV:=Tryz.bC,res:=[.d (.slice .str), .d (.slice aA), .d (.int .i64)],out:=fun _ x=>x,ret:=fun a x=>((aL (bH x.1.1) a.1).1,(aL (bH x.1.1) a.1).2.1,(aL (bH x.1.1) a.1).2.2,())}]
theorem EC (s:List UInt8) (f:RS) (hw:hP [.obj 0, .d .str] (s,())) (hp:(fun _ x=>x.1.1.length<=6) (s,()) (f,())):(dR (ir Tryz.B [18]) Tryz.Ag Tryz.f26 (Tryz.Ah s f) Tryz.bC [.obj 0, .d .str] Tryz.rp (s,()) (f,())).holds:=by
 refine holds_of (p:=
  let za:=List UInt8
  let zb:=Nat × List za × List (List za × List Int × List (za × Int × Bool × Unit) × List (Int × Int × Int × za × Bool × Unit) × Unit)
  let zc:=bH f.1
  let zd:=fun (x_0:Nat × List (List UInt8) × List (List (List UInt8) × List Int × List (List UInt8 × Int × Bool × Unit) × List (Int × Int × Int × List UInt8 × Bool × Unit) × Unit))=>(↑x_0.1:Int) < (↑(List.length x_0.2.1):Int)
  let ze:=fun (x_0:Nat × List (List UInt8) × List (List (List UInt8) × List Int × List (List UInt8 × Int × Bool × Unit) × List (Int × Int × Int × List UInt8 × Bool × Unit) × Unit))=>bH f.1 (nth Ty.str x_0.2.1 x_0.1)
  let zf:=(f,())=(f,())
  let zg:=aL (bH f.1) s
  let zh:=(zg.1,zg.2.1,zg.2.2,())
  let zi:=fun (x_0:Nat × List (List UInt8) × List (List (List UInt8) × List Int × List (List UInt8 × Int × Bool × Unit) × List (Int × Int × Int × List UInt8 × Bool × Unit) × Unit))=>(ck (ze x_0).1).1.1
  let zj:=fun (x_0:Nat × List (List UInt8) × List (List (List UInt8) × List Int × List (List UInt8 × Int × Bool × Unit) × List (Int × Int × Int × List UInt8 × Bool × Unit) × Unit))=>List.length (zi x_0)
  let zk:=fun (x_0:Nat × List (List UInt8) × List (List (List UInt8) × List Int × List (List UInt8 × Int × Bool × Unit) × List (Int × Int × Int × List UInt8 × Bool × Unit) × Unit)) (x_1:Nat)=>cU x_0.2.1 (List.take x_1 (zi x_0))
  let zl:=fun (x_0:Nat × List (List UInt8) × List (List (List UInt8) × List Int × List (List UInt8 × Int × Bool × Unit) × List (Int × Int × Int × List UInt8 × Bool × Unit) × Unit)) (x_1:Nat)=>List.length (zk x_0 x_1)
  let zm:=fun (x_0:Nat × List (List UInt8) × List (List (List UInt8) × List Int × List (List UInt8 × Int × Bool × Unit) × List (Int × Int × Int × List UInt8 × Bool × Unit) × Unit)) (x_1:Nat) (x:List UInt8)=>x == nth Ty.str (zi x_0) x_1
  let zn:=fun (x_2:Nat)=>aC (↑x_2:Int)
  let zo:=aC (1:Int)
  let zp:=fun (x_2:Nat)=>(↑x_2:Int) + (1:Int)
  let zq:=@List.nil (List UInt8) = @List.nil (List UInt8)
  let zr:=f.1=f.1/\f.2.1=f.2.1/\True
  let zs:=fun (x_0:Nat × List (List UInt8) × List (List (List UInt8) × List Int × List (List UInt8 × Int × Bool × Unit) × List (Int × Int × Int × List UInt8 × Bool × Unit) × Unit))=>x_0.2.2++[(ck (ze x_0).1).1]
  let zt:=@List.nil (List (List UInt8) × List Int × List (List UInt8 × Int × Bool × Unit) × List (Int × Int × Int × List UInt8 × Bool × Unit) × Unit) = @List.nil (List (List UInt8) × List Int × List (List UInt8 × Int × Bool × Unit) × List (Int × Int × Int × List UInt8 × Bool × Unit) × Unit)
  let zu:=fun (x_0:Nat × List (List UInt8) × List (List (List UInt8) × List Int × List (List UInt8 × Int × Bool × Unit) × List (Int × Int × Int × List UInt8 × Bool × Unit) × Unit))=>(zi x_0=zi x_0/\(ck (ze x_0).1).1.2.1=(ck (ze x_0).1).1.2.1/\(ck (ze x_0).1).1.2.2.1=(ck (ze x_0).1).1.2.2.1/\(ck (ze x_0).1).1.2.2.2.1=(ck (ze x_0).1).1.2.2.2.1/\True)/\@List.nil (Int × Int × Int × List UInt8 × Bool × Unit) = @List.nil (Int × Int × Int × List UInt8 × Bool × Unit)/\@List.nil (List UInt8 × Int × Bool × Unit) = @List.nil (List UInt8 × Int × Bool × Unit)/\@List.nil Int = @List.nil Int/\zq/\zr/\zs x_0=zs x_0/\zt/\zq/\True
  let zv:=fun (x_1:Nat) (x_0:Nat × List (List UInt8) × List (List (List UInt8) × List Int × List (List UInt8 × Int × Bool × Unit) × List (Int × Int × Int × List UInt8 × Bool × Unit) × Unit))=>(0:Int)<=(↑x_1:Int)/\(↑x_1:Int) < (↑(zj x_0):Int)
  (∃(x:zb),fP zc s (Prod.fst x) (Prod.snd x).1 (Prod.snd x).2/\((0:Int)=(↑(Prod.fst x):Int)/\[s]=(Prod.snd x).1/\@List.nil (List (List UInt8) × List Int × List (List UInt8 × Int × Bool × Unit) × List (Int × Int × Int × List UInt8 × Bool × Unit) × Unit)=(Prod.snd x).2/\True)/\[s]=(Prod.snd x).1/\@List.nil (List (List UInt8) × List Int × List (List UInt8 × Int × Bool × Unit) × List (Int × Int × Int × List UInt8 × Bool × Unit) × Unit)=(Prod.snd x).2/\True)/\(∀x_0:Nat × List (List UInt8) × List (List (List UInt8) × List Int × List (List UInt8 × Int × Bool × Unit) × List (Int × Int × Int × List UInt8 × Bool × Unit) × Unit),((fP zc s x_0.1 x_0.2.1 x_0.2.2)->((List.length x_0.2.1<=aG)->(((decide (zd x_0))=true->((0:Int)<=(↑x_0.1:Int)/\zd x_0)/\(True)/\((True)->(((decide ((ze x_0).2.2 > (0:Int)))=true->(True/\zf/\([],[],(ze x_0).2.2,())=zh))/\((decide ((ze x_0).2.2 > (0:Int)))=false->(True)/\(((decide ((ck (ze x_0).1).2 > (0:Int)))=true->(True/\zf/\([],[],(ck (ze x_0).1).2,())=zh))/\((decide ((ck (ze x_0).1).2 > (0:Int)))=false->(x_0.2.2=x_0.2.2/\List.length x_0.2.2 + List.length [(ck (ze x_0).1).1]<=(1000000000:Nat))/\(∃(x:Nat),x<=zj x_0/\((0:Int)=(↑x:Int)/\x_0.2.1=cU x_0.2.1 (List.take x (zi x_0))/\True)/\x_0.2.1=cU x_0.2.1 (List.take x (zi x_0))/\True)/\(∀x_1:Nat,((x_1<=zj x_0)->((zj x_0<=aG)->(((decide ((↑x_1:Int) < (↑(zj x_0):Int)))=true->(∃(x:Nat),x<=zl x_0 x_1/\((0:Int)=(↑x:Int)/\false=List.any (List.take x (zk x_0 x_1)) (zm x_0 x_1)/\True)/\True)/\(∀x_2:Nat,((x_2<=zl x_0 x_1)->((zl x_0 x_1<=aG)->(((decide ((↑x_2:Int) < (↑(zl x_0 x_1):Int)))=true->(((List.any (List.take x_2 (zk x_0 x_1)) (zm x_0 x_1))=true->((zn x_2)->((zo)->(aC (zp x_2))/\(∃(x':Nat),x'<=zl x_0 x_1/\zl x_0 x_1 - x' < zl x_0 x_1 - x_2/\(zp x_2=(↑x':Int)/\true=List.any (List.take x' (zk x_0 x_1)) (zm x_0 x_1)/\True)/\zk x_0 x_1=zk x_0 x_1/\zu x_0))))/\((List.any (List.take x_2 (zk x_0 x_1)) (zm x_0 x_1))=false->((0:Int)<=(↑x_2:Int)/\(↑x_2:Int) < (↑(zl x_0 x_1):Int))/\(zv x_1 x_0)/\((zn x_2)->((zo)->(aC (zp x_2))/\(∃(x':Nat),x'<=zl x_0 x_1/\zl x_0 x_1 - x' < zl x_0 x_1 - x_2/\(zp x_2=(↑x':Int)/\(nth Ty.str (zk x_0 x_1) x_2 == nth Ty.str (zi x_0) x_1)=List.any (List.take x' (zk x_0 x_1)) (zm x_0 x_1)/\True)/\zk x_0 x_1=zk x_0 x_1/\zu x_0))))))/\((decide ((↑x_2:Int) < (↑(zl x_0 x_1):Int)))=false->(((!List.any (List.take x_2 (zk x_0 x_1)) (zm x_0 x_1))=true->(zv x_1 x_0)/\(zk x_0 x_1=zk x_0 x_1/\zl x_0 x_1 + List.length [nth Ty.str (zi x_0) x_1]<=(1000000000:Nat))/\((zn x_1)->((zo)->(aC (zp x_1))/\(∃(x':Nat),x'<=zj x_0/\zj x_0 - x' < zj x_0 - x_1/\(zp x_1=(↑x':Int)/\zk x_0 x_1++[nth Ty.str (zi x_0) x_1]=cU x_0.2.1 (List.take x' (zi x_0))/\True)/\zk x_0 x_1++[nth Ty.str (zi x_0) x_1]=cU x_0.2.1 (List.take x' (zi x_0))/\zu x_0))))/\((!List.any (List.take x_2 (zk x_0 x_1)) (zm x_0 x_1))=false->((zn x_1)->((zo)->(aC (zp x_1))/\(∃(x':Nat),x'<=zj x_0/\zj x_0 - x' < zj x_0 - x_1/\(zp x_1=(↑x':Int)/\zk x_0 x_1=cU x_0.2.1 (List.take x' (zi x_0))/\True)/\zk x_0 x_1=cU x_0.2.1 (List.take x' (zi x_0))/\zu x_0)))))))))))/\((decide ((↑x_1:Int) < (↑(zj x_0):Int)))=false->((aC (↑x_0.1:Int))->((zo)->(aC ((↑x_0.1:Int) + (1:Int)))/\(∃(x':zb),fP zc s (Prod.fst x') (Prod.snd x').1 (Prod.snd x').2/\(7:Nat) - Prod.fst x' < (7:Nat) - x_0.1/\((↑x_0.1:Int) + (1:Int)=(↑(Prod.fst x'):Int)/\zk x_0 x_1=(Prod.snd x').1/\zs x_0=(Prod.snd x').2/\True)/\zk x_0 x_1=(Prod.snd x').1/\zs x_0=(Prod.snd x').2/\zt/\zq/\zr/\True))))))))))))))/\((decide (zd x_0))=false->(True/\zf/\(x_0.2.1,x_0.2.2,(0:Int),())=zh))))))) (by kernel_rfl) ?_
 dsimp -iota -proj -eta only
 dsimp only at hp
 refine ⟨(⟨(0,[s],[]),fP.zero _ _,⟨rfl,rfl,rfl,trivial⟩,(by trivial)⟩),fun x_0 q_0 h0=>iL (fun h1=>⟨?a,trivial,fun h2=>iL (fun h3=>(by rw [q_0.Cq (bJ hp) (by omega) (by omega)];exact ⟨trivial,rfl,rfl⟩)) (fun h3=>⟨trivial,iL (fun h4=>(by rw [q_0.Fu (by omega) (oR (bJ hp) (by omega)) (by omega)];exact ⟨trivial,rfl,rfl⟩)) (fun h4=>⟨⟨rfl,q_0.NC⟩,?b,fun x_1 q_1 h5=>iL (fun h6=>⟨?c,fun x_2 q_2 h7=>iL (fun h8=>⟨fun h9 h10 h11=>⟨?d,(⟨x_2 + 1,by omega,by omega,⟨by omega,KX (by assumption),trivial⟩,(by trivial)⟩)⟩,fun h9=>⟨?e,?f,fun h10 h11=>⟨?g,(⟨x_2 + 1,by omega,by omega,⟨by omega,KY (by omega) (by assumption),trivial⟩,(by trivial)⟩)⟩⟩⟩) (fun h8=>⟨fun h9=>⟨?h,?i,fun h10 h11=>⟨?j,?k⟩⟩,fun h9 h10 h11=>⟨?l,?m⟩⟩)⟩) (fun h6 h7 h8=>⟨?n,(by exact ⟨(x_0.1 + 1,_,_),q_0.next (bJ hp) (by omega) (nj (oR (bJ hp) (by omega)) (xT (by omega))),by have:=q_0.room (bJ hp) (by omega) (nj (oR (bJ hp) (by omega)) (xT (by omega)));simp only;omega,⟨by simp only;omega,tP (by omega),rfl,trivial⟩,tP (by omega),rfl,(by trivial)⟩)⟩)⟩)⟩)⟩) (fun h1=>(by rw [q_0.done (by omega)];exact ⟨trivial,rfl,rfl⟩))⟩
 case a|e|f=>omega
 case b|c=>exact ⟨0,Nat.zero_le _,⟨rfl,rfl,trivial⟩,(by trivial)⟩
 case d|g|n=>simp only [aC,aG] at *;omega
 case h=>
  simp only [bl,reduceCtorEq] at h9
  omega
 case i=>
  simp only [bl,reduceCtorEq] at h9
  exact ⟨rfl,q_0.IW (bJ hp) (nj (oR (bJ hp) (by omega)) (xT (by omega))) _⟩
 case j|l=>
  simp only [bl,reduceCtorEq] at h9
  simp only [aC,aG] at *;omega
 case k=>
  simp only [bl,reduceCtorEq] at h9
  exact ⟨x_1 + 1,by omega,by omega,⟨by omega,tN (by omega) (tQ (j:=x_2) (by omega) (by assumption)),trivial⟩,tN (by omega) (tQ (j:=x_2) (by omega) (by assumption)),(by trivial)⟩
 case m=>
  simp only [bl,reduceCtorEq] at h9
  exact ⟨x_1 + 1,by omega,by omega,⟨by omega,tO (by omega) (tQ (j:=x_2) (by omega) (by assumption)),trivial⟩,tO (by omega) (tQ (j:=x_2) (by omega) (by assumption)),(by trivial)⟩
theorem Tryz.ED:cL Tryz.prog Tryz.B.eT Tryz.X 26 false (bM Tryz.bC [.obj 0, .d .str] (fun _ x=>x.1.1.length<=6) Tryz.rp):=
 cn (B:=(ir Tryz.B [18])) (X:=Tryz.X) (bU.hint (l:=[18]) Tryz.EB) Tryz.func26 (by kernel_rfl) (fun (a:CD [.obj 0, .d .str]) (x:PD Tryz.bC)=>Tryz.Ah a.1 x.1) (fun (a:CD [.obj 0, .d .str]) (x:PD Tryz.bC) hw hp=>EC a.1 x.1 hw hp)
end Go.Proofs.YtgokjhhcfemnhaaGreatDoor

namespace Go.Proofs.YtgokjhhcfemnhaaGreatDoor
open Go.Vg Go.Mrl
theorem JP (n:Int) (hw:c8 [.int .i64] n) (hp:(fun n=>0<=n/\n<=1000000) n):(cp Tryz.B [] Tryz.f107 [] [.int .i64] [.int .i64] (fun x y=>y=(fun n=>cJ n) x) n).holds:=by
 refine holds_of (p:=
  let za:=(16:Int)≠(0:Int)
  let zb:=aC (n + (16:Int))
  (za)/\(∀x_0:Int,((x_0=Int.tmod n (16:Int))->(((decide (x_0 > (0:Int)))=true->((aC n)->((aC (16:Int))->(zb)/\(za)/\(∀x_1:Int,((x_1=Int.tmod n (16:Int))->((zb)->((aC x_1)->(aC (n + (16:Int) - x_1))/\(n + (16:Int) - x_1=cJ n))))))))/\((decide (x_0 > (0:Int)))=false->(n=cJ n)))))) (by kernel_rfl) ?_
 dsimp -iota -proj -eta only
 refine ⟨?a,fun x_0 q_0=>iL (fun h0 h1 h2=>⟨?b,?c,fun x_1 q_1 h3 h4=>⟨?d,?e⟩⟩) (fun h0 => ?f)⟩
 case a|c=>omega
 case b|d=>simp only [aC] at *;omega
 case e|f=>subst_vars;simp only [Int.tmod_eq_emod_of_nonneg hp.1] at *;(try unfold cJ);(try simp only [aC]);omega
theorem Tryz.JQ:bG Tryz.prog Tryz.B.eT Tryz.X 107 [.int .i64] [.int .i64] (fun n=>0<=n/\n<=1000000) (fun x y=>y=(fun n=>cJ n) x):=
 bI (X:=Tryz.X) (bY Tryz.bZ) Tryz.func107 (by kernel_rfl) (fun _=>[]) (fun x hw hp=>JP x hw hp)
noncomputable def Tryz.Ai:List (FuncId × (Bool × bQ)):=[(107,(true,aM [.int .i64] [.int .i64] (fun n=>0<=n/\n<=1000000) (fun n=>cJ n)))]
theorem Tryz.EE:bU Tryz.prog Tryz.B Tryz.X Tryz.Ai:=
 aS (aE Tryz.JQ) (bY Tryz.bZ)
def Aj (s:List Int) (l:List (D aP)):cy:=[
 (0,fun st=>{X:=Nat,inv:=fun i=>i<=s.length/\∀j,j < i->1<=(nth (.int .i64) s j:Int)/\(nth (.int .i64) s j:Int)<=40,aW:=fun i=>s.length - i,aQ:=fun i=>[(6,sI i)],aU:=[0,1]}),
 (2,fun st=>{X:=Nat,inv:=fun i=>i<=l.length/\∀j,j < i->fo (nth aP l j),aW:=fun i=>l.length - i,aQ:=fun i=>[(7,sI i)],aU:=[0,1]}),
 (4,fun st=>{X:=Nat,inv:=fun i=>i<=l.length,aW:=fun i=>l.length - i,aQ:=fun i=>[(10,sI i)],aF:=fun i=>[(aR st 9, .arr .bool (gi (l.take i)))],aU:=[0,1,4,5,9],dq:=[aR st 9]}),
 (6,fun st=>{X:=Nat,inv:=fun k=>(k:Int)<=(nth aP l (aX (.int .i64) st 10).toNat).2.1,aW:=fun k=>300 - k,aQ:=fun k=>[(11,sI k)],aF:=fun k=>[(aR st 9, .arr .bool (eS (rowOf .bool st (aR st 9)) (nth aP l (aX (.int .i64) st 10).toNat).1 k))],aU:=[0,1,4,5,9,10,73,74,75,76],dq:=[aR st 9]}),
 (8,fun st=>{X:=Nat × List (D aP) × List Int,inv:=fun x=>x.1<=s.length/\eg x.2.1 (s.drop x.1) x.2.2=eg l s []/\(∀y∈x.2.1,fo y)/\x.2.1.length=l.length + x.1/\x.2.2.length=x.1,aW:=fun x=>s.length - x.1,aQ:=fun x=>[(13,sI x.1),(12, .s (.one (.app (.int .i64) x.2.2 (aR st 12))))],aF:=fun x=>[(aR st 9, .arr .bool (gi x.2.1)),(aR st 12, .tok (.int .i64) x.2.2)],aU:=[0,9],dq:=[aR st 9,aR st 12]}),
 (10,fun st=>{X:=Nat,inv:=fun j=>j<=32/\jb (rowOf .bool st (aR st 9)) (aX (.int .i64) st 14) (40 - j) (16 * (j:Int))=jb (rowOf .bool st (aR st 9)) (aX (.int .i64) st 14) 40 0,aW:=fun j=>40 - j,aQ:=fun j=>[(15,sI (16 * (j:Int)))],aU:=[0,4,5,9,12,13,14,96,97,98,99,102,103,104,105,106]}),
 (12,fun st=>{X:=Nat,inv:=fun k=>(k:Int)<=aX (.int .i64) st 14,aW:=fun k=>300 - k,aQ:=fun k=>[(17,sI k),(16,sB (eR (rowOf .bool st (aR st 9)) (aX (.int .i64) st 15) k))],aU:=[0,4,5,9,12,13,14,15,96,97,98,99,102,103,104,105,106]}),
 (14,fun st=>{X:=Nat,inv:=fun k=>(k:Int)<=aX (.int .i64) st 14,aW:=fun k=>300 - k,aQ:=fun k=>[(18,sI k)],aF:=fun k=>[(aR st 9, .arr .bool (eS (rowOf .bool st (aR st 9)) (aX (.int .i64) st 15) k))],aU:=[0,4,5,9,12,13,14,15,16,17,96,97,98,99,102,103,104,105,106,107,108,109,110,111,112,113,114,115,116,117,118,119,120,121,122,123,124,125,126,127,128,129,130,131,132,133],dq:=[aR st 9]})]
theorem JR (s:List Int) (l:List (D aP)) (hw:c8 [.slice (.int .i64), .slice aP] (s,l)):(cp Tryz.B Tryz.Ai Tryz.f73 (Aj s l) [.slice (.int .i64), .slice aP] [.slice (.int .i64), .int .i64] (fun x y=>y=(fun x=>jE x) x) (s,l)).holds:=by
 refine holds_of (p:=
  let za:=List.length s
  let zb:=za<=aG
  let zc:=(↑za:Int)
  let zd:=jE (s,l)
  let ze:=([],(2:Int))=zd
  let zf:=List.length l
  let zg:=zf<=aG
  let zh:=Ty.int IntKind.i64
  let zi:=fun (x_0:Nat)=>(↑x_0:Int)
  let zj:=fun (x_0:Nat)=>(0:Int)<=zi x_0/\zi x_0 < zc
  let zk:=([],(1:Int))=zd
  let zl:=fun (x_0:Nat)=>aC (zi x_0)
  let zm:=aC (1:Int)
  let zn:=fun (x_0:Nat)=>zi x_0 + (1:Int)
  let zo:=fun (x_0:Nat)=>aC (zn x_0)
  let zp:=@List.nil Int = @List.nil Int/\True
  let zq:=fun (x_1:Nat)=>decide (zi x_1 < (↑zf:Int))
  let zr:=fun (x_1:Nat)=>(0:Int)<=zi x_1/\zi x_1 < (↑zf:Int)
  let zs:=fun (x_1:Nat)=>(nth aP l x_1).1
  let zt:=fun (x_1:Nat)=>(nth aP l x_1).2.1
  let zu:=fun (x_2:Nat)=>gi (List.take x_2 l)
  let zv:=(↑(600:Nat):Int)
  let zw:=Int × Int × Unit
  let zx:=Nat × List zw × List Int
  let zy:=eg l s (@List.nil Int)
  let zz:=fun (x_3:Nat × List (Int × Int × Unit) × List Int)=>gi x_3.2.1
  let zaa:=fun (x_3:Nat × List (Int × Int × Unit) × List Int)=>cJ (nth zh s x_3.1)
  let zab:=fun (x_3:Nat × List (Int × Int × Unit) × List Int)=>jb (zz x_3) (zaa x_3) (40:Nat) (0:Int)
  let zac:=fun (x_4:Nat)=>(16:Int) * zi x_4
  let zad:=fun (x_4 x_5:Nat)=>zac x_4 + zi x_5
  let zae:=fun (x_3:Nat × List (Int × Int × Unit) × List Int)=>zz x_3=zz x_3/\x_3.2.2=x_3.2.2/\zp
  let zaf:=fun (x_3:Nat × List (Int × Int × Unit) × List Int) (x_4:Nat) (x_5:Nat)=>(((eR (zz x_3) (zac x_4) x_5)=true->((aC (zac x_4))->((aC (zaa x_3))->(aC (zac x_4 + zaa x_3))/\(((decide (zac x_4 + zaa x_3 > (256:Int)))=true->(([],(8:Int))=zd))/\((decide (zac x_4 + zaa x_3 > (256:Int)))=false->(∃(x:Nat),(↑x:Int)<=zaa x_3/\((0:Int)=(↑x:Int)/\True)/\zz x_3=eS (zz x_3) (zac x_4) x/\True)/\(∀x_6:Nat,((zi x_6<=zaa x_3)->(((decide (zi x_6 < zaa x_3))=true->((aC (zac x_4))->((zl x_6)->(aC (zad x_4 x_6))/\((0:Int)<=zad x_4 x_6/\zad x_4 x_6 < zv/\zad x_4 x_6 < (↑(List.length (eS (zz x_3) (zac x_4) x_6)):Int))/\(Int.toNat (zad x_4 x_6) < List.length (eS (zz x_3) (zac x_4) x_6))/\((zl x_6)->((zm)->(zo x_6)/\(∃(x':Nat),(↑x':Int)<=zaa x_3/\(300:Nat) - x' < (300:Nat) - x_6/\(zn x_6=(↑x':Int)/\True)/\List.set (eS (zz x_3) (zac x_4) x_6) (Int.toNat (zad x_4 x_6)) true=eS (zz x_3) (zac x_4) x'/\x_3.2.2=x_3.2.2/\zp))))))/\((decide (zi x_6 < zaa x_3))=false->(x_3.2.2=x_3.2.2/\List.length x_3.2.2 + List.length [zac x_4]<=(1000000000:Nat))/\((aC (↑x_3.1:Int))->((zm)->(aC ((↑x_3.1:Int) + (1:Int)))/\(∃(x':zx),(Prod.fst x'<=za/\eg (Prod.snd x').1 (List.drop (Prod.fst x') s) (Prod.snd x').2=zy/\(∀(y:zw),y∈(Prod.snd x').1->fo y)/\List.length (Prod.snd x').1=zf + Prod.fst x'/\List.length (Prod.snd x').2=Prod.fst x')/\za - Prod.fst x' < za - x_3.1/\((↑x_3.1:Int) + (1:Int)=(↑(Prod.fst x'):Int)/\x_3.2.2++[zac x_4]=(Prod.snd x').2/\True)/\eS (zz x_3) (zac x_4) x_6=gi (Prod.snd x').1/\x_3.2.2++[zac x_4]=(Prod.snd x').2/\zp))))))))))))/\((eR (zz x_3) (zac x_4) x_5)=false->((aC (zac x_4))->((aC (16:Int))->(aC (zac x_4 + (16:Int)))/\(∃(x':Nat),(x'<=(32:Nat)/\jb (zz x_3) (zaa x_3) ((40:Nat) - x') ((16:Int) * (↑x':Int))=zab x_3)/\(40:Nat) - x' < (40:Nat) - x_4/\(zac x_4 + (16:Int)=(16:Int) * (↑x':Int)/\True)/\zae x_3)))))
  ((zb)->(((decide (zc > (6:Int)))=true->(ze))/\((decide (zc > (6:Int)))=false->((zg)->(((decide ((↑zf:Int) > (20:Int)))=true->(ze))/\((decide ((↑zf:Int) > (20:Int)))=false->(∃(x:Nat),(x<=za/\∀(j:Nat),j < x->(1:Int)<=nth zh s j/\nth zh s j<=(40:Int))/\((0:Int)=(↑x:Int)/\True)/\True)/\(∀x_0:Nat,((x_0<=za/\∀(j:Nat),j < x_0->(1:Int)<=nth zh s j/\nth zh s j<=(40:Int))->((zb)->(((decide (zi x_0 < zc))=true->(zj x_0)/\(((decide (nth zh s x_0 < (1:Int)))=true->(zk))/\((decide (nth zh s x_0 < (1:Int)))=false->(zj x_0)/\(((decide (nth zh s x_0 > (40:Int)))=true->(zk))/\((decide (nth zh s x_0 > (40:Int)))=false->((zl x_0)->((zm)->(zo x_0)/\(∃(x':Nat),(x'<=za/\∀(j:Nat),j < x'->(1:Int)<=nth zh s j/\nth zh s j<=(40:Int))/\za - x' < za - x_0/\(zn x_0=(↑x':Int)/\True)/\zp))))))))/\((decide (zi x_0 < zc))=false->(∃(x:Nat),(x<=zf/\∀(j:Nat),j < x->fo (nth aP l j))/\((0:Int)=(↑x:Int)/\True)/\True)/\(∀x_1:Nat,((x_1<=zf/\∀(j:Nat),j < x_1->fo (nth aP l j))->((zg)->(((zq x_1)=true->(zr x_1)/\(((decide (zs x_1 < (0:Int)))=true->(zk))/\((decide (zs x_1 < (0:Int)))=false->(((decide (zs x_1 > (256:Int)))=true->(zk))/\((decide (zs x_1 > (256:Int)))=false->(((decide (zt x_1 < (0:Int)))=true->(zk))/\((decide (zt x_1 < (0:Int)))=false->(((decide (zt x_1 > (256:Int)))=true->(zk))/\((decide (zt x_1 > (256:Int)))=false->((zl x_1)->((zm)->(zo x_1)/\(∃(x':Nat),(x'<=zf/\∀(j:Nat),j < x'->fo (nth aP l j))/\zf - x' < zf - x_1/\(zn x_1=(↑x':Int)/\True)/\zp))))))))))))/\((zq x_1)=false->(∃(x:Nat),x<=zf/\((0:Int)=(↑x:Int)/\True)/\List.replicate (600:Nat) (cd Ty.bool)=gi (List.take x l)/\True)/\(∀x_2:Nat,((x_2<=zf)->((zg)->(((zq x_2)=true->(∃(x:Nat),(↑x:Int)<=zt x_2/\((0:Int)=(↑x:Int)/\True)/\zu x_2=eS (zu x_2) (zs x_2) x/\True)/\(∀x_3:Nat,((zi x_3<=zt x_2)->(zr x_2)/\(((decide (zi x_3 < zt x_2))=true->(zr x_2)/\((aC (zs x_2))->((zl x_3)->(aC (zs x_2 + zi x_3))/\((0:Int)<=zs x_2 + zi x_3/\zs x_2 + zi x_3 < zv/\zs x_2 + zi x_3 < (↑(List.length (eS (zu x_2) (zs x_2) x_3)):Int))/\(Int.toNat (zs x_2 + zi x_3) < List.length (eS (zu x_2) (zs x_2) x_3))/\((zl x_3)->((zm)->(zo x_3)/\(∃(x':Nat),(↑x':Int)<=zt x_2/\(300:Nat) - x' < (300:Nat) - x_3/\(zn x_3=(↑x':Int)/\True)/\List.set (eS (zu x_2) (zs x_2) x_3) (Int.toNat (zs x_2 + zi x_3)) true=eS (zu x_2) (zs x_2) x'/\zp))))))/\((decide (zi x_3 < zt x_2))=false->((zl x_2)->((zm)->(zo x_2)/\(∃(x':Nat),x'<=zf/\zf - x' < zf - x_2/\(zn x_2=(↑x':Int)/\True)/\eS (zu x_2) (zs x_2) x_3=gi (List.take x' l)/\zp))))))))/\((zq x_2)=false->(∃(x:zx),(Prod.fst x<=za/\eg (Prod.snd x).1 (List.drop (Prod.fst x) s) (Prod.snd x).2=zy/\(∀(y:zw),y∈(Prod.snd x).1->fo y)/\List.length (Prod.snd x).1=zf + Prod.fst x/\List.length (Prod.snd x).2=Prod.fst x)/\((0:Int)=(↑(Prod.fst x):Int)/\@List.nil Int=(Prod.snd x).2/\True)/\zu x_2=gi (Prod.snd x).1/\@List.nil Int=(Prod.snd x).2/\True)/\(∀x_3:Nat × List (Int × Int × Unit) × List Int,((x_3.1<=za/\eg x_3.2.1 (List.drop x_3.1 s) x_3.2.2=zy/\(∀(y:zw),y∈x_3.2.1->fo y)/\List.length x_3.2.1=zf + x_3.1/\List.length x_3.2.2=x_3.1)->((zb)->(((decide ((↑x_3.1:Int) < zc))=true->((0:Int)<=(↑x_3.1:Int)/\(↑x_3.1:Int) < zc)/\((0:Int)<=nth zh s x_3.1/\nth zh s x_3.1<=(1000000:Int))/\(∃(x:Nat),(x<=(32:Nat)/\jb (zz x_3) (zaa x_3) ((40:Nat) - x) ((16:Int) * (↑x:Int))=zab x_3)/\((0:Int)=(16:Int) * (↑x:Int)/\True)/\True)/\(∀x_4:Nat,((x_4<=(32:Nat)/\jb (zz x_3) (zaa x_3) ((40:Nat) - x_4) (zac x_4)=zab x_3)->(∃(x:Nat),(↑x:Int)<=zaa x_3/\((0:Int)=(↑x:Int)/\true=eR (zz x_3) (zac x_4) x/\True)/\True)/\(∀x_5:Nat,((zi x_5<=zaa x_3)->(((decide (zi x_5 < zaa x_3))=true->(((eR (zz x_3) (zac x_4) x_5)=true->((aC (zac x_4))->((zl x_5)->(aC (zad x_4 x_5))/\(((decide (zad x_4 x_5>=(600:Int)))=true->((zl x_5)->((zm)->(zo x_5)/\(∃(x':Nat),(↑x':Int)<=zaa x_3/\(300:Nat) - x' < (300:Nat) - x_5/\(zn x_5=(↑x':Int)/\true=eR (zz x_3) (zac x_4) x'/\True)/\zae x_3))))/\((decide (zad x_4 x_5>=(600:Int)))=false->((aC (zac x_4))->((zl x_5)->(aC (zad x_4 x_5))/\((0:Int)<=zad x_4 x_5/\zad x_4 x_5 < zv/\zad x_4 x_5 < (↑(List.length (zz x_3)):Int))/\(Int.toNat (zad x_4 x_5) < List.length (zz x_3))/\((zl x_5)->((zm)->(zo x_5)/\(∃(x':Nat),(↑x':Int)<=zaa x_3/\(300:Nat) - x' < (300:Nat) - x_5/\(zn x_5=(↑x':Int)/\(!nth Ty.bool (zz x_3) (Int.toNat (zad x_4 x_5)))=eR (zz x_3) (zac x_4) x'/\True)/\zae x_3))))))))))/\((eR (zz x_3) (zac x_4) x_5)=false->(zaf x_3 x_4 x_5))))/\((decide (zi x_5 < zaa x_3))=false->(zaf x_3 x_4 x_5))))))))/\((decide ((↑x_3.1:Int) < zc))=false->((x_3.2.2,(0:Int))=zd)))))))))))))))))))))))))))) (by kernel_rfl) ?_
 dsimp -iota -proj -eta only
 refine fun h0=>iL (fun h1 => ?a) (fun h1 h2=>iL (fun h3 => ?b) (fun h3=>⟨?c,fun x_0 q_0 h4=>iL (fun h5=>⟨?d,iL (fun h6 => ?e) (fun h6=>⟨?f,iL (fun h7 => ?g) (fun h7 h8 h9=>⟨?h,(by (try dsimp only [D] at *);exact ⟨x_0 + 1,⟨by omega,fun j hj=>by by_cases e:j=x_0;(subst e;(try dsimp only [D]);omega);exact q_0.2 j (by omega)⟩,by omega,⟨by omega,trivial⟩,(by trivial)⟩)⟩)⟩)⟩) (fun h5=>⟨?i,fun x_1 q_1 h6=>iL (fun h7=>⟨?j,iL (fun h8 => ?k) (fun h8=>iL (fun h9 => ?l) (fun h9=>iL (fun h10 => ?m) (fun h10=>iL (fun h11 => ?n) (fun h11 h12 h13=>⟨?o,(by (try dsimp only [D] at *);exact ⟨x_1 + 1,⟨by omega,fun j hj=>by by_cases e:j=x_1;(subst e;unfold fo;(try dsimp only [D]);omega);exact q_1.2 j (by omega)⟩,by omega,⟨by omega,trivial⟩,(by trivial)⟩)⟩))))⟩) (fun h7=>⟨?p,fun x_2 q_2 h8=>iL (fun h9=>⟨?q,fun x_3 q_3=>⟨?r,iL (fun h10=>⟨?s,fun h11 h12=>⟨?t,?u,?v,fun h13 h14=>⟨?w,?x⟩⟩⟩) (fun h10 h11 h12=>⟨?y,(by (try dsimp only [D] at *);exact ⟨x_2 + 1,by omega,by omega,⟨by omega,trivial⟩,Gv (by omega) (by (try dsimp only [D]);omega),(by trivial)⟩)⟩)⟩⟩) (fun h9=>⟨(⟨(0,l,[]),⟨Nat.zero_le _,rfl,(fun y (hy:y∈l)=>by obtain ⟨i,hi,e⟩:=lS (t:=aP) hy;rw [<-e];exact q_1.2 i (by omega)),rfl,rfl⟩,(by trivial),by rw [List.take_of_length_le (by omega)],(by trivial)⟩),fun x_3 q_3 h10=>iL (fun h11=>⟨?z,(by have:=q_0.2 x_3.1 (by omega);(try dsimp only [D] at *);omega),?a0,fun x_4 q_4=>⟨?a1,fun x_5 q_5=>iL (fun h12=>⟨fun h13 h14 h15=>⟨?a2,iE (fun h16 h17 h18=>⟨?a3,?a4⟩) (fun h16 h17 h18=>⟨?a5,?a6,?a7,fun h19 h20=>⟨?a8,?a9⟩⟩)⟩,fun h13=>⟨fun h14 h15 h16=>⟨?aa,iL (fun h17 => ?ab) (fun h17=>⟨?ac,fun x_6 q_6=>iL (fun h18 h19 h20=>⟨?ad,?ae,?af,fun h21 h22=>⟨?ag,?ah⟩⟩) (fun h18=>⟨?ai,fun h19 h20=>⟨?aj,?ak⟩⟩)⟩)⟩,fun h14 h15 h16=>⟨?al,?am⟩⟩⟩) (fun h12=>⟨fun h13 h14 h15=>⟨?an,iL (fun h16 => ?ao) (fun h16=>⟨?ap,fun x_6 q_6=>iL (fun h17 h18 h19=>⟨?aq,?ar,?au,fun h20 h21=>⟨?av,?aw⟩⟩) (fun h17=>⟨(by simp only [List.length_singleton,true_and];omega),fun h18 h19=>⟨?ax,?ay⟩⟩)⟩)⟩,fun h13 h14 h15=>⟨?az,?b0⟩⟩)⟩⟩) (fun h11=>(by unfold jE;rw [oB (by omega) (fun j hj=>q_0.2 j (by omega)) (fun j hj=>q_1.2 j (by omega)),<-q_3.2.1,uo (by omega)];rfl))⟩)⟩)⟩)⟩))
 case a|b=>unfold jE;rw [uq (by omega)];rfl
 case c|i|p|a0=>refine ⟨0,?_⟩;(repeat' (first | exact trivial | rfl | omega | assumption | apply And.intro))
 case d|f|j|r|s|z=>omega
 case e|g=>(try dsimp only [D] at *);unfold jE;rw [ur (by omega) (i:=x_0) (by omega) (by (try dsimp only [D]);omega)];rfl
 case h|o|y=>simp only [aC,aG] at *;omega
 case k|l|m|n=>(try dsimp only [D] at *);unfold jE;rw [su (by omega) (i:=x_1) (by omega) (by unfold fo;(try dsimp only [D]);omega)];rfl
 case q=>
  have ok:=q_1.2 x_2 (by omega);unfold fo at ok;(try dsimp only [D] at *)
  exact ⟨0,by omega,⟨rfl,trivial⟩,(wL (nG _)).symm,trivial⟩
 case t|w=>
  have ok:=q_1.2 x_2 (by omega);unfold fo at ok;(try dsimp only [D] at *)
  simp only [aC];omega
 case u|v=>
  have ok:=q_1.2 x_2 (by omega);unfold fo at ok;(try dsimp only [D] at *)
  rw [lr];omega
 case x=>
  have ok:=q_1.2 x_2 (by omega);unfold fo at ok;(try dsimp only [D] at *)
  exact ⟨x_3 + 1,by omega,by omega,⟨by omega,trivial⟩,yC (by omega) (by omega),(by trivial)⟩
 case a1=>
  have hs:=q_0.2 x_3.1 (by omega);have hr:=cQ hs.1 hs.2
  exact ⟨0,by omega,⟨rfl,rfl,trivial⟩,trivial⟩
 case a2|a3|a5|a8|al|an|aq|av|ax|az=>
  have hs:=q_0.2 x_3.1 (by omega);have hr:=cQ hs.1 hs.2
  simp only [aC];omega
 case a4=>
  have hs:=q_0.2 x_3.1 (by omega);have hr:=cQ hs.1 hs.2
  exact ⟨x_5 + 1,by omega,by omega,⟨by omega,DQ h13 (by omega),trivial⟩,(by trivial)⟩
 case a6|a7=>
  have hs:=q_0.2 x_3.1 (by omega);have hr:=cQ hs.1 hs.2
  rw [nG];omega
 case a9=>
  have hs:=q_0.2 x_3.1 (by omega);have hr:=cQ hs.1 hs.2
  exact ⟨x_5 + 1,by omega,by omega,⟨by omega,DR h13 (by omega),trivial⟩,(by trivial)⟩
 case aa|ab|ac|ad|ae|af|ag|ah|ai|aj|ak=>exact absurd (h14.symm.trans h13) (by decide)
 case am|b0=>
  have hs:=q_0.2 x_3.1 (by omega);have hr:=cQ hs.1 hs.2
  have hfu:eR (gi x_3.2.1) (16 * (x_4:Int)) (cJ (nth (.int .i64) s x_3.1)).toNat=false:=Gw (by omega) h13
  have hn:=yA q_3.2.2.1 ((wO q_3.2.2.1 (by omega) (by omega)).symm.trans hfu)
  exact ⟨x_4 + 1,⟨by omega,by rw [<-q_4.2,show 40 - x_4=(40 - (x_4 + 1)) + 1 by omega,Ky hfu,show 16 * ((x_4 + 1:Nat):Int)=16 * (x_4:Int) + 16 by omega]⟩,by omega,⟨by omega,trivial⟩,(by trivial)⟩
 case ao=>
  have hs:=q_0.2 x_3.1 (by omega);have hr:=cQ hs.1 hs.2;have e5:x_5=Int.toNat (cJ (nth (.int .i64) s x_3.1)):=(by omega);rw [e5] at h13;have hb:=q_4.2.symm.trans (wN h13);rw [wP q_3.2.2.1 (by omega) _ _ (by omega)] at hb
  unfold jE;rw [oB (by omega) (fun j hj=>q_0.2 j (by omega)) (fun j hj=>q_1.2 j (by omega)),<-q_3.2.1,lq (by omega),if_pos (by rw [hb];omega)];rfl
 case ap=>
  have hs:=q_0.2 x_3.1 (by omega);have hr:=cQ hs.1 hs.2
  exact ⟨0,by omega,⟨rfl,trivial⟩,(wL (nG _)).symm,trivial⟩
 case ar|au=>
  have hs:=q_0.2 x_3.1 (by omega);have hr:=cQ hs.1 hs.2
  rw [lr];omega
 case aw=>
  have hs:=q_0.2 x_3.1 (by omega);have hr:=cQ hs.1 hs.2
  exact ⟨x_6 + 1,by omega,by omega,⟨by omega,trivial⟩,yC (by omega) (by omega),(by trivial)⟩
 case ay=>
  have hs:=q_0.2 x_3.1 (by omega);have hr:=cQ hs.1 hs.2;have e5:x_5=Int.toNat (cJ (nth (.int .i64) s x_3.1)):=(by omega);rw [e5] at h13;have hb:=q_4.2.symm.trans (wN h13);rw [wP q_3.2.2.1 (by omega) _ _ (by omega)] at hb
  exact ⟨(x_3.1 + 1,x_3.2.1++[(16 * (x_4:Int),cJ (nth (.int .i64) s x_3.1),())],_),⟨by omega,by rw [<-q_3.2.1,lq (k:=x_3.1) (by omega),if_neg (by rw [hb];omega),hb],BS q_3.2.2.1 (by refine ⟨?_,?_,?_,?_⟩ <;> simp only <;> omega),by simp only [List.length_append,List.length_singleton];omega,by simp only [List.length_append,List.length_singleton];omega⟩,by simp only;omega,⟨by simp only;omega,rfl,trivial⟩,wM (by omega),(by trivial)⟩
theorem Tryz.JS:bG Tryz.prog Tryz.B.eT Tryz.X 73 [.slice (.int .i64), .slice aP] [.slice (.int .i64), .int .i64] (fun _=>True) (fun x y=>y=(fun x=>jE x) x):=
 bI (X:=Tryz.X) Tryz.EE Tryz.func73 (by kernel_rfl) (fun x=>Aj x.1 x.2) (fun x hw hp=>JR x.1 x.2 hw)
end Go.Proofs.YtgokjhhcfemnhaaGreatDoor

namespace Go.Proofs.YtgokjhhcfemnhaaGreatDoor
open Go.Vg Go.Mrl
noncomputable def Tryz.Dj:List (FuncId × (Bool × bQ)):=[(26,(false,bM Tryz.bC [.obj 0, .d .str] (fun _ x=>x.1.1.length<=6) Tryz.rp)),
 (73,(true,aM [.slice (.int .i64), .slice aP] [.slice (.int .i64), .int .i64] (fun _=>True) (fun x=>jE x))),
 (74,(true,aM [.slice aA, .slice (.int .i64)] [.slice aN, .int .i64] (fun x=>eC x.1) (fun x=>((cH x).1,eJ (cH x).2))))]
theorem Tryz.HA:bU Tryz.prog Tryz.B Tryz.X Tryz.Dj:=
 aS (Tryz.ED) (aS (aE Tryz.JS) (aS (aE Tryz.Ey) (bY Tryz.bZ)))
noncomputable def Tryz.Dl (_s:List UInt8) (_f:RS):cy:=[
 (0,fun st=>{X:=Nat,inv:=fun i=>i<=List.length (aX (.slice aA) st 8),aW:=fun i=>List.length (aX (.slice aA) st 8) - i,aQ:=fun i=>[(11,sI i),(10, .s (.one (.app (.int .i64) (bK (List.take i (aX (.slice aA) st 8))) (aR st 10))))],aF:=fun i=>[(aR st 10, .tok (.int .i64) (bK (List.take i (aX (.slice aA) st 8))))],aU:=[4,5,6,7,8,9],dq:=[aR st 10]}),
 (200002,fun st=>{X:=Nat,inv:=fun i=>i<=List.length (aX (.slice aA) st 8),aW:=fun i=>List.length (aX (.slice aA) st 8) - i,aQ:=fun i=>[(15,sI i)],aO:=[.ext 0 (.slice bE)],refs:=[(14,0)],pd:=fun i=>(c7 (aX (.slice .str) st 7) (aX (.slice (.int .i64)) st 12) (et (cf (aX (.slice aA) st 8)) (aX (.slice aN) st 13)) i,()),aU:=[4,5,6,7,8,12,13]}),
 (4,fun st=>{X:=Nat,inv:=fun k=>k<=List.length (aX (.slice aN) st 13),aW:=fun k=>List.length (aX (.slice aN) st 13) - k,aQ:=fun k=>[(17,sI k)],aF:=fun k=>[(aR st 16, .aV (.int .i64) (gQ (nth aA (aX (.slice aA) st 8) (aX (.int .i64) st 15).toNat).2.1 (aX (.int .i64) st 15).toNat (List.take k (aX (.slice aN) st 13))))],aU:=[4,5,6,7,8,12,13,14,15,16,60,61,62,63,66,67,68,69,70,71],dq:=[aR st 16]})]
noncomputable def Tryz.tm:List (Alt Tryz.bC [.obj 0, .d .str]):=[{bV:=Tryz.bC,res:=[.d (.slice bE), .d (.slice aN), .d (.int .i64)],out:=fun _ x=>x,ret:=fun a x=>((cu (bH x.1.1) a.1).1,(bA (bH x.1.1) a.1).2.2.2.1,(cu (bH x.1.1) a.1).2,())}]
theorem HB (s:List UInt8) (f:RS) (hw:hP [.obj 0, .d .str] (s,())) (hp:(fun _ x=>x.1.1.length<=6) (s,()) (f,())):(dR (ir Tryz.B [14]) Tryz.Dj Tryz.f32 (Tryz.Dl s f) Tryz.bC [.obj 0, .d .str] Tryz.tm (s,()) (f,())).holds:=by
 refine holds_of (p:=
  let za:=bH f.1
  let zb:=aL za s
  let zc:=(f,())=(f,())
  let zd:=((cu za s).1,(bA za s).2.2.2.1,(cu za s).2,())
  let ze:=zb.2.1
  let zf:=List.length ze
  let zg:=fun (x_0:Nat)=>(↑x_0:Int)
  let zh:=fun (x_0:Nat)=>decide (zg x_0 < (↑zf:Int))
  let zi:=fun (x_0:Nat)=>(0:Int)<=zg x_0
  let zj:=fun (x_0:Nat)=>zi x_0/\zg x_0 < (↑zf:Int)
  let zk:=fun (x_0:Nat)=>(nth aA ze x_0).2.1
  let zl:=fun (x_0:Nat)=>bK (List.take x_0 ze)
  let zm:=aC (1:Int)
  let zn:=fun (x_0:Nat)=>zg x_0 + (1:Int)
  let zo:=fun (x_0:Nat)=>zl x_0++[(↑(List.length (zk x_0)):Int)]
  let zp:=(f.1=f.1/\f.2.1=f.2.1/\True)/\@List.nil (Int × Int × Int × Unit) = @List.nil (Int × Int × Int × Unit)/\@List.nil (List UInt8 × Int × List Int × Unit) = @List.nil (List UInt8 × Int × List Int × Unit)/\True
  let zq:=fun (x_0:Nat)=>bW (zl x_0,[])
  let zr:=fun (x_0:Nat)=>eJ (cH (ze,(zq x_0).1)).2
  let zs:=fun (x_0:Nat)=>zl x_0=zl x_0/\zp
  let zt:=!false
  let zu:=(zt && (zt && (zt && (zt && true))))=true
  let zv:=fun (x_0:Nat)=>(cH (ze,(zq x_0).1)).1
  let zw:=fun (x_0:Nat)=>et (cf ze) (zv x_0)
  let zx:=fun (x_0:Nat)=>List.length (zv x_0)
  let zy:=fun (x_2 x_0:Nat)=>zi x_2/\zg x_2 < (↑(zx x_0):Int)
  let zz:=fun (x_1 x_2 x_0:Nat)=>gQ (zk x_1) x_1 (List.take x_2 (zv x_0))
  let zaa:=fun (x_0 x_1:Nat)=>c7 zb.1 (zq x_0).1 (zw x_0) x_1
  let zab:=fun (x_1 x_0 x_2:Nat)=>[(nth Ty.str zb.1 x_1,nth (Ty.int IntKind.i64) (zq x_0).1 x_1,zz x_1 x_2 x_0,())]
  (List.length f.1<=(6:Nat))/\((True)->(((decide (zb.2.2 > (0:Int)))=true->(True/\zc/\([],[],zb.2.2,())=zd))/\((decide (zb.2.2 > (0:Int)))=false->(∃(x:Nat),x<=zf/\((0:Int)=(↑x:Int)/\@List.nil Int=bK (List.take x ze)/\True)/\@List.nil Int=bK (List.take x ze)/\True)/\(∀x_0:Nat,((x_0<=zf)->((zf<=aG)->(((zh x_0)=true->(zj x_0)/\((List.length (zk x_0)<=aG)->(zl x_0=zl x_0/\List.length (zl x_0) + List.length [(↑(List.length (zk x_0)):Int)]<=(1000000000:Nat))/\((aC (zg x_0))->((zm)->(aC (zn x_0))/\(∃(x':Nat),x'<=zf/\zf - x' < zf - x_0/\(zn x_0=(↑x':Int)/\zo x_0=bK (List.take x' ze)/\True)/\zo x_0=bK (List.take x' ze)/\zp)))))/\((zh x_0)=false->(True)/\(((decide (eJ (zq x_0).2 > (0:Int)))=true->(True/\zc/\([],[],eJ (zq x_0).2,())=zd))/\((decide (eJ (zq x_0).2 > (0:Int)))=false->(eC ze)/\(((decide (zr x_0 > (0:Int)))=true->(True/\zc/\([],[],zr x_0,())=zd))/\((decide (zr x_0 > (0:Int)))=false->(((∃(x':Nat),x'<=zf/\True/\((0:Int)=(↑x':Int)/\True)/\zs x_0/\zu/\([],())=(c7 zb.1 (zq x_0).1 (zw x_0) x',())))/\((∀x_1:Nat,((x_1<=zf)->((zf<=aG)->(((zh x_1)=true->(zj x_1)/\(List.length (zk x_1)<=(1000000000:Nat))/\(∃(x:Nat),x<=zx x_0/\((0:Int)=(↑x:Int)/\True)/\zk x_1=gQ (zk x_1) x_1 (List.take x (zv x_0))/\True)/\(∀x_2:Nat,((x_2<=zx x_0)->((zx x_0<=aG)->(((decide (zg x_2 < (↑(zx x_0):Int)))=true->(zy x_2 x_0)/\((((nth aN (zv x_0) x_2).1 == zg x_1)=true->(zy x_2 x_0)/\(zy x_2 x_0)/\((0:Int)<=(nth aN (zv x_0) x_2).2.1/\(nth aN (zv x_0) x_2).2.1 < (↑(List.length (zz x_1 x_2 x_0)):Int))/\(Int.toNat (nth aN (zv x_0) x_2).2.1 < List.length (zz x_1 x_2 x_0))/\((aC (zg x_2))->((zm)->(aC (zn x_2))/\(∃(x':Nat),x'<=zx x_0/\zx x_0 - x' < zx x_0 - x_2/\(zn x_2=(↑x':Int)/\True)/\List.set (zz x_1 x_2 x_0) (Int.toNat (nth aN (zv x_0) x_2).2.1) (nth aN (zv x_0) x_2).2.2.1=gQ (zk x_1) x_1 (List.take x' (zv x_0))/\zaa x_0 x_1=zaa x_0 x_1/\zs x_0))))/\(((nth aN (zv x_0) x_2).1 == zg x_1)=false->((aC (zg x_2))->((zm)->(aC (zn x_2))/\(∃(x':Nat),x'<=zx x_0/\zx x_0 - x' < zx x_0 - x_2/\(zn x_2=(↑x':Int)/\True)/\zz x_1 x_2 x_0=gQ (zk x_1) x_1 (List.take x' (zv x_0))/\zaa x_0 x_1=zaa x_0 x_1/\zs x_0))))))/\((decide (zg x_2 < (↑(zx x_0):Int)))=false->(zi x_1/\zg x_1 < (↑(List.length zb.1):Int))/\(zi x_1/\zg x_1 < (↑(List.length (zq x_0).1):Int))/\((0:Nat) < List.length (zab x_1 x_0 x_2)/\List.length (zaa x_0 x_1) + List.length (zab x_1 x_0 x_2)<=(1000000000:Nat))/\((aC (zg x_1))->((zm)->(aC (zn x_1))/\(∃(x':Nat),x'<=zf/\zf - x' < zf - x_1/\(zn x_1=(↑x':Int)/\True)/\zs x_0/\zu/\(zaa x_0 x_1++zab x_1 x_0 x_2,())=(c7 zb.1 (zq x_0).1 (zw x_0) x',()))))))))))/\((zh x_1)=false->(True/\zc/\(zaa x_0 x_1,zv x_0,(0:Int),())=zd))))))))))))))))))))) (by kernel_rfl) ?_
 dsimp -iota -proj -eta only
 dsimp only at hp
 refine ⟨(by trivial),fun h0=>iL (fun h1=>⟨trivial,rfl,Cu (by omega)⟩) (fun h1=>⟨(⟨0,Nat.zero_le _,⟨rfl,rfl,trivial⟩,rfl,trivial⟩),fun x_0 q_0 h2=>iL (fun h3=>⟨?a,fun h4=>⟨(by exact ⟨rfl,by rw [xg,List.length_take];have:=tc (bJ hp) (Int.le_antisymm h1 (dX (bJ hp) s));simp only [List.length_singleton];omega⟩),fun h5 h6=>⟨?b,(⟨x_0 + 1,by omega,by omega,⟨by omega,(mi (by omega)).symm,trivial⟩,(mi (by omega)).symm,(by trivial)⟩)⟩⟩⟩) (fun h3=>⟨trivial,iL (fun h4 => ?c) (fun h4=>⟨(xi (bJ hp) (Int.le_antisymm h1 (dX (bJ hp) s))),iL (fun h5 => ?d) (fun h5=>⟨(⟨0,Nat.zero_le _,trivial,⟨rfl,trivial⟩,(by trivial),rfl,rfl⟩),fun x_1 q_1 h6=>iL (fun h7=>⟨?e,?f,(⟨0,Nat.zero_le _,⟨rfl,trivial⟩,rfl,(by trivial)⟩),fun x_2 q_2 h8=>iL (fun h9=>⟨?g,iQ (fun h10=>⟨?h,?i,?j,?k,fun h11 h12=>⟨?l,(⟨x_2 + 1,by omega,by omega,⟨by omega,trivial⟩,KC (by omega) h10,(by trivial)⟩)⟩⟩) (fun h10 h11 h12=>⟨?m,(⟨x_2 + 1,by omega,by omega,⟨by omega,trivial⟩,Iu (by omega) h10,(by trivial)⟩)⟩)⟩) (fun h9=>⟨(by have:=(ra (bJ hp) (Int.le_antisymm h1 (dX (bJ hp) s))).len;omega),?n,?o,fun h10 h11=>⟨?p,?q⟩⟩)⟩) (fun h7 => ?r)⟩)⟩)⟩)⟩)⟩
 case a|e|g|h|i=>omega
 case b|l|m|p=>simp only [aC,aG] at *;omega
 case c=>
  have e0:List.take x_0 (aL (bH f.1) s).2.1=(aL (bH f.1) s).2.1:=jw (by omega)
  rw [e0] at h4 ⊢
  exact ⟨trivial,rfl,Cv (Int.le_antisymm h1 (dX (bJ hp) s)) h4⟩
 case d=>
  have e0:List.take x_0 (aL (bH f.1) s).2.1=(aL (bH f.1) s).2.1:=jw (by omega)
  rw [e0] at h4 h5 ⊢
  exact ⟨trivial,rfl,GZ (Int.le_antisymm h1 (dX (bJ hp) s)) (Cw (mV _) h4) h5⟩
 case f=>
  have e0:List.take x_0 (aL (bH f.1) s).2.1=(aL (bH f.1) s).2.1:=jw (by omega)
  rw [e0] at h4 h5
  obtain ⟨hr,er⟩:=pY (bJ hp) (Int.le_antisymm h1 (dX (bJ hp) s)) h4 h5
  exact Nat.le_trans ((xj (bJ hp) hr.sc).2 x_1 (by omega)) (by decide)
 case j|k=>
  have e0:List.take x_0 (aL (bH f.1) s).2.1=(aL (bH f.1) s).2.1:=jw (by omega)
  rw [e0] at h4 h5 h9 h10 ⊢
  obtain ⟨hr,er⟩:=pY (bJ hp) (Int.le_antisymm h1 (dX (bJ hp) s)) h4 h5
  have:=K7 hr (i:=x_1) (k:=x_2) (by omega) h10 (by omega)
  first | exact this | exact (Int.toNat_lt this.1).2 this.2
 case n=>
  have e0:List.take x_0 (aL (bH f.1) s).2.1=(aL (bH f.1) s).2.1:=jw (by omega)
  rw [e0] at h4 h5 ⊢
  obtain ⟨hr,er⟩:=pY (bJ hp) (Int.le_antisymm h1 (dX (bJ hp) s)) h4 h5
  have:=hr.bl;omega
 case o=>
  refine ⟨by simp,?_⟩
  rw [ep];have:=tc (bJ hp) (Int.le_antisymm h1 (dX (bJ hp) s));simp only [List.length_singleton];omega
 case q=>
  have e0:List.take x_0 (aL (bH f.1) s).2.1=(aL (bH f.1) s).2.1:=jw (by omega)
  rw [e0] at h4 h5 h9 ⊢
  obtain ⟨hr,er⟩:=pY (bJ hp) (Int.le_antisymm h1 (dX (bJ hp) s)) h4 h5
  exact ⟨x_1 + 1,by omega,by omega,⟨by omega,trivial⟩,(by trivial),rfl,congrArg (·,()) (G0 hr (by omega) (by rw [jw (by omega)]))⟩
 case r=>
  have e0:List.take x_0 (aL (bH f.1) s).2.1=(aL (bH f.1) s).2.1:=jw (by omega)
  rw [e0] at h4 h5 ⊢
  obtain ⟨hr,er⟩:=pY (bJ hp) (Int.le_antisymm h1 (dX (bJ hp) s)) h4 h5
  rw [show x_1=List.length (aL (bH f.1) s).2.1 by omega]
  exact ⟨trivial,rfl,D3 hr er⟩
theorem Tryz.HC:cL Tryz.prog Tryz.B.eT Tryz.X 32 false (bM Tryz.bC [.obj 0, .d .str] (fun _ x=>x.1.1.length<=6) Tryz.tm):=
 cn (B:=(ir Tryz.B [14])) (X:=Tryz.X) (bU.hint (l:=[14]) Tryz.HA) Tryz.func32 (by kernel_rfl) (fun (a:CD [.obj 0, .d .str]) (x:PD Tryz.bC)=>Tryz.Dl a.1 x.1) (fun (a:CD [.obj 0, .d .str]) (x:PD Tryz.bC) hw hp=>HB a.1 x.1 hw hp)
end Go.Proofs.YtgokjhhcfemnhaaGreatDoor

namespace Go.Proofs.YtgokjhhcfemnhaaGreatDoor
open Go.Vg Go.Mrl
def Ak (e:D fj):cy:=[
 (0,fun st=>{X:=Nat,inv:=fun i=>i<=e.2.1.length/\∀j,j < i->(nth gO e.2.1 j).1.length<=20,aW:=fun i=>e.2.1.length - i,aQ:=fun i=>[(3,sI i)],aU:=[1]})]
theorem AG (e:D fj) (hw:c8 [fj] e):(cp Tryz.B [] Tryz.f38 (Ak e) [fj] [.bool] (fun e y=>y=true->mA e) e).holds:=by
 refine holds_of (p:=
  let za:=false=true->mA e
  let zb:=e.2.1
  let zc:=List.length zb
  let zd:=e.2.2.1
  let ze:=fun (x_0:Nat)=>List.length (nth gO zb x_0).1
  ((List.length e.1<=aG)->(((decide ((↑(List.length e.1):Int) > (20:Int)))=true->(za))/\((decide ((↑(List.length e.1):Int) > (20:Int)))=false->((zc<=aG)->(((decide ((↑zc:Int) > (8:Int)))=true->(za))/\((decide ((↑zc:Int) > (8:Int)))=false->((List.length zd<=aG)->(((decide ((↑(List.length zd):Int) > (40:Int)))=true->(za))/\((decide ((↑(List.length zd):Int) > (40:Int)))=false->(∃(x:Nat),(x<=zc/\∀(j:Nat),j < x->List.length (nth gO zb j).1<=(20:Nat))/\((0:Int)=(↑x:Int)/\True)/\True)/\(∀x_0:Nat,((x_0<=zc/\∀(j:Nat),j < x_0->List.length (nth gO zb j).1<=(20:Nat))->((zc<=aG)->(((decide ((↑x_0:Int) < (↑zc:Int)))=true->((0:Int)<=(↑x_0:Int)/\(↑x_0:Int) < (↑zc:Int))/\((ze x_0<=aG)->(((decide ((↑(ze x_0):Int) > (20:Int)))=true->(za))/\((decide ((↑(ze x_0):Int) > (20:Int)))=false->((aC (↑x_0:Int))->((aC (1:Int))->(aC ((↑x_0:Int) + (1:Int)))/\(∃(x':Nat),(x'<=zc/\∀(j:Nat),j < x'->List.length (nth gO zb j).1<=(20:Nat))/\zc - x' < zc - x_0/\((↑x_0:Int) + (1:Int)=(↑x':Int)/\True)/\(e.1=e.1/\zb=zb/\zd=zd/\True)/\True)))))))/\((decide ((↑x_0:Int) < (↑zc:Int)))=false->(true=true->mA e)))))))))))))))) (by kernel_rfl) ?_
 dsimp -iota -proj -eta only
 refine fun h0=>iL (fun h1 => ?a) (fun h1 h2=>iL (fun h3 => ?b) (fun h3 h4=>iL (fun h5 => ?c) (fun h5=>⟨?d,fun x_0 q_0 h6=>iL (fun h7=>⟨(by omega),fun h8=>iL (fun h9 => ?e) (fun h9 h10 h11=>⟨(by simp only [aC,aG] at *;omega),(⟨x_0 + 1,⟨by omega,ja q_0.2 (by omega)⟩,by omega,⟨by omega,trivial⟩,(by trivial)⟩)⟩)⟩) (fun h7=>(fun _=>⟨by omega,by omega,by omega,fun i hi=>q_0.2 i (by omega)⟩))⟩)))
 case a|b|c|e=>simp_all
 case d=>refine ⟨0,?_⟩;(repeat' (first | exact trivial | rfl | omega | assumption | apply And.intro))
theorem Tryz.rH:bG Tryz.prog Tryz.B.eT Tryz.X 38 [fj] [.bool] (fun _=>True) (fun e y=>y=true->mA e):=
 bI (X:=Tryz.X) (bY Tryz.bZ) Tryz.func38 (by kernel_rfl) (fun x=>Ak x) (fun x hw hp=>AG x hw)
noncomputable def Tryz.Dm:List (FuncId × (Bool × bQ)):=[(38,(true,fJ [fj] [.bool] (fun _=>True) (fun e y=>y=true->mA e)))]
theorem Tryz.HD:bU Tryz.prog Tryz.B Tryz.X Tryz.Dm:=
 aS (dj Tryz.rH) (bY Tryz.bZ)
def Al (l:List (D bT)) (m:Int):cy:=[
 (0,fun st=>{X:=Nat × Int,inv:=fun x=>x.1<=l.length/\(0<=x.2/\x.2<=20000)/\∀j,j < x.1->sE (nth bT l j),aW:=fun x=>l.length - x.1,aQ:=fun x=>[(6,sI x.1),(5,sI x.2)],aU:=[0]})]
theorem Dn (l:List (D bT)) (m:Int) (hw:c8 [.slice bT, .int .i64] (l,m)):(cp (Gm Tryz.B) Tryz.Dm Tryz.f7 (Al l m) [.slice bT, .int .i64] [.bool] (fun x y=>y=true->lU x.1 x.2) (l,m)).holds:=by
 refine holds_of (p:=
  let za:=List.length l
  let zb:=false=true->lU l m
  let zc:=fun (x_0:Nat × Int)=>(↑x_0.1:Int) < (↑za:Int)
  let zd:=fun (x_0:Nat × Int)=>(0:Int)<=(↑x_0.1:Int)/\zc x_0
  let ze:=fun (x_0:Nat × Int)=>List.length (nth bT l x_0.1).2.2.1
  let zf:=fun (x_0:Nat × Int)=>List.length (nth bT l x_0.1).2.1
  ((za<=aG)->(((decide ((↑za:Int) > m))=true->(zb))/\((decide ((↑za:Int) > m))=false->(∃(x:Nat × Int),(x.1<=za/\((0:Int)<=x.2/\x.2<=(20000:Int))/\∀(j:Nat),j < x.1->sE (nth bT l j))/\((0:Int)=(↑x.1:Int)/\(0:Int)=x.2/\True)/\True)/\(∀x_0:Nat × Int,((x_0.1<=za/\((0:Int)<=x_0.2/\x_0.2<=(20000:Int))/\∀(j:Nat),j < x_0.1->sE (nth bT l j))->((za<=aG)->(((decide (zc x_0))=true->(zd x_0)/\((ze x_0<=aG)->(∀x_1:Int,((x_1=IntKind.wrap IntKind.i64 (x_0.2 + (↑(ze x_0):Int)))->(zd x_0)/\((zf x_0<=aG)->(((decide ((↑(zf x_0):Int) > (100:Int)))=true->(zb))/\((decide ((↑(zf x_0):Int) > (100:Int)))=false->(zd x_0)/\((ze x_0<=aG)->(((decide ((↑(ze x_0):Int) > (1300:Int)))=true->(zb))/\((decide ((↑(ze x_0):Int) > (1300:Int)))=false->(((decide (x_1 > (20000:Int)))=true->(zb))/\((decide (x_1 > (20000:Int)))=false->(zd x_0)/\(True)/\(∀x_2:Bool,((x_2=true->mA (nth bT l x_0.1).2.2.2.2.2.1)->(((!x_2)=true->(zb))/\((!x_2)=false->(∀x_3:Int,((x_3=IntKind.wrap IntKind.i64 ((↑x_0.1:Int) + (1:Int)))->(∃(x':Nat × Int),(x'.1<=za/\((0:Int)<=x'.2/\x'.2<=(20000:Int))/\∀(j:Nat),j < x'.1->sE (nth bT l j))/\za - x'.1 < za - x_0.1/\(x_3=(↑x'.1:Int)/\x_1=x'.2/\True)/\True)))))))))))))))))))/\((decide (zc x_0))=false->(true=true->lU l m)))))))))) (by kernel_rfl) ?_
 dsimp -iota -proj -eta only
 refine fun h0=>iL (fun h1 => ?a) (fun h1=>⟨(by exact ⟨(0,0),⟨by omega,by simp,fun j hj=>by simp only at hj;omega⟩,⟨rfl,rfl,trivial⟩,trivial⟩),fun x_0 q_0 h2=>iL (fun h3=>⟨?b,fun h4 x_1 q_1=>⟨?c,fun h5=>iL (fun h6 => ?d) (fun h6=>⟨?e,fun h7=>iL (fun h8 => ?f) (fun h8=>iL (fun h9 => ?g) (fun h9=>⟨?h,trivial,fun x_2 q_2=>⟨fun h10 => ?i,fun h10 x_3 q_3 => ?j⟩⟩))⟩)⟩⟩) (fun h3=>(fun _=>⟨by omega,fun i hi=>q_0.2.2 i (by omega)⟩))⟩)
 case a|d|f|g=>simp_all
 case b|c|e|h=>omega
 case i=>
  simp only [bl,reduceCtorEq] at h10
  simp_all
 case j=>
  simp only [bl,reduceCtorEq] at h10
  have hw2:IntKind.wrap IntKind.i64 (x_0.2 + (List.length (nth bT l x_0.1).2.2.1:Int))=x_0.2 + (List.length (nth bT l x_0.1).2.2.1:Int):=pV (by omega) (by omega)
  have hw3:IntKind.wrap IntKind.i64 ((x_0.1:Int) + 1)=(x_0.1:Int) + 1:=pV (by omega) (by have:(aG:Int)=9223372036854775807:=rfl;omega)
  exact ⟨(x_0.1 + 1,_),⟨by omega,by simp only;omega,ja q_0.2.2 ⟨by omega,by omega,by simp_all⟩⟩,by simp only;omega,⟨by simp only;omega,rfl,trivial⟩,(by trivial)⟩
theorem Tryz.tn:bG Tryz.prog Tryz.B.eT Tryz.X 7 [.slice bT, .int .i64] [.bool] (fun _=>True) (fun x y=>y=true->lU x.1 x.2):=
 bI (B:=(Gm Tryz.B)) (X:=Tryz.X) (bU.wrap Tryz.HD) Tryz.func7 (by kernel_rfl) (fun x=>Al x.1 x.2) (fun x hw hp=>Dn x.1 x.2 hw)
end Go.Proofs.YtgokjhhcfemnhaaGreatDoor

namespace Go.Proofs.YtgokjhhcfemnhaaGreatDoor
open Go.Vg Go.Mrl
noncomputable def Tryz.Am:List (FuncId × (Bool × bQ)):=[(87,(true,aM [.str] [.err] (fun _=>True) (fun s=>aY (aK s)))),
 (94,(true,aM [.str] [.int .i64] (fun _=>True) (fun s=>aK s))),
 (9,(true,aM [.err, .int .i64] [.bool] (fun _=>True) (fun x=>cG x.1 x.2))),
 (38,(true,fJ [fj] [.bool] (fun _=>True) (fun e y=>y=true->mA e))),
 (7,(true,fJ [.slice bT, .int .i64] [.bool] (fun _=>True) (fun x y=>y=true->lU x.1 x.2))),
 (75,(true,aM [.slice (.int .i64), .slice (.int .i64)] [.bool] (fun _=>True) (fun x=>iu x.1 x.2))),
 (19,(true,aM [.slice .str, .slice .str] [.bool] (fun _=>True) (fun x=>gF x.1 x.2))),
 (58,(false,bM [] [] (fun _ _=>True) Tryz.tT)),
 (64,(false,bM Tryz.bw [.obj 0, .d .str] (fun _ _=>True) Tryz.oS)),
 (59,(false,bM Tryz.bw [.obj 0, .d .str, .d .str] (fun _ x=>x.2.1.1.length<=6/\0<=x.1.1/\x.1.1<=1000000) Tryz.mZ)),
 (62,(false,bM Tryz.bw [.obj 0, .d .str] (fun _ _=>True) Tryz.pn)),
 (66,(false,bM Tryz.bw [.obj 0] (fun _ x=>x.2.1.1.length<=6/\(x.2.1.1.map cr).Nodup) Tryz.th)),
 (65,(false,bM Tryz.bC [.obj 0, .d .str] (fun _ _=>True) Tryz.mE)),
 (61,(false,bM Tryz.bC [.obj 0, .d .str, .d .str] (fun _ x=>x.1.1.length<=6/\0<=x.1.2.1/\x.1.2.1<=1000000) Tryz.rn)),
 (63,(false,bM Tryz.bC [.obj 0, .d .str] (fun _ x=>x.1.1.length<=6) Tryz.po)),
 (67,(false,bM Tryz.bC [.obj 0] (fun _ x=>x.1.1.length<=6) Tryz.tl))]
theorem Tryz.EF:bU Tryz.prog Tryz.B Tryz.X Tryz.Am:=
 aS (aE Tryz.fM) (aS (aE Tryz.dz) (aS (aE Tryz.gv) (aS (dj Tryz.rH) (aS (dj Tryz.tn) (aS (aE Tryz.p5) (aS (aE Tryz.C9) (aS (Tryz.FB) (aS (Tryz.CK) (aS (Tryz.zL) (aS (Tryz.Hb) (aS (Tryz.Lk) (aS (Tryz.vL) (aS (Tryz.JG) (aS (Tryz.Hu) (aS (Tryz.LI) (bY Tryz.bZ))))))))))))))))
@[reducible] def Tryz.Dp:List Ob:=Tryz.bw++Tryz.bC
def Tryz.Dq (l:List (D bT)):cy:=[(200000,fun st=>{X:=Nat,inv:=fun i=>i<=l.length,aW:=fun i=>l.length - i,aQ:=fun i=>[(7,sI i)],aU:=[0,5,6],aO:=Tryz.Dp,refs:=[(5,0),(6,2)],pd:=fun i=>((dw (l.take i)).1.1,(dw (l.take i)).1.2.1,(dw (l.take i)).2,())})]
def Tryz.tp:List (Alt [] [.d (.slice bT)]):=[{bV:=Tryz.Dp,res:=[.obj 0, .obj 2, .d .bool],out:=fun a _=>((dw a.1).1.1,(dw a.1).1.2.1,(dw a.1).2,()),ret:=fun _ _=>(true,())}]
theorem LK (l:List (D bT)) (hw:hP [.d (.slice bT)] (l,())):(dR Tryz.B Tryz.Am Tryz.f24 (Tryz.Dq l) [] [.d (.slice bT)] Tryz.tp (l,()) ()).holds:=by
 refine holds_of (p:=
  let za:=List.length l
  let zb:=@List.nil (List UInt8 × List UInt8 × Int × Unit) = @List.nil (List UInt8 × List UInt8 × Int × Unit)/\True
  let zc:=(!false && true)=true
  let zd:=((0:Int),())
  let ze:=fun (x_0:Nat)=>(dw (List.take x_0 l)).1
  let zf:=fun (x_0:Nat)=>(dw (List.take x_0 l)).2
  let zg:=fun (x_0:Nat)=>(nth bT l x_0).2.1
  let zh:=fun (x_0:Nat)=>dO (ze x_0) (zg x_0) (nth bT l x_0).2.2.1
  let zi:=fun (x_0:Nat)=>ek (zf x_0) (zg x_0) (nth bT l x_0).2.2.1
  let zj:=fun (x_0:Nat)=>(↑x_0:Int) + (1:Int)
  let zk:=fun (x_0:Nat)=>(List.length (ze x_0).2.1.1<=(6:Nat)/\(0:Int)<=(ze x_0).1.1/\(ze x_0).1.1<=(1000000:Int))/\((True)->(List.length (zf x_0).1<=(6:Nat)/\(0:Int)<=(zf x_0).2.1/\(zf x_0).2.1<=(1000000:Int))/\((True)->(True)/\(True)/\((True)->(True)/\((True)->(((!cG (aY (zh x_0).2) (zi x_0).2)=true->(False))/\((!cG (aY (zh x_0).2) (zi x_0).2)=false->(((!(bS (zh x_0).1 (zg x_0)).1 == (bH (zi x_0).1.1 (zg x_0)).1)=true->(False))/\((!(bS (zh x_0).1 (zg x_0)).1 == (bH (zi x_0).1.1 (zg x_0)).1)=false->((((bS (zh x_0).1 (zg x_0)).2.1 != (bH (zi x_0).1.1 (zg x_0)).2.1)=true->(False))/\(((bS (zh x_0).1 (zg x_0)).2.1 != (bH (zi x_0).1.1 (zg x_0)).2.1)=false->(True)/\(((!cG (aY (bS (zh x_0).1 (zg x_0)).2.2) (bH (zi x_0).1.1 (zg x_0)).2.2)=true->(False))/\((!cG (aY (bS (zh x_0).1 (zg x_0)).2.2) (bH (zi x_0).1.1 (zg x_0)).2.2)=false->(List.length (zh x_0).1.2.1.1<=(6:Nat)/\List.Nodup (List.map cr (zh x_0).1.2.1.1))/\((True)->(List.length (zi x_0).1.1<=(6:Nat))/\((True)->(True)/\(((!gF (lz (zh x_0).1) (List.map eo (zi x_0).1.1))=true->(False))/\((!gF (lz (zh x_0).1) (List.map eo (zi x_0).1.1))=false->((aC (↑x_0:Int))->((aC (1:Int))->(aC (zj x_0))/\(∃(x':Nat),x'<=za/\za - x' < za - x_0/\(zj x_0=(↑x':Int)/\True)/\zb/\zc/\((zh x_0).1.1,(zh x_0).1.2.1,(zi x_0).1,())=((dw (List.take x' l)).1.1,(dw (List.take x' l)).1.2.1,(dw (List.take x' l)).2,()))))))))))))))))))))
  let zl:=fun (x_0:Nat)=>(dU (ze x_0) (zg x_0)).1
  let zm:=fun (x_0:Nat)=>(ed (zf x_0) (zg x_0)).1.1
  (True)/\((True)->(((∃(x':Nat),x'<=za/\True/\((0:Int)=(↑x':Int)/\True)/\zb/\zc/\(zd,([],zd),([],zd),())=((dw (List.take x' l)).1.1,(dw (List.take x' l)).1.2.1,(dw (List.take x' l)).2,())))/\((∀x_0:Nat,((x_0<=za)->((za<=aG)->(((decide ((↑x_0:Int) < (↑za:Int)))=true->((0:Int)<=(↑x_0:Int)/\(↑x_0:Int) < (↑za:Int))/\((((nth bT l x_0).1 == [(119:UInt8),114,105,116,101])=true->((fun a0 a1:Prop=>a0/\a1/\a0/\a0) ((zk x_0)) (((fun a0:Prop=>a0/\a0) ((zk x_0))))))/\(((nth bT l x_0).1 == [(119:UInt8),114,105,116,101])=false->((fun a0:Prop=>a0/\a0) ((True)/\((True)->(List.length (zf x_0).1<=(6:Nat))/\((True)->(True)/\(True)/\((True)->(True)/\((True)->(((!cG (aY (dU (ze x_0) (zg x_0)).2) (ed (zf x_0) (zg x_0)).2)=true->(False))/\((!cG (aY (dU (ze x_0) (zg x_0)).2) (ed (zf x_0) (zg x_0)).2)=false->(((!(bS (zl x_0) (zg x_0)).1 == (bH (zm x_0) (zg x_0)).1)=true->(False))/\((!(bS (zl x_0) (zg x_0)).1 == (bH (zm x_0) (zg x_0)).1)=false->((((bS (zl x_0) (zg x_0)).2.1 != (bH (zm x_0) (zg x_0)).2.1)=true->(False))/\(((bS (zl x_0) (zg x_0)).2.1 != (bH (zm x_0) (zg x_0)).2.1)=false->(True)/\(((!cG (aY (bS (zl x_0) (zg x_0)).2.2) (bH (zm x_0) (zg x_0)).2.2)=true->(False))/\((!cG (aY (bS (zl x_0) (zg x_0)).2.2) (bH (zm x_0) (zg x_0)).2.2)=false->(List.length (zl x_0).2.1.1<=(6:Nat)/\List.Nodup (List.map cr (zl x_0).2.1.1))/\((True)->(List.length (zm x_0)<=(6:Nat))/\((True)->(True)/\(((!gF (lz (zl x_0)) (List.map eo (zm x_0)))=true->(False))/\((!gF (lz (zl x_0)) (List.map eo (zm x_0)))=false->((aC (↑x_0:Int))->((aC (1:Int))->(aC (zj x_0))/\(∃(x':Nat),x'<=za/\za - x' < za - x_0/\(zj x_0=(↑x':Int)/\True)/\zb/\zc/\((zl x_0).1,(zl x_0).2.1,(ed (zf x_0) (zg x_0)).1,())=((dw (List.take x' l)).1.1,(dw (List.take x' l)).1.2.1,(dw (List.take x' l)).2,())))))))))))))))))))))))))/\((decide ((↑x_0:Int) < (↑za:Int)))=false->(True/\((ze x_0).1,(ze x_0).2.1,zf x_0,())=((dw l).1.1,(dw l).1.2.1,(dw l).2,())/\(true,())=(true,()))))))))))) (by kernel_rfl) ?_
 dsimp -iota -proj -eta only
 refine ⟨trivial,fun h0=>⟨(⟨0,by omega,trivial,⟨rfl,trivial⟩,⟨rfl,trivial⟩,rfl,rfl⟩),fun x_0 q_0 h1=>iL (fun h2=>⟨(by omega),iQ (fun h3=>(show ∀{a0 a1:Prop},a0->a1->a0/\a1/\a0/\a0 from fun g0 g1=>⟨g0,g1,g0,g0⟩) (⟨?a,fun h4=>⟨?b,fun h5=>⟨trivial,trivial,fun h6=>⟨trivial,fun h7=>⟨fun h8 => ?c,fun h8=>⟨fun h9 => ?d,fun h9=>iN (fun h10 => ?e) (fun h10=>⟨trivial,⟨fun h11 => ?f,fun h11=>⟨?g,fun h12=>⟨?h,fun h13=>⟨trivial,⟨fun h14 => ?i,fun h14 h15 h16=>⟨?j,?k⟩⟩⟩⟩⟩⟩⟩)⟩⟩⟩⟩⟩⟩) ((show ∀{a0:Prop},a0->a0/\a0 from fun g0=>⟨g0,g0⟩) (⟨?l,fun h4=>⟨?m,fun h5=>⟨trivial,trivial,fun h6=>⟨trivial,fun h7=>⟨fun h8 => ?n,fun h8=>⟨fun h9 => ?o,fun h9=>iN (fun h10 => ?p) (fun h10=>⟨trivial,⟨fun h11 => ?q,fun h11=>⟨?r,fun h12=>⟨?s,fun h13=>⟨trivial,⟨fun h14 => ?t,fun h14 h15 h16=>⟨?u,?v⟩⟩⟩⟩⟩⟩⟩)⟩⟩⟩⟩⟩⟩))) (fun h3=>(show ∀{a0:Prop},a0->a0/\a0 from fun g0=>⟨g0,g0⟩) (⟨trivial,fun h4=>⟨((bx (l.take x_0)).GD),fun h5=>⟨trivial,trivial,fun h6=>⟨trivial,fun h7=>⟨fun h8 => ?w,fun h8=>⟨fun h9 => ?x,fun h9=>iN (fun h10 => ?y) (fun h10=>⟨trivial,⟨fun h11 => ?z,fun h11=>⟨?a0,fun h12=>⟨?a1,fun h13=>⟨trivial,⟨fun h14 => ?a2,fun h14 h15 h16=>⟨?a3,?a4⟩⟩⟩⟩⟩⟩⟩)⟩⟩⟩⟩⟩⟩))⟩) (fun h2=>(by rw [List.take_of_length_le (by omega)];exact ⟨trivial,rfl,rfl⟩))⟩⟩
 case a|l=>exact (bx (l.take x_0)).pre
 case b|m=>exact (bx (l.take x_0)).Og
 case c|n=>
  simp only [bl,reduceCtorEq] at h8
  exact Bool.noConfusion (((bx (l.take x_0)).Nk (nth bT l x_0).2.1 (nth bT l x_0).2.2.1).symm.trans h8)
 case d|o=>
  simp only [bl,reduceCtorEq] at h8 h9
  have hi:=bx (l.take x_0);have hw:=(hi.write (nth bT l x_0).2.1 (nth bT l x_0).2.2.1).1
  exact absurd (congrArg Prod.fst (hw.read (nth bT l x_0).2.1)) h9
 case e|p=>
  simp only [bl,reduceCtorEq] at h8 h9
  have hi:=bx (l.take x_0);have hw:=(hi.write (nth bT l x_0).2.1 (nth bT l x_0).2.2.1).1
  exact absurd (congrArg (fun z=>z.2.1) (hw.read (nth bT l x_0).2.1)) h10
 case f|q=>
  simp only [bl,reduceCtorEq] at h8 h9 h11
  have hi:=bx (l.take x_0);have hw:=(hi.write (nth bT l x_0).2.1 (nth bT l x_0).2.2.1).1
  exact Bool.noConfusion ((hw.L1 (nth bT l x_0).2.1).symm.trans h11)
 case g|r=>
  simp only [bl,reduceCtorEq] at h8 h9 h11
  have hi:=bx (l.take x_0);have hw:=(hi.write (nth bT l x_0).2.1 (nth bT l x_0).2.2.1).1
  exact hw.Nj
 case h|s=>
  simp only [bl,reduceCtorEq] at h8 h9 h11
  have hi:=bx (l.take x_0);have hw:=(hi.write (nth bT l x_0).2.1 (nth bT l x_0).2.2.1).1
  exact hw.GD
 case i|t=>
  simp only [bl,reduceCtorEq] at h8 h9 h11 h14
  have hi:=bx (l.take x_0);have hw:=(hi.write (nth bT l x_0).2.1 (nth bT l x_0).2.2.1).1
  exact Bool.noConfusion (hw.L0.symm.trans h14)
 case j|u|a3=>
  simp only [bl,reduceCtorEq] at h8 h9 h11 h14
  simp only [aC,aG] at *;omega
 case k|v=>
  simp only [bl,reduceCtorEq] at h8 h9 h11 h14
  exact ⟨x_0 + 1,by omega,by omega,⟨by omega,trivial⟩,⟨rfl,trivial⟩,rfl,by rw [yJ (by omega),DZ (by unfold sQ;assumption)]⟩
 case w=>
  simp only [bl,reduceCtorEq] at h8
  exact Bool.noConfusion (((bx (l.take x_0)).Mq (nth bT l x_0).2.1).symm.trans h8)
 case x=>
  simp only [bl,reduceCtorEq] at h8 h9
  have hi:=bx (l.take x_0);have hw:=(hi.remove (nth bT l x_0).2.1).1
  exact absurd (congrArg Prod.fst (hw.read (nth bT l x_0).2.1)) h9
 case y=>
  simp only [bl,reduceCtorEq] at h8 h9
  have hi:=bx (l.take x_0);have hw:=(hi.remove (nth bT l x_0).2.1).1
  exact absurd (congrArg (fun z=>z.2.1) (hw.read (nth bT l x_0).2.1)) h10
 case z=>
  simp only [bl,reduceCtorEq] at h8 h9 h11
  have hi:=bx (l.take x_0);have hw:=(hi.remove (nth bT l x_0).2.1).1
  exact Bool.noConfusion ((hw.L1 (nth bT l x_0).2.1).symm.trans h11)
 case a0=>
  simp only [bl,reduceCtorEq] at h8 h9 h11
  have hi:=bx (l.take x_0);have hw:=(hi.remove (nth bT l x_0).2.1).1
  exact hw.Nj
 case a1=>
  simp only [bl,reduceCtorEq] at h8 h9 h11
  have hi:=bx (l.take x_0);have hw:=(hi.remove (nth bT l x_0).2.1).1
  exact hw.GD
 case a2=>
  simp only [bl,reduceCtorEq] at h8 h9 h11 h14
  have hi:=bx (l.take x_0);have hw:=(hi.remove (nth bT l x_0).2.1).1
  exact Bool.noConfusion (hw.L0.symm.trans h14)
 case a4=>
  simp only [bl,reduceCtorEq] at h8 h9 h11 h14
  exact ⟨x_0 + 1,by omega,by omega,⟨by omega,trivial⟩,⟨rfl,trivial⟩,rfl,by rw [yJ (by omega),Ca (by unfold sQ;assumption)]⟩
theorem Tryz.LL:cL Tryz.prog Tryz.B.eT Tryz.X 24 false (bM [] [.d (.slice bT)] (fun _ _=>True) Tryz.tp):=
 cn (X:=Tryz.X) Tryz.EF Tryz.func24 (by kernel_rfl) (fun (a:CD [.d (.slice bT)]) (x:PD [])=>Tryz.Dq a.1) (fun (a:CD [.d (.slice bT)]) (x:PD []) hw hp=>LK a.1 hw)
end Go.Proofs.YtgokjhhcfemnhaaGreatDoor

