/- A part of the proof that the law EntrySaysCard holds of the given program: facts that are used there. -/
import Derived.Test.YtgokjhhcfemnhabGreatDoorPart4
import Derived.Shelf.Strconv.Itoa3
import Derived.Shelf.Strconv.AtoiAll
import Derived.Shelf.Strings.Split
import Derived.Shelf.Small.Wraps
import Derived.Shelf.Strings.Prefix
import Derived.Shelf.LaysM
import Derived.Shelf.LaysC
import Derived.Test.YtgokjhhcfemnhabGreatDoorChecked
import Derived.Sort.Grow
import Derived.Lib.SplitLaws
import Derived.Lib.Builder
import Derived.Lib.UnsafeStr
import Derived.Lib.Strings
import Derived.Lib.Slices
import Derived.Lib.Walk
import Derived.Laws.Externs
import Derived.Deep.Heap
import Derived.Shelf.RegionOpenPlain
set_option linter.unusedSimpArgs false
set_option linter.unusedVariables false
set_option maxRecDepth 100000
set_option maxHeartbeats 4000000
namespace Go.Proofs.YtgokjhhcfemnhabGreatDoor
open Go.Vg Go.Mrl
theorem P5 (l:List (D aA)) (b:List Int) (t:D aO) (hw:eE [.slice aA, .slice (.int .i64),aO] (l,b,t)) (hp:(fun x=>ij x.1/\x.2.1.length=x.1.length/\jL x.2.1) (l,b,t)):(cM Tryz.B Tryz.Ip Tryz.f189 [] [.slice aA, .slice (.int .i64),aO] [.int .i64, .err] (fun x y=>y=(fun x=>fP x.1 x.2.1 x.2.2) x) (l,b,t)).holds:=by
 refine holds_of (p:=
  let za:=dF (l,t.2.2.2.1)
  let zb:=(0:Int)<=za.1
  let zc:=(nth aA l (Int.toNat za.1)).2.2.1
  let zd:=nth (Ty.int IntKind.i64) b (Int.toNat za.1)
  let ze:=(nth aN zc (Int.toNat za.2)).2.1
  let zf:=fP l b t
  (True)/\(((decide (za.1>=(0:Int)))=true->(zb/\za.1 < (↑(List.length b):Int))/\(zb/\za.1 < (↑(List.length l):Int))/\((0:Int)<=za.2/\za.2 < (↑(List.length zc):Int))/\((aE zd)->((aE ze)->(aE (zd + ze))/\((zd + ze,bC.nil)=zf))))/\((decide (za.1>=(0:Int)))=false->(((t.2.2.2.2.1)=true->(((0:Int),bC.nil)=zf))/\((t.2.2.2.2.1)=false->(((0:Int),bC.no (6:Int))=zf)))))) (by kernel_rfl) ?_
 dsimp -iota -proj -eta only
 dsimp only at hp
 refine ⟨trivial,iE (fun h0=>⟨?a,?b,?c,fun h1 h2=>⟨?d,((nn (by omega)).symm)⟩⟩) (fun h0=>⟨fun h1=>((mc (by omega) h1).symm),fun h1=>((rC (by omega) h1).symm)⟩)⟩
 case a|b|c=>
  have hf:=qZ (l:=l) (s:=t.2.2.2.1) (by omega)
  omega
 case d=>
  have hf:=qZ (l:=l) (s:=t.2.2.2.1) (by omega)
  have hb:=lr (n:=l.length) (i:=(dF (l,t.2.2.2.1)).1) hp.2.2 hp.2.1 (by omega) hf.1;have hs:=Bx (s:=t.2.2.2.1) hp.1 (by omega)
  unfold Small at hs;dsimp only [D] at *;simp only [aE];omega
theorem Tryz.P6:bK Tryz.prog Tryz.B.eT Tryz.X 189 [.slice aA, .slice (.int .i64),aO] [.int .i64, .err] (fun x=>ij x.1/\x.2.1.length=x.1.length/\jL x.2.1) (fun x y=>y=(fun x=>fP x.1 x.2.1 x.2.2) x):=
 bM (X:=Tryz.X) Tryz.Nu Tryz.func189 (by kernel_rfl) (fun _=>[]) (fun x hw hp=>P5 x.1 x.2.1 x.2.2 hw hp)
noncomputable def Tryz.EU:List (FuncId × (Bool × bQ)):=[(189,(true,aL [.slice aA, .slice (.int .i64),aO] [.int .i64, .err] (fun x=>ij x.1/\x.2.1.length=x.1.length/\jL x.2.1) (fun x=>fP x.1 x.2.1 x.2.2)))]
theorem Tryz.J9:bT Tryz.prog Tryz.B Tryz.X Tryz.EU:=
 aP (aC Tryz.P6) (bW Tryz.bX)
theorem UQ (l:List (D aA)) (b:List Int) (i:Int) (t:D aO) (hw:eE [.slice aA, .slice (.int .i64), .int .i64,aO] (l,b,i,t)) (hp:(fun x=>ij x.1/\x.2.1.length=x.1.length/\jL x.2.1/\0<=x.2.2.1/\x.2.2.1 < x.1.length/\Small x.2.2.2.1/\Word x.2.2.2.2.2.1) (l,b,i,t)):(cM Tryz.B Tryz.EU Tryz.f144 [] [.slice aA, .slice (.int .i64), .int .i64,aO] [.int .i64, .err] (fun x y=>y=(fun x=>fN x.1 x.2.1 x.2.2.1 x.2.2.2) x) (l,b,i,t)).holds:=by
 refine holds_of (p:=
  let za:=(0:Int)<=i/\i < (↑(List.length b):Int)
  let zb:=nth (Ty.int IntKind.i64) b (Int.toNat i)
  let zc:=t.2.2.1
  let zd:=zb + zc
  let ze:=fP l b t
  let zf:=fN l b i t
  let zg:=ze.1 + zc
  let zh:=t.2.1 == (3:Int)
  let zi:=zb + t.1
  let zj:=aE zi
  let zk:=zg - zi
  let zl:=((0:Int),bC.no (7:Int))=zf
  let zm:=(-2147483648:Int)
  let zn:=zd - zi
  (za)/\((aE zb)->((aE zc)->(aE zd)/\(((t.2.1 != (1:Int))=true->(ij l/\List.length b=List.length l/\jL b)/\(((!bC.isNil ze.2)=true->(((0:Int),ze.2)=zf))/\((!bC.isNil ze.2)=false->((aE ze.1)->((aE zc)->(aE zg)/\(((zh)=true->(za)/\((aE zb)->((aE t.1)->(zj)/\((aE zg)->((zj)->(aE zk)/\(((decide (zk < (-500:Int)))=true->(zl))/\((decide (zk < (-500:Int)))=false->(((decide (zk > (500:Int)))=true->(zl))/\((decide (zk > (500:Int)))=false->(((decide (zk < zm))=true->(zl))/\((decide (zk < zm))=false->(((decide (zk > (2147483647:Int)))=true->(zl))/\((decide (zk > (2147483647:Int)))=false->((zk,bC.nil)=zf))))))))))))))/\((zh)=false->(((decide (zg < zm))=true->(zl))/\((decide (zg < zm))=false->(((decide (zg > (2147483647:Int)))=true->(zl))/\((decide (zg > (2147483647:Int)))=false->((zg,bC.nil)=zf))))))))))))/\((t.2.1 != (1:Int))=false->(((zh)=true->(za)/\((aE zb)->((aE t.1)->(zj)/\((aE zd)->((zj)->(aE zn)/\(((decide (zn < (-500:Int)))=true->(zl))/\((decide (zn < (-500:Int)))=false->(((decide (zn > (500:Int)))=true->(zl))/\((decide (zn > (500:Int)))=false->(((decide (zn < zm))=true->(zl))/\((decide (zn < zm))=false->(((decide (zn > (2147483647:Int)))=true->(zl))/\((decide (zn > (2147483647:Int)))=false->((zn,bC.nil)=zf))))))))))))))/\((zh)=false->(((decide (zd < zm))=true->(zl))/\((decide (zd < zm))=false->(((decide (zd > (2147483647:Int)))=true->(zl))/\((decide (zd > (2147483647:Int)))=false->((zd,bC.nil)=zf)))))))))))) (by kernel_rfl) ?_
 dsimp -iota -proj -eta only
 dsimp only at hp
 refine ⟨?a,fun h0 h1=>⟨?b,iN (fun h2=>⟨(by simp_all),iB (fun h3=>((K6 (by assumption) (by assumption)).symm)) (fun h3 h4 h5=>⟨?c,iQ (fun h6=>⟨?d,fun h7 h8=>⟨?e,fun h9 h10=>⟨?f,iL (fun h11 => ?g) (fun h11=>iL (fun h12 => ?h) (fun h12=>iL (fun h13 => ?i) (fun h13=>iL (fun h14 => ?j) (fun h14=>(by rw [kD (by assumption) (by assumption),CT (by assumption) rfl (by dsimp only [D] at *;omega)])))))⟩⟩⟩) (fun h6=>iL (fun h7 => ?k) (fun h7=>iL (fun h8 => ?l) (fun h8=>(by rw [kD (by assumption) (by assumption),tL (by assumption) rfl (by dsimp only [D] at *;omega)]))))⟩)⟩) (fun h2=>iQ (fun h3=>⟨?m,fun h4 h5=>⟨?n,fun h6 h7=>⟨?o,iL (fun h8 => ?p) (fun h8=>iL (fun h9 => ?q) (fun h9=>iL (fun h10 => ?r) (fun h10=>iL (fun h11 => ?s) (fun h11 => ?t))))⟩⟩⟩) (fun h3=>iL (fun h4 => ?u) (fun h4=>iL (fun h5 => ?v) (fun h5=>(by rw [uQ (by assumption),tL (by simp_all) rfl (by dsimp only [D] at *;omega)])))))⟩⟩
 case a|d|i|j|m|r|s=>omega
 case b|c|e|f|n|o=>
  have hb:=lr hp.2.2.1 hp.2.1 hp.2.2.2.1 hp.2.2.2.2.1;have ht:=wR t hp.1 hp.2.1 hp.2.2.1;have hs:=hp.2.2.2.2.2;unfold Small Word at hs;dsimp only [D] at *
  simp only [aE];omega
 case g|h=>rw [kD (by assumption) (by assumption),Ak (by assumption) (by dsimp only [D] at *;omega)]
 case k|l=>
  have hb:=lr hp.2.2.1 hp.2.1 hp.2.2.2.1 hp.2.2.2.2.1;have ht:=wR t hp.1 hp.2.1 hp.2.2.1;have hs:=hp.2.2.2.2.2;unfold Small Word at hs;dsimp only [D] at *
  first | omega | (rw [kD (by assumption) (by assumption),rD (by assumption) (by omega)])
 case p|q|t=>dsimp only [D] at *;omega
 case u|v=>
  have hb:=lr hp.2.2.1 hp.2.1 hp.2.2.2.1 hp.2.2.2.2.1;have ht:=wR t hp.1 hp.2.1 hp.2.2.1;have hs:=hp.2.2.2.2.2;unfold Small Word at hs;dsimp only [D] at *
  first | omega | (rw [uQ (by assumption),rD (by simp_all) (by omega)])
theorem Tryz.UR:bK Tryz.prog Tryz.B.eT Tryz.X 144 [.slice aA, .slice (.int .i64), .int .i64,aO] [.int .i64, .err] (fun x=>ij x.1/\x.2.1.length=x.1.length/\jL x.2.1/\0<=x.2.2.1/\x.2.2.1 < x.1.length/\Small x.2.2.2.1/\Word x.2.2.2.2.2.1) (fun x y=>y=(fun x=>fN x.1 x.2.1 x.2.2.1 x.2.2.2) x):=
 bM (X:=Tryz.X) Tryz.J9 Tryz.func144 (by kernel_rfl) (fun _=>[]) (fun x hw hp=>UQ x.1 x.2.1 x.2.2.1 x.2.2.2 hw hp)
noncomputable def Tryz.EV:List (FuncId × (Bool × bQ)):=[(144,(true,aL [.slice aA, .slice (.int .i64), .int .i64,aO] [.int .i64, .err] (fun x=>ij x.1/\x.2.1.length=x.1.length/\jL x.2.1/\0<=x.2.2.1/\x.2.2.1 < x.1.length/\Small x.2.2.2.1/\Word x.2.2.2.2.2.1) (fun x=>fN x.1 x.2.1 x.2.2.1 x.2.2.2)))]
theorem Tryz.Ka:bT Tryz.prog Tryz.B Tryz.X Tryz.EV:=
 aP (aC Tryz.UR) (bW Tryz.bX)
def P7 (l:List (D aA)) (b:List Int):cN:=[
 (0,fun st=>{X:=Nat,inv:=fun i=>i<=b.length/\∀j,j < i->0<=(nth (.int .i64) b j:Int)/\(nth (.int .i64) b j:Int)<=256,bA:=fun i=>b.length - i,aS:=fun i=>[(23,sI i)],aX:=[0,1,21,22]}),
 (2,fun st=>{X:=Nat × List (D aH),inv:=fun x=>x.1<=l.length/\kx l b (l.drop x.1) x.1 x.2=kx l b l 0 []/\x.2.length<=10 * x.1,bA:=fun x=>l.length - x.1,aS:=fun x=>[(37,sI x.1),(8, .s (.one (.app aH x.2 (aQ st 8))))],aK:=fun x=>[(aQ st 8, .tok aH x.2)],aX:=[0,1,35,36],eD:=[aQ st 8]}),
 (4,fun st=>{X:=Nat × List (D aH),inv:=fun x=>x.1<=(nth aA l (aZ (.int .i64) st 37).toNat).2.2.2.1.length/\jB (kx l b (l.drop ((aZ (.int .i64) st 37).toNat + 1)) ((aZ (.int .i64) st 37).toNat + 1)) (kO l b (aZ (.int .i64) st 37).toNat ((nth aA l (aZ (.int .i64) st 37).toNat).2.2.2.1.drop x.1) x.2)=kx l b l 0 []/\x.2.length<=10 * (aZ (.int .i64) st 37).toNat + x.1,bA:=fun x=>(nth aA l (aZ (.int .i64) st 37).toNat).2.2.2.1.length - x.1,aS:=fun x=>[(45,sI x.1),(8, .s (.one (.app aH x.2 (aQ st 8))))],aK:=fun x=>[(aQ st 8, .tok aH x.2)],aX:=[0,1,9,10,35,36,37,38,39,40,41,42,43,44],eD:=[aQ st 8]})]
theorem US (l:List (D aA)) (b:List Int) (hw:eE [.slice aA, .slice (.int .i64)] (l,b)) (hp:(fun x=>ij x.1) (l,b)):(cM Tryz.B Tryz.EV Tryz.f111 (P7 l b) [.slice aA, .slice (.int .i64)] [.slice aH, .err] (fun x y=>y=(fun x=>dW x) x) (l,b)).holds:=by
 refine holds_of (p:=
  let za:=List.length b
  let zb:=List.length l
  let zc:=dW (l,b)
  let zd:=Ty.int IntKind.i64
  let ze:=([],bC.no (1:Int))=zc
  let zf:=aE (1:Int)
  let zg:=@List.nil (Int × Int × Int × Unit) = @List.nil (Int × Int × Int × Unit)/\True
  let zh:=Nat × List (Int × Int × Int × Unit)
  let zi:=kx l b l (0:Nat) (@List.nil Pt)
  let zj:=fun (x_1:Nat × List (Int × Int × Int × Unit))=>(10:Nat) * x_1.1
  let zk:=fun (x_1:Nat × List (Int × Int × Int × Unit))=>(↑x_1.1:Int)
  let zl:=fun (x_1:Nat × List (Int × Int × Int × Unit))=>zk x_1 < (↑zb:Int)
  let zm:=fun (x_1:Nat × List (Int × Int × Int × Unit))=>(0:Int)<=zk x_1
  let zn:=fun (x_1:Nat × List (Int × Int × Int × Unit))=>(nth aA l x_1.1).2.2.2.1
  let zo:=fun (x_1:Nat × List (Int × Int × Int × Unit))=>List.length (zn x_1)
  let zp:=fun (x_1:Nat × List (Int × Int × Int × Unit))=>kx l b (List.drop (x_1.1 + (1:Nat)) l) (x_1.1 + (1:Nat))
  let zq:=fun (x_1 x_2:Nat × List (Int × Int × Int × Unit))=>(fN l b (zk x_1) (nth aO (zn x_1) x_2.1)).2
  let zr:=fun (x_1 x_2:Nat × List (Int × Int × Int × Unit))=>[(zk x_1,(nth aO (zn x_1) x_2.1).1,(fN l b (zk x_1) (nth aO (zn x_1) x_2.1)).1,())]
  ((za<=aJ)->((zb<=aJ)->((((↑za:Int) != (↑zb:Int))=true->(([],bC.no (3:Int))=zc))/\(((↑za:Int) != (↑zb:Int))=false->((za<=aJ)->(∃(x:Nat),(x<=za/\∀(j:Nat),j < x->(0:Int)<=nth zd b j/\nth zd b j<=(256:Int))/\((0:Int)=(↑x:Int)/\True)/\True)/\(∀x_0:Nat,((x_0<=za/\∀(j:Nat),j < x_0->(0:Int)<=nth zd b j/\nth zd b j<=(256:Int))->(((decide ((↑x_0:Int) < (↑za:Int)))=true->((0:Int)<=(↑x_0:Int)/\(↑x_0:Int) < (↑za:Int))/\(((decide (nth zd b x_0 < (0:Int)))=true->(ze))/\((decide (nth zd b x_0 < (0:Int)))=false->(((decide (nth zd b x_0 > (256:Int)))=true->(ze))/\((decide (nth zd b x_0 > (256:Int)))=false->((aE (↑x_0:Int))->((zf)->(aE ((↑x_0:Int) + (1:Int)))/\(∃(x':Nat),(x'<=za/\∀(j:Nat),j < x'->(0:Int)<=nth zd b j/\nth zd b j<=(256:Int))/\za - x' < za - x_0/\((↑x_0:Int) + (1:Int)=(↑x':Int)/\True)/\zg))))))))/\((decide ((↑x_0:Int) < (↑za:Int)))=false->((zb<=aJ)->(∃(x:zh),(Prod.fst x<=zb/\kx l b (List.drop (Prod.fst x) l) (Prod.fst x) (Prod.snd x)=zi/\List.length (Prod.snd x)<=(10:Nat) * Prod.fst x)/\((0:Int)=(↑(Prod.fst x):Int)/\@List.nil (Int × Int × Int × Unit)=Prod.snd x/\True)/\@List.nil (Int × Int × Int × Unit)=Prod.snd x/\True)/\(∀x_1:Nat × List (Int × Int × Int × Unit),((x_1.1<=zb/\kx l b (List.drop x_1.1 l) x_1.1 x_1.2=zi/\List.length x_1.2<=zj x_1)->(((decide (zl x_1))=true->(zm x_1/\zl x_1)/\((zo x_1<=aJ)->(∃(x:zh),(Prod.fst x<=zo x_1/\jB (zp x_1) (kO l b x_1.1 (List.drop (Prod.fst x) (zn x_1)) (Prod.snd x))=zi/\List.length (Prod.snd x)<=zj x_1 + Prod.fst x)/\((0:Int)=(↑(Prod.fst x):Int)/\x_1.2=Prod.snd x/\True)/\x_1.2=Prod.snd x/\True)/\(∀x_2:Nat × List (Int × Int × Int × Unit),((x_2.1<=zo x_1/\jB (zp x_1) (kO l b x_1.1 (List.drop x_2.1 (zn x_1)) x_2.2)=zi/\List.length x_2.2<=zj x_1 + x_2.1)->(((decide (zk x_2 < (↑(zo x_1):Int)))=true->(zm x_2/\zk x_2 < (↑(zo x_1):Int))/\(ij l/\za=zb/\jL b/\zm x_1/\zl x_1/\Small (nth aO (zn x_1) x_2.1).1/\Word (nth aO (zn x_1) x_2.1).2.2.1)/\(((!bC.isNil (zq x_1 x_2))=true->(([],zq x_1 x_2)=zc))/\((!bC.isNil (zq x_1 x_2))=false->(x_2.2=x_2.2/\List.length x_2.2 + List.length (zr x_1 x_2)<=(1000000000:Nat))/\((aE (zk x_2))->((zf)->(aE (zk x_2 + (1:Int)))/\(∃(x':zh),(Prod.fst x'<=zo x_1/\jB (zp x_1) (kO l b x_1.1 (List.drop (Prod.fst x') (zn x_1)) (Prod.snd x'))=zi/\List.length (Prod.snd x')<=zj x_1 + Prod.fst x')/\zo x_1 - Prod.fst x' < zo x_1 - x_2.1/\(zk x_2 + (1:Int)=(↑(Prod.fst x'):Int)/\x_2.2++zr x_1 x_2=Prod.snd x'/\True)/\x_2.2++zr x_1 x_2=Prod.snd x'/\((nth aA l x_1.1).1=(nth aA l x_1.1).1/\(nth aA l x_1.1).2.1=(nth aA l x_1.1).2.1/\(nth aA l x_1.1).2.2.1=(nth aA l x_1.1).2.2.1/\zn x_1=zn x_1/\True)/\@List.nil (Int × Int × Int × List UInt8 × Bool × Unit) = @List.nil (Int × Int × Int × List UInt8 × Bool × Unit)/\@List.nil (List UInt8 × Int × Bool × Unit) = @List.nil (List UInt8 × Int × Bool × Unit)/\@List.nil Int = @List.nil Int/\@List.nil (List UInt8) = @List.nil (List UInt8)/\zg))))))/\((decide (zk x_2 < (↑(zo x_1):Int)))=false->((aE (zk x_1))->((zf)->(aE (zk x_1 + (1:Int)))/\(∃(x':zh),(Prod.fst x'<=zb/\kx l b (List.drop (Prod.fst x') l) (Prod.fst x') (Prod.snd x')=zi/\List.length (Prod.snd x')<=(10:Nat) * Prod.fst x')/\zb - Prod.fst x' < zb - x_1.1/\(zk x_1 + (1:Int)=(↑(Prod.fst x'):Int)/\x_2.2=Prod.snd x'/\True)/\x_2.2=Prod.snd x'/\zg)))))))))/\((decide (zl x_1))=false->((x_1.2,bC.nil)=zc)))))))))))))))) (by kernel_rfl) ?_
 dsimp -iota -proj -eta only
 dsimp only at hp
 refine fun h0 h1=>iN (fun h2=>((GW (by omega)).symm)) (fun h2 h3=>⟨(⟨0,⟨by omega,fun j hj=>by omega⟩,⟨rfl,trivial⟩,trivial⟩),fun x_0 q_0=>iL (fun h4=>⟨?a,iL (fun h5 => ?b) (fun h5=>iL (fun h6 => ?c) (fun h6 h7 h8=>⟨?d,(⟨x_0 + 1,⟨by omega,jA q_0.2 (by dsimp only [D] at *;omega)⟩,by omega,⟨by omega,trivial⟩,(by trivial)⟩)⟩))⟩) (fun h4 h5=>⟨(⟨(0,[]),⟨by omega,rfl,by simp⟩,(by trivial),(by trivial)⟩),fun x_1 q_1=>iL (fun h6=>⟨?e,fun h7=>⟨(by exact ⟨(0,x_1.2),⟨by omega,by rw [<-DK (by omega)];exact q_1.2.1,by simp only;omega⟩,(by trivial),(by trivial)⟩),fun x_2 q_2=>iL (fun h8=>⟨?f,?g,iB (fun h9 => ?h) (fun h9=>⟨?i,fun h10 h11=>⟨?j,?k⟩⟩)⟩) (fun h8 h9 h10=>⟨?l,?m⟩)⟩⟩) (fun h6 => ?n)⟩)⟩)
 case a|e|f=>omega
 case b|c=>exact (DL (i:=x_0) (by omega) (by omega) (by dsimp only [D] at *;omega)).symm
 case d|j|l=>simp only [aE,aJ] at *;omega
 case g=>
  have hlen:b.length=l.length:=(by omega);have hib:jL b:=fun j hj=>q_0.2 j (by omega)
  have hm:=hp.2 x_1.1 (by omega);have htk:=hm.2.2 x_2.1 (by omega);have hb:=lr (i:=(x_1.1:Int)) hib hlen (by omega) (by omega);unfold Small Word at htk;rw [Int.toNat_natCast] at hb
  exact ⟨hp,hlen,hib,by omega,by omega,htk.1,htk.2⟩
 case h=>
  have hlen:b.length=l.length:=(by omega);have hib:jL b:=fun j hj=>q_0.2 j (by omega)
  rw [nk hlen hib,<-q_2.2.1,pH (by omega) (by assumption)]
 case i=>
  have hlen:b.length=l.length:=(by omega);have hib:jL b:=fun j hj=>q_0.2 j (by omega)
  have hm:=hp.2 x_1.1 (by omega);have htk:=hm.2.2 x_2.1 (by omega);have hb:=lr (i:=(x_1.1:Int)) hib hlen (by omega) (by omega);unfold Small Word at htk;rw [Int.toNat_natCast] at hb
  have:=hm.1;have:=hp.1
  exact ⟨rfl,by simp only [List.length_singleton,aJ];omega⟩
 case k=>
  have ho:(fN l b x_1.1 (nth aO (nth aA l x_1.1).2.2.2.1 x_2.1)).2.isNil=true:=by assumption
  exact ⟨(x_2.1 + 1,_),⟨by omega,by rw [<-q_2.2.1,tK (k:=x_2.1) (by omega) ho],by simp only [List.length_append,List.length_singleton];omega⟩,by simp only;omega,⟨by simp only;omega,rfl,trivial⟩,(by trivial)⟩
 case m=>
  have hm:=hp.2 x_1.1 (by omega)
  exact ⟨(x_1.1 + 1,x_2.2),⟨by omega,by rw [<-q_2.2.1,K5 (by omega)],by have:=hm.1;simp only;omega⟩,by simp only;omega,⟨by simp only;omega,rfl,trivial⟩,(by trivial)⟩
 case n=>
  have hlen:b.length=l.length:=(by omega);have hib:jL b:=fun j hj=>q_0.2 j (by omega)
  rw [nk hlen hib,<-q_1.2.1,K4 (by omega)]
theorem Tryz.UT:bK Tryz.prog Tryz.B.eT Tryz.X 111 [.slice aA, .slice (.int .i64)] [.slice aH, .err] (fun x=>ij x.1) (fun x y=>y=(fun x=>dW x) x):=
 bM (X:=Tryz.X) Tryz.Ka Tryz.func111 (by kernel_rfl) (fun x=>P7 x.1 x.2) (fun x hw hp=>US x.1 x.2 hw hp)
def Iq (l:List (D aA)) (s:List UInt8):cN:=[
 (0,fun st=>{X:=Nat,inv:=fun p=>p<=2/\iZ l s p 0 0,bA:=fun p=>2 - p,aS:=fun p=>[(6,sI p)],aX:=[0,1]}),
 (2,fun st=>{X:=Nat,inv:=fun i=>i<=l.length/\iZ l s (aZ (.int .i64) st 6).toNat i 0,bA:=fun i=>l.length - i,aS:=fun i=>[(7,sI i)],aX:=[0,1,6,10,11]}),
 (4,fun st=>{X:=Nat,inv:=fun k=>k<=(nth aA l (aZ (.int .i64) st 7).toNat).2.2.1.length/\iZ l s (aZ (.int .i64) st 6).toNat (aZ (.int .i64) st 7).toNat k,bA:=fun k=>(nth aA l (aZ (.int .i64) st 7).toNat).2.2.1.length - k,aS:=fun k=>[(8,sI k)],aX:=[0,1,6,7,10,11,14,15,16,17]})]
theorem Si (l:List (D aA)) (s:List UInt8) (hw:eE [.slice aA, .str] (l,s)):(cM Tryz.B [] Tryz.f131 (Iq l s) [.slice aA, .str] [.int .i64, .int .i64] (fun x y=>y=(fun x=>dF x) x) (l,s)).holds:=by
 refine holds_of (p:=
  let za:=fun (x_0:Nat)=>(↑x_0:Int)
  let zb:=List.length l
  let zc:=fun (x_1:Nat)=>List.length (nth aA l x_1).2.2.1
  let zd:=fun (x_1:Nat)=>(0:Int)<=za x_1/\za x_1 < (↑zb:Int)
  let ze:=dF (l,s)
  let zf:=aE (1:Int)
  let zg:=fun (x_2:Nat)=>za x_2 + (1:Int)
  let zh:=fun (x_2:Nat) (x_1:Nat) (x_0:Nat)=>((aE (za x_2))->((zf)->(aE (zg x_2))/\(∃(x':Nat),(x'<=zc x_1/\iZ l s x_0 x_1 x')/\zc x_1 - x' < zc x_1 - x_2/\(zg x_2=(↑x':Int)/\True)/\True)))
  (∃(x:Nat),(x<=(2:Nat)/\iZ l s x (0:Nat) (0:Nat))/\((0:Int)=(↑x:Int)/\True)/\True)/\(∀x_0:Nat,((x_0<=(2:Nat)/\iZ l s x_0 (0:Nat) (0:Nat))->(((decide (za x_0 < (2:Int)))=true->(∃(x:Nat),(x<=zb/\iZ l s x_0 x (0:Nat))/\((0:Int)=(↑x:Int)/\True)/\True)/\(∀x_1:Nat,((x_1<=zb/\iZ l s x_0 x_1 (0:Nat))->((zb<=aJ)->(((decide (za x_1 < (↑zb:Int)))=true->(∃(x:Nat),(x<=zc x_1/\iZ l s x_0 x_1 x)/\((0:Int)=(↑x:Int)/\True)/\True)/\(∀x_2:Nat,((x_2<=zc x_1/\iZ l s x_0 x_1 x_2)->(zd x_1)/\((zc x_1<=aJ)->(((decide (za x_2 < (↑(zc x_1):Int)))=true->(zd x_1)/\((0:Int)<=za x_2/\za x_2 < (↑(zc x_1):Int))/\((((nth aN (nth aA l x_1).2.2.1 x_2).1 == s)=true->((((nth aN (nth aA l x_1).2.2.1 x_2).2.2.1 == (za x_0 == (1:Int)))=true->((za x_1,za x_2)=ze))/\(((nth aN (nth aA l x_1).2.2.1 x_2).2.2.1 == (za x_0 == (1:Int)))=false->(zh x_2 x_1 x_0))))/\(((nth aN (nth aA l x_1).2.2.1 x_2).1 == s)=false->(zh x_2 x_1 x_0))))/\((decide (za x_2 < (↑(zc x_1):Int)))=false->((aE (za x_1))->((zf)->(aE (zg x_1))/\(∃(x':Nat),(x'<=zb/\iZ l s x_0 x' (0:Nat))/\zb - x' < zb - x_1/\(zg x_1=(↑x':Int)/\True)/\True)))))))))/\((decide (za x_1 < (↑zb:Int)))=false->((aE (za x_0))->((zf)->(aE (zg x_0))/\(∃(x':Nat),(x'<=(2:Nat)/\iZ l s x' (0:Nat) (0:Nat))/\(2:Nat) - x' < (2:Nat) - x_0/\(zg x_0=(↑x':Int)/\True)/\True)))))))))/\((decide (za x_0 < (2:Int)))=false->(((-1:Int),(-1:Int))=ze)))))) (by kernel_rfl) ?_
 dsimp -iota -proj -eta only
 refine ⟨(⟨0,⟨by omega,iZ.start l s⟩,⟨rfl,trivial⟩,trivial⟩),fun x_0 q_0=>iL (fun h0=>⟨(⟨0,⟨by omega,q_0.2⟩,⟨rfl,trivial⟩,trivial⟩),fun x_1 q_1 h1=>iL (fun h2=>⟨(⟨0,⟨by omega,q_1.2⟩,⟨rfl,trivial⟩,trivial⟩),fun x_2 q_2=>⟨?a,fun h3=>iL (fun h4=>⟨?b,?c,iQ (fun h5=>iQ (fun h6=>((q_2.2.found (by omega) (by omega) (by omega) (by assumption) (by simp_all)).symm)) (fun h6 h7 h8=>⟨?d,(⟨x_2 + 1,⟨by omega,q_2.2.next (fun hh=>by have h2:=hh.2;cases hw:(nth aN (nth aA l x_1).2.2.1 x_2).2.2.1 <;> simp_all)⟩,by omega,⟨by omega,trivial⟩,(by trivial)⟩)⟩)) (fun h5 h6 h7=>⟨?e,(⟨x_2 + 1,⟨by omega,q_2.2.next (by simp_all)⟩,by omega,⟨by omega,trivial⟩,(by trivial)⟩)⟩)⟩) (fun h4 h5 h6=>⟨?f,(⟨x_1 + 1,⟨by omega,q_2.2.row (by omega)⟩,by omega,⟨by omega,trivial⟩,(by trivial)⟩)⟩)⟩⟩) (fun h2 h3 h4=>⟨?g,(⟨x_0 + 1,⟨by omega,q_1.2.pass (by omega)⟩,by omega,⟨by omega,trivial⟩,(by trivial)⟩)⟩)⟩) (fun h0=>((q_0.2.done (by omega)).symm))⟩
 case a|b|c=>omega
 case d|e|f|g=>simp only [aE,aJ] at *;omega
theorem Tryz.Sj:bK Tryz.prog Tryz.B.eT Tryz.X 131 [.slice aA, .str] [.int .i64, .int .i64] (fun _=>True) (fun x y=>y=(fun x=>dF x) x):=
 bM (X:=Tryz.X) (bW Tryz.bX) Tryz.func131 (by kernel_rfl) (fun x=>Iq x.1 x.2) (fun x hw hp=>Si x.1 x.2 hw)
theorem Nv (n:Int) (hw:eE [.int .i64] n):(cM Tryz.B [] Tryz.f60 [] [.int .i64] [.bool] (fun x y=>y=(fun n=>decide (-2147483648<=n) && decide (n<=2147483647)) x) n).holds:=by
 refine holds_of (p:=
  let za:=decide (n<=(2147483647:Int))
  let zb:=decide ((-2147483648:Int)<=n) && za
  (((decide (n>=(-2147483648:Int)))=true->(za=zb))/\((decide (n>=(-2147483648:Int)))=false->(false=zb)))) (by kernel_rfl) ?_
 dsimp -iota -proj -eta only
 refine iE (fun h0 => ?a) (fun h0 => ?b)
 case a|b=>rw [Bool.eq_iff_iff];simp;omega
theorem Tryz.Nw:bK Tryz.prog Tryz.B.eT Tryz.X 60 [.int .i64] [.bool] (fun _=>True) (fun x y=>y=(fun n=>decide (-2147483648<=n) && decide (n<=2147483647)) x):=
 bM (X:=Tryz.X) (bW Tryz.bX) Tryz.func60 (by kernel_rfl) (fun _=>[]) (fun x hw hp=>Nv x hw)
noncomputable def Tryz.EW:List (FuncId × (Bool × bQ)):=[(131,(true,aL [.slice aA, .str] [.int .i64, .int .i64] (fun _=>True) (fun x=>dF x))),
 (60,(true,aL [.int .i64] [.bool] (fun _=>True) (fun n=>decide (-2147483648<=n) && decide (n<=2147483647))))]
theorem Tryz.Kb:bT Tryz.prog Tryz.B Tryz.X Tryz.EW:=
 aP (aC Tryz.Sj) (aP (aC Tryz.Nw) (bW Tryz.bX))
def EX (l:List (D aA)) (b:List Int):cN:=[
 (0,fun st=>{X:=Nat,inv:=fun i=>i<=b.length/\∀j,j < i->0<=(nth (.int .i64) b j:Int)/\(nth (.int .i64) b j:Int)<=256,bA:=fun i=>b.length - i,aS:=fun i=>[(6,sI i)],aX:=[0,1]}),
 (2,fun st=>{X:=Nat × List (D aH),inv:=fun x=>x.1<=l.length/\kx l b (l.drop x.1) x.1 x.2=kx l b l 0 []/\x.2.length<=10 * x.1,bA:=fun x=>l.length - x.1,aS:=fun x=>[(8,sI x.1),(7, .s (.one (.app aH x.2 (aQ st 7))))],aK:=fun x=>[(aQ st 7, .tok aH x.2)],aX:=[0,1],eD:=[aQ st 7]}),
 (4,fun st=>{X:=Nat × List (D aH),inv:=fun x=>x.1<=(nth aA l (aZ (.int .i64) st 8).toNat).2.2.2.1.length/\jB (kx l b (l.drop ((aZ (.int .i64) st 8).toNat + 1)) ((aZ (.int .i64) st 8).toNat + 1)) (kO l b (aZ (.int .i64) st 8).toNat ((nth aA l (aZ (.int .i64) st 8).toNat).2.2.2.1.drop x.1) x.2)=kx l b l 0 []/\x.2.length<=10 * (aZ (.int .i64) st 8).toNat + x.1,bA:=fun x=>(nth aA l (aZ (.int .i64) st 8).toNat).2.2.2.1.length - x.1,aS:=fun x=>[(9,sI x.1),(7, .s (.one (.app aH x.2 (aQ st 7))))],aK:=fun x=>[(aQ st 7, .tok aH x.2)],aX:=[0,1,8,38,39,40,41],eD:=[aQ st 7]})]
theorem Kc (l:List (D aA)) (b:List Int) (hw:eE [.slice aA, .slice (.int .i64)] (l,b)) (hp:(fun x=>ij x.1) (l,b)):(cM Tryz.B Tryz.EW Tryz.f102 (EX l b) [.slice aA, .slice (.int .i64)] [.slice aH, .int .i64] (fun x y=>y=(fun x=>((dW x).1,hM (dW x).2)) x) (l,b)).holds:=by
 refine holds_of (p:=
  let za:=List.length b
  let zb:=List.length l
  let zc:=(↑za:Int)
  let zd:=(↑zb:Int)
  let ze:=((dW (l,b)).1,hM (dW (l,b)).2)
  let zf:=Ty.int IntKind.i64
  let zg:=fun (x_0:Nat)=>(0:Int)<=(↑x_0:Int)/\(↑x_0:Int) < zc
  let zh:=([],(1:Int))=ze
  let zi:=aE (1:Int)
  let zj:=@List.nil (Int × Int × Int × Unit) = @List.nil (Int × Int × Int × Unit)/\True
  let zk:=Nat × List (Int × Int × Int × Unit)
  let zl:=kx l b l (0:Nat) (@List.nil Pt)
  let zm:=fun (x_1:Nat × List (Int × Int × Int × Unit))=>List.length x_1.2
  let zn:=fun (x_1:Nat × List (Int × Int × Int × Unit))=>(10:Nat) * x_1.1
  let zo:=fun (x_1:Nat × List (Int × Int × Int × Unit))=>(↑x_1.1:Int)
  let zp:=fun (x_1:Nat × List (Int × Int × Int × Unit))=>(nth aA l x_1.1).2.2.2.1
  let zq:=fun (x_1:Nat × List (Int × Int × Int × Unit))=>List.length (zp x_1)
  let zr:=fun (x_1:Nat × List (Int × Int × Int × Unit))=>kx l b (List.drop (x_1.1 + (1:Nat)) l) (x_1.1 + (1:Nat))
  let zs:=fun (x_1:Nat × List (Int × Int × Int × Unit))=>(0:Int)<=zo x_1
  let zt:=fun (x_1:Nat × List (Int × Int × Int × Unit))=>zs x_1/\zo x_1 < zc
  let zu:=fun (x_1 x_2:Nat × List (Int × Int × Int × Unit))=>(nth aO (zp x_1) x_2.1).2.2.1
  let zv:=fun (x_1:Nat × List (Int × Int × Int × Unit))=>nth zf b x_1.1
  let zw:=fun (x_1 x_2:Nat × List (Int × Int × Int × Unit))=>zu x_1 x_2 + zv x_1
  let zx:=fun (x_1 x_2:Nat × List (Int × Int × Int × Unit))=>(nth aO (zp x_1) x_2.1).2.1 == (3:Int)
  let zy:=fun (x_1 x_2:Nat × List (Int × Int × Int × Unit))=>(nth aO (zp x_1) x_2.1).1
  let zz:=fun (x_1 x_2:Nat × List (Int × Int × Int × Unit))=>zw x_1 x_2 - zv x_1 - zy x_1 x_2
  let zaa:=(-500:Int)
  let zab:=([],(7:Int))=ze
  let zac:=(-2147483648:Int)
  let zad:=fun (x_2:Nat × List (Int × Int × Int × Unit))=>x_2.2=x_2.2
  let zae:=fun (x_2:Nat × List (Int × Int × Int × Unit))=>aE (zo x_2)
  let zaf:=fun (x_2:Nat × List (Int × Int × Int × Unit))=>zo x_2 + (1:Int)
  let zag:=fun (x_2:Nat × List (Int × Int × Int × Unit))=>aE (zaf x_2)
  let zah:=fun (x_2 x_1:Nat × List (Int × Int × Int × Unit))=>x_2.2++[(zo x_1,zy x_1 x_2,zz x_1 x_2,())]
  let zai:=fun (x_2 x_1:Nat × List (Int × Int × Int × Unit))=>x_2.2++[(zo x_1,zy x_1 x_2,zw x_1 x_2,())]
  let zaj:=fun (x_1 x_2:Nat × List (Int × Int × Int × Unit))=>dF (l,(nth aO (zp x_1) x_2.1).2.2.2.1)
  let zak:=fun (x_1 x_2:Nat × List (Int × Int × Int × Unit))=>zu x_1 x_2 + nth zf b (Int.toNat (zaj x_1 x_2).1)
  let zal:=fun (x_1 x_2:Nat × List (Int × Int × Int × Unit))=>(nth aN (nth aA l (Int.toNat (zaj x_1 x_2).1)).2.2.1 (Int.toNat (zaj x_1 x_2).2)).2.1
  let zam:=fun (x_1 x_2:Nat × List (Int × Int × Int × Unit))=>zak x_1 x_2 + zal x_1 x_2
  let zan:=fun (x_1 x_2:Nat × List (Int × Int × Int × Unit))=>zam x_1 x_2 - zv x_1 - zy x_1 x_2
  let zao:=fun (x_2 x_1:Nat × List (Int × Int × Int × Unit))=>x_2.2++[(zo x_1,zy x_1 x_2,zan x_1 x_2,())]
  let zap:=fun (x_2 x_1:Nat × List (Int × Int × Int × Unit))=>x_2.2++[(zo x_1,zy x_1 x_2,zam x_1 x_2,())]
  let zaq:=fun (x_1 x_2:Nat × List (Int × Int × Int × Unit))=>zu x_1 x_2 - zv x_1 - zy x_1 x_2
  let zar:=fun (x_2 x_1:Nat × List (Int × Int × Int × Unit))=>x_2.2++[(zo x_1,zy x_1 x_2,zaq x_1 x_2,())]
  let zas:=fun (x_2 x_1:Nat × List (Int × Int × Int × Unit))=>x_2.2++[(zo x_1,zy x_1 x_2,zu x_1 x_2,())]
  let zat:=fun (x_1:Nat × List (Int × Int × Int × Unit)) (x_2:Nat × List (Int × Int × Int × Unit))=>(((decide ((zaj x_1 x_2).1>=(0:Int)))=true->((0:Int)<=(zaj x_1 x_2).1/\(zaj x_1 x_2).1 < zc)/\((aE (zu x_1 x_2))->((aE (nth zf b (Int.toNat (zaj x_1 x_2).1)))->(aE (zak x_1 x_2))/\((0:Int)<=(zaj x_1 x_2).1/\(zaj x_1 x_2).1 < zd)/\((0:Int)<=(zaj x_1 x_2).2/\(zaj x_1 x_2).2 < (↑(List.length (nth aA l (Int.toNat (zaj x_1 x_2).1)).2.2.1):Int))/\((aE (zak x_1 x_2))->((aE (zal x_1 x_2))->(aE (zam x_1 x_2))/\(((zx x_1 x_2)=true->(zt x_1)/\((aE (zam x_1 x_2))->((aE (zv x_1))->(aE (zam x_1 x_2 - zv x_1))/\((aE (zam x_1 x_2 - zv x_1))->((aE (zy x_1 x_2))->(aE (zan x_1 x_2))/\(((decide (zan x_1 x_2 < zaa))=true->(zab))/\((decide (zan x_1 x_2 < zaa))=false->(((decide (zan x_1 x_2 > (500:Int)))=true->(zab))/\((decide (zan x_1 x_2 > (500:Int)))=false->(True)/\(((!(decide (zac<=zan x_1 x_2) && decide (zan x_1 x_2<=(2147483647:Int))))=true->(zab))/\((!(decide (zac<=zan x_1 x_2) && decide (zan x_1 x_2<=(2147483647:Int))))=false->(zad x_2/\zm x_2 + List.length [(zo x_1,zy x_1 x_2,zan x_1 x_2,())]<=(1000000000:Nat))/\((zae x_2)->((zi)->(zag x_2)/\(∃(x':zk),(Prod.fst x'<=zq x_1/\jB (zr x_1) (kO l b x_1.1 (List.drop (Prod.fst x') (zp x_1)) (Prod.snd x'))=zl/\List.length (Prod.snd x')<=zn x_1 + Prod.fst x')/\zq x_1 - Prod.fst x' < zq x_1 - x_2.1/\(zaf x_2=(↑(Prod.fst x'):Int)/\zao x_2 x_1=Prod.snd x'/\True)/\zao x_2 x_1=Prod.snd x'/\zj))))))))))))))/\((zx x_1 x_2)=false->(True)/\(((!(decide (zac<=zam x_1 x_2) && decide (zam x_1 x_2<=(2147483647:Int))))=true->(zab))/\((!(decide (zac<=zam x_1 x_2) && decide (zam x_1 x_2<=(2147483647:Int))))=false->(zad x_2/\zm x_2 + List.length [(zo x_1,zy x_1 x_2,zam x_1 x_2,())]<=(1000000000:Nat))/\((zae x_2)->((zi)->(zag x_2)/\(∃(x':zk),(Prod.fst x'<=zq x_1/\jB (zr x_1) (kO l b x_1.1 (List.drop (Prod.fst x') (zp x_1)) (Prod.snd x'))=zl/\List.length (Prod.snd x')<=zn x_1 + Prod.fst x')/\zq x_1 - Prod.fst x' < zq x_1 - x_2.1/\(zaf x_2=(↑(Prod.fst x'):Int)/\zap x_2 x_1=Prod.snd x'/\True)/\zap x_2 x_1=Prod.snd x'/\zj))))))))))))/\((decide ((zaj x_1 x_2).1>=(0:Int)))=false->(((zx x_1 x_2)=true->(zt x_1)/\((aE (zu x_1 x_2))->((aE (zv x_1))->(aE (zu x_1 x_2 - zv x_1))/\((aE (zu x_1 x_2 - zv x_1))->((aE (zy x_1 x_2))->(aE (zaq x_1 x_2))/\(((decide (zaq x_1 x_2 < zaa))=true->(zab))/\((decide (zaq x_1 x_2 < zaa))=false->(((decide (zaq x_1 x_2 > (500:Int)))=true->(zab))/\((decide (zaq x_1 x_2 > (500:Int)))=false->(True)/\(((!(decide (zac<=zaq x_1 x_2) && decide (zaq x_1 x_2<=(2147483647:Int))))=true->(zab))/\((!(decide (zac<=zaq x_1 x_2) && decide (zaq x_1 x_2<=(2147483647:Int))))=false->(zad x_2/\zm x_2 + List.length [(zo x_1,zy x_1 x_2,zaq x_1 x_2,())]<=(1000000000:Nat))/\((zae x_2)->((zi)->(zag x_2)/\(∃(x':zk),(Prod.fst x'<=zq x_1/\jB (zr x_1) (kO l b x_1.1 (List.drop (Prod.fst x') (zp x_1)) (Prod.snd x'))=zl/\List.length (Prod.snd x')<=zn x_1 + Prod.fst x')/\zq x_1 - Prod.fst x' < zq x_1 - x_2.1/\(zaf x_2=(↑(Prod.fst x'):Int)/\zar x_2 x_1=Prod.snd x'/\True)/\zar x_2 x_1=Prod.snd x'/\zj))))))))))))))/\((zx x_1 x_2)=false->(True)/\(((!(decide (zac<=zu x_1 x_2) && decide (zu x_1 x_2<=(2147483647:Int))))=true->(zab))/\((!(decide (zac<=zu x_1 x_2) && decide (zu x_1 x_2<=(2147483647:Int))))=false->(zad x_2/\zm x_2 + List.length [(zo x_1,zy x_1 x_2,zu x_1 x_2,())]<=(1000000000:Nat))/\((zae x_2)->((zi)->(zag x_2)/\(∃(x':zk),(Prod.fst x'<=zq x_1/\jB (zr x_1) (kO l b x_1.1 (List.drop (Prod.fst x') (zp x_1)) (Prod.snd x'))=zl/\List.length (Prod.snd x')<=zn x_1 + Prod.fst x')/\zq x_1 - Prod.fst x' < zq x_1 - x_2.1/\(zaf x_2=(↑(Prod.fst x'):Int)/\zas x_2 x_1=Prod.snd x'/\True)/\zas x_2 x_1=Prod.snd x'/\zj)))))))))
  ((za<=aJ)->((zb<=aJ)->(((zc != zd)=true->(([],(3:Int))=ze))/\((zc != zd)=false->(∃(x:Nat),(x<=za/\∀(j:Nat),j < x->(0:Int)<=nth zf b j/\nth zf b j<=(256:Int))/\((0:Int)=(↑x:Int)/\True)/\True)/\(∀x_0:Nat,((x_0<=za/\∀(j:Nat),j < x_0->(0:Int)<=nth zf b j/\nth zf b j<=(256:Int))->((za<=aJ)->(((decide ((↑x_0:Int) < zc))=true->(zg x_0)/\(((decide (nth zf b x_0 < (0:Int)))=true->(zh))/\((decide (nth zf b x_0 < (0:Int)))=false->(zg x_0)/\(((decide (nth zf b x_0 > (256:Int)))=true->(zh))/\((decide (nth zf b x_0 > (256:Int)))=false->((aE (↑x_0:Int))->((zi)->(aE ((↑x_0:Int) + (1:Int)))/\(∃(x':Nat),(x'<=za/\∀(j:Nat),j < x'->(0:Int)<=nth zf b j/\nth zf b j<=(256:Int))/\za - x' < za - x_0/\((↑x_0:Int) + (1:Int)=(↑x':Int)/\True)/\zj))))))))/\((decide ((↑x_0:Int) < zc))=false->(∃(x:zk),(Prod.fst x<=zb/\kx l b (List.drop (Prod.fst x) l) (Prod.fst x) (Prod.snd x)=zl/\List.length (Prod.snd x)<=(10:Nat) * Prod.fst x)/\((0:Int)=(↑(Prod.fst x):Int)/\@List.nil (Int × Int × Int × Unit)=Prod.snd x/\True)/\@List.nil (Int × Int × Int × Unit)=Prod.snd x/\True)/\(∀x_1:Nat × List (Int × Int × Int × Unit),((x_1.1<=zb/\kx l b (List.drop x_1.1 l) x_1.1 x_1.2=zl/\zm x_1<=zn x_1)->((zb<=aJ)->(((decide (zo x_1 < zd))=true->(∃(x:zk),(Prod.fst x<=zq x_1/\jB (zr x_1) (kO l b x_1.1 (List.drop (Prod.fst x) (zp x_1)) (Prod.snd x))=zl/\List.length (Prod.snd x)<=zn x_1 + Prod.fst x)/\((0:Int)=(↑(Prod.fst x):Int)/\x_1.2=Prod.snd x/\True)/\x_1.2=Prod.snd x/\True)/\(∀x_2:Nat × List (Int × Int × Int × Unit),((x_2.1<=zq x_1/\jB (zr x_1) (kO l b x_1.1 (List.drop x_2.1 (zp x_1)) x_2.2)=zl/\zm x_2<=zn x_1 + x_2.1)->(zs x_1/\zo x_1 < zd)/\((zq x_1<=aJ)->(((decide (zo x_2 < (↑(zq x_1):Int)))=true->(zs x_1/\zo x_1 < zd)/\(zs x_2/\zo x_2 < (↑(zq x_1):Int))/\((((nth aO (zp x_1) x_2.1).2.1 == (1:Int))=true->(zt x_1)/\((aE (zu x_1 x_2))->((aE (zv x_1))->(aE (zw x_1 x_2))/\(((zx x_1 x_2)=true->(zt x_1)/\((aE (zw x_1 x_2))->((aE (zv x_1))->(aE (zw x_1 x_2 - zv x_1))/\((aE (zw x_1 x_2 - zv x_1))->((aE (zy x_1 x_2))->(aE (zz x_1 x_2))/\(((decide (zz x_1 x_2 < zaa))=true->(zab))/\((decide (zz x_1 x_2 < zaa))=false->(((decide (zz x_1 x_2 > (500:Int)))=true->(zab))/\((decide (zz x_1 x_2 > (500:Int)))=false->(True)/\(((!(decide (zac<=zz x_1 x_2) && decide (zz x_1 x_2<=(2147483647:Int))))=true->(zab))/\((!(decide (zac<=zz x_1 x_2) && decide (zz x_1 x_2<=(2147483647:Int))))=false->(zad x_2/\zm x_2 + List.length [(zo x_1,zy x_1 x_2,zz x_1 x_2,())]<=(1000000000:Nat))/\((zae x_2)->((zi)->(zag x_2)/\(∃(x':zk),(Prod.fst x'<=zq x_1/\jB (zr x_1) (kO l b x_1.1 (List.drop (Prod.fst x') (zp x_1)) (Prod.snd x'))=zl/\List.length (Prod.snd x')<=zn x_1 + Prod.fst x')/\zq x_1 - Prod.fst x' < zq x_1 - x_2.1/\(zaf x_2=(↑(Prod.fst x'):Int)/\zah x_2 x_1=Prod.snd x'/\True)/\zah x_2 x_1=Prod.snd x'/\zj))))))))))))))/\((zx x_1 x_2)=false->(True)/\(((!(decide (zac<=zw x_1 x_2) && decide (zw x_1 x_2<=(2147483647:Int))))=true->(zab))/\((!(decide (zac<=zw x_1 x_2) && decide (zw x_1 x_2<=(2147483647:Int))))=false->(zad x_2/\zm x_2 + List.length [(zo x_1,zy x_1 x_2,zw x_1 x_2,())]<=(1000000000:Nat))/\((zae x_2)->((zi)->(zag x_2)/\(∃(x':zk),(Prod.fst x'<=zq x_1/\jB (zr x_1) (kO l b x_1.1 (List.drop (Prod.fst x') (zp x_1)) (Prod.snd x'))=zl/\List.length (Prod.snd x')<=zn x_1 + Prod.fst x')/\zq x_1 - Prod.fst x' < zq x_1 - x_2.1/\(zaf x_2=(↑(Prod.fst x'):Int)/\zai x_2 x_1=Prod.snd x'/\True)/\zai x_2 x_1=Prod.snd x'/\zj))))))))))/\(((nth aO (zp x_1) x_2.1).2.1 == (1:Int))=false->(True)/\(((decide ((zaj x_1 x_2).1 < (0:Int)))=true->(((!(nth aO (zp x_1) x_2.1).2.2.2.2.1)=true->(([],(6:Int))=ze))/\((!(nth aO (zp x_1) x_2.1).2.2.2.2.1)=false->(zat x_1 x_2))))/\((decide ((zaj x_1 x_2).1 < (0:Int)))=false->(zat x_1 x_2))))))/\((decide (zo x_2 < (↑(zq x_1):Int)))=false->((zae x_1)->((zi)->(zag x_1)/\(∃(x':zk),(Prod.fst x'<=zb/\kx l b (List.drop (Prod.fst x') l) (Prod.fst x') (Prod.snd x')=zl/\List.length (Prod.snd x')<=(10:Nat) * Prod.fst x')/\zb - Prod.fst x' < zb - x_1.1/\(zaf x_1=(↑(Prod.fst x'):Int)/\x_2.2=Prod.snd x'/\True)/\x_2.2=Prod.snd x'/\zj)))))))))/\((decide (zo x_1 < zd))=false->((x_1.2,(0:Int))=ze)))))))))))))))) (by kernel_rfl) ?_
 dsimp -iota -proj -eta only
 dsimp only at hp
 refine fun h0 h1=>iN (fun h2=>(by rw [GW (by omega)];rfl)) (fun h2=>⟨(⟨0,⟨by omega,fun j hj=>by omega⟩,⟨rfl,trivial⟩,trivial⟩),fun x_0 q_0 h3=>iL (fun h4=>⟨?a,iL (fun h5 => ?b) (fun h5=>⟨?c,iL (fun h6 => ?d) (fun h6 h7 h8=>⟨?e,(⟨x_0 + 1,⟨by omega,jA q_0.2 (by dsimp only [D] at *;omega)⟩,by omega,⟨by omega,trivial⟩,(by trivial)⟩)⟩)⟩)⟩) (fun h4=>⟨(⟨(0,[]),⟨by omega,rfl,by simp⟩,(by trivial),(by trivial)⟩),fun x_1 q_1 h5=>iL (fun h6=>⟨(by exact ⟨(0,x_1.2),⟨by omega,by rw [<-DK (by omega)];exact q_1.2.1,by simp only;omega⟩,(by trivial),(by trivial)⟩),fun x_2 q_2=>⟨?f,fun h7=>iL (fun h8=>⟨?g,?h,iQ (fun h9=>⟨?i,fun h10 h11=>⟨?j,iQ (fun h12=>⟨?k,fun h13 h14=>⟨?l,fun h15 h16=>⟨?m,iL (fun h17 => ?n) (fun h17=>iL (fun h18 => ?o) (fun h18=>⟨trivial,⟨fun h19 => ?p,fun h19=>⟨?q,fun h20 h21=>⟨?r,?s⟩⟩⟩⟩))⟩⟩⟩) (fun h12=>⟨trivial,⟨fun h13 => ?t,fun h13=>⟨?u,fun h14 h15=>⟨?v,?w⟩⟩⟩⟩)⟩⟩) (fun h9=>⟨trivial,iL (fun h10=>iB (fun h11 => ?x) (fun h11=>iE (fun h12=>⟨?y,fun h13 h14=>⟨?z,?a0,?a1,fun h15 h16=>⟨?a2,iQ (fun h17=>⟨?a3,fun h18 h19=>⟨?a4,fun h20 h21=>⟨?a5,iL (fun h22 => ?a6) (fun h22=>iL (fun h23 => ?a7) (fun h23=>⟨trivial,⟨fun h24 => ?a8,fun h24=>⟨?a9,fun h25 h26=>⟨?aa,?ab⟩⟩⟩⟩))⟩⟩⟩) (fun h17=>⟨trivial,⟨fun h18 => ?ac,fun h18=>⟨?ad,fun h19 h20=>⟨?ae,?af⟩⟩⟩⟩)⟩⟩⟩) (fun h12=>iQ (fun h13=>⟨?ag,fun h14 h15=>⟨?ah,fun h16 h17=>⟨?ai,iL (fun h18 => ?aj) (fun h18=>iL (fun h19 => ?ak) (fun h19=>⟨trivial,⟨fun h20 => ?al,fun h20=>⟨?am,fun h21 h22=>⟨?an,?ao⟩⟩⟩⟩))⟩⟩⟩) (fun h13=>⟨trivial,⟨fun h14 => ?ap,fun h14=>⟨?aq,fun h15 h16=>⟨?ar,?au⟩⟩⟩⟩)))) (fun h10=>iE (fun h11=>⟨?av,fun h12 h13=>⟨?aw,?ax,?ay,fun h14 h15=>⟨?az,iQ (fun h16=>⟨?b0,fun h17 h18=>⟨?b1,fun h19 h20=>⟨?b2,iL (fun h21 => ?b3) (fun h21=>iL (fun h22 => ?b4) (fun h22=>⟨trivial,⟨fun h23 => ?b5,fun h23=>⟨?b6,fun h24 h25=>⟨?b7,?b8⟩⟩⟩⟩))⟩⟩⟩) (fun h16=>⟨trivial,⟨fun h17 => ?b9,fun h17=>⟨?ba,fun h18 h19=>⟨?bb,?bc⟩⟩⟩⟩)⟩⟩⟩) (fun h11=>iQ (fun h12=>⟨?bd,fun h13 h14=>⟨?be,fun h15 h16=>⟨?bf,iL (fun h17 => ?bg) (fun h17=>iL (fun h18 => ?bh) (fun h18=>⟨trivial,⟨fun h19 => ?bi,fun h19=>⟨?bj,fun h20 h21=>⟨?bk,?bl⟩⟩⟩⟩))⟩⟩⟩) (fun h12=>⟨trivial,⟨fun h13 => ?bm,fun h13=>⟨?bn,fun h14 h15=>⟨?bo,?bp⟩⟩⟩⟩)))⟩)⟩) (fun h8 h9 h10=>⟨?bq,?br⟩)⟩⟩) (fun h6 => ?bs)⟩)⟩)
 case a|c|f|g|h|i|k|y|z|a0|a1|a2|a3|a4|a5|a6|a7|ag|b0|bd|be|bf|bg|bh=>omega
 case b|d=>rw [DL (i:=x_0) (by omega) (by omega) (by dsimp only [D] at *;omega)];rfl
 case e|bq=>simp only [aE,aJ] at *;omega
 case j|l|m|ah|ai=>
  have hlen:b.length=l.length:=(by omega);have hib:jL b:=fun j hj=>q_0.2 j (by omega)
  have hm:=hp.2 x_1.1 (by omega);have htk:=hm.2.2 x_2.1 (by omega);have hb:=lr (i:=(x_1.1:Int)) hib hlen (by omega) (by omega);unfold Small Word at htk;rw [Int.toNat_natCast] at hb
  dsimp only [D] at *;simp only [aE];omega
 case n|o=>dsimp only [D] at *;omega
 case p|bi|bj|bk|bl=>
  simp only [bl,reduceCtorEq] at h19
  omega
 case q|r|s=>
  simp only [bl,reduceCtorEq] at h19
  dsimp only [D] at *;omega
 case t=>
  simp only [bl,reduceCtorEq] at h13
  have hlen:b.length=l.length:=(by omega);have hib:jL b:=fun j hj=>q_0.2 j (by omega)
  have ho:=uQ (l:=l) (b:=b) (i:=(x_1.1:Int)) (t:=(nth aO (nth aA l x_1.1).2.2.2.1 x_2.1)) (by assumption)
  rw [rD (by first | assumption | (simp_all;done)) (by simp only [Int.toNat_natCast];dsimp only [D] at *;omega)] at ho
  have e:dW (l,b)=([],(fN l b x_1.1 (nth aO (nth aA l x_1.1).2.2.2.1 x_2.1)).2):=(by rw [nk hlen hib,<-q_2.2.1,pH (by omega) (by rw [ho];rfl)])
  rw [e,ho];rfl
 case u=>
  simp only [bl,reduceCtorEq] at h13
  have hm:=hp.2 x_1.1 (by omega);have:=hm.1;have:=hp.1;exact ⟨rfl,by simp only [List.length_singleton,aJ];omega⟩
 case v=>
  simp only [bl,reduceCtorEq] at h13
  simp only [aE,aJ] at *;omega
 case w=>
  simp only [bl,reduceCtorEq] at h13
  have hlen:b.length=l.length:=(by omega);have hib:jL b:=fun j hj=>q_0.2 j (by omega)
  have ho:=uQ (l:=l) (b:=b) (i:=(x_1.1:Int)) (t:=(nth aO (nth aA l x_1.1).2.2.2.1 x_2.1)) (by assumption)
  rw [tL (by first | assumption | (simp_all;done)) rfl (by simp only [Int.toNat_natCast];dsimp only [D] at *;omega)] at ho
  exact ⟨(x_2.1 + 1,x_2.2++[((x_1.1:Int),(nth aO (nth aA l x_1.1).2.2.2.1 x_2.1).1,(fN l b x_1.1 (nth aO (nth aA l x_1.1).2.2.2.1 x_2.1)).1,())]),⟨by omega,by rw [<-q_2.2.1,tK (k:=x_2.1) (by omega) (by rw [ho];rfl)],by simp only [List.length_append,List.length_singleton];omega⟩,by simp only;omega,⟨by simp only;omega,me (by rw [ho];simp only [Int.toNat_natCast];dsimp only [D] at *;omega),trivial⟩,me (by rw [ho];simp only [Int.toNat_natCast];dsimp only [D] at *;omega),(by trivial)⟩
 case x=>
  have hlen:b.length=l.length:=(by omega);have hib:jL b:=fun j hj=>q_0.2 j (by omega)
  have ht:=rC (l:=l) (b:=b) (t:=(nth aO (nth aA l x_1.1).2.2.2.1 x_2.1)) (by assumption) (by assumption);have ho:=K6 (l:=l) (b:=b) (i:=(x_1.1:Int)) (t:=(nth aO (nth aA l x_1.1).2.2.2.1 x_2.1)) (by assumption) (by rw [ht];rfl);rw [ht] at ho
  have e:dW (l,b)=([],(fN l b x_1.1 (nth aO (nth aA l x_1.1).2.2.2.1 x_2.1)).2):=(by rw [nk hlen hib,<-q_2.2.1,pH (by omega) (by rw [ho];rfl)])
  rw [e,ho];rfl
 case a8|a9|aa|ab=>
  simp only [bl,reduceCtorEq] at h24
  omega
 case ac|ad|ae|af=>
  simp only [bl,reduceCtorEq] at h18
  omega
 case aj|ak=>
  have hlen:b.length=l.length:=(by omega);have hib:jL b:=fun j hj=>q_0.2 j (by omega)
  have ht:=mc (l:=l) (b:=b) (t:=(nth aO (nth aA l x_1.1).2.2.2.1 x_2.1)) (by assumption) (by assumption);have ho:=kD (l:=l) (b:=b) (i:=(x_1.1:Int)) (t:=(nth aO (nth aA l x_1.1).2.2.2.1 x_2.1)) (by assumption) (by rw [ht];rfl);rw [ht] at ho
  rw [Ak (by assumption) (by simp only [Int.toNat_natCast];dsimp only [D] at *;omega)] at ho
  have e:dW (l,b)=([],(fN l b x_1.1 (nth aO (nth aA l x_1.1).2.2.2.1 x_2.1)).2):=(by rw [nk hlen hib,<-q_2.2.1,pH (by omega) (by rw [ho];rfl)])
  rw [e,ho];rfl
 case al=>
  simp only [bl,reduceCtorEq] at h20
  omega
 case am=>
  simp only [bl,reduceCtorEq] at h20
  have hm:=hp.2 x_1.1 (by omega);have:=hm.1;have:=hp.1;exact ⟨rfl,by simp only [List.length_singleton,aJ];omega⟩
 case an=>
  simp only [bl,reduceCtorEq] at h20
  simp only [aE,aJ] at *;omega
 case ao=>
  simp only [bl,reduceCtorEq] at h20
  have hlen:b.length=l.length:=(by omega);have hib:jL b:=fun j hj=>q_0.2 j (by omega)
  have ht:=mc (l:=l) (b:=b) (t:=(nth aO (nth aA l x_1.1).2.2.2.1 x_2.1)) (by assumption) (by assumption);have ho:=kD (l:=l) (b:=b) (i:=(x_1.1:Int)) (t:=(nth aO (nth aA l x_1.1).2.2.2.1 x_2.1)) (by assumption) (by rw [ht];rfl);rw [ht] at ho
  rw [CT (by assumption) rfl (by simp only [Int.toNat_natCast];dsimp only [D] at *;omega)] at ho
  exact ⟨(x_2.1 + 1,x_2.2++[((x_1.1:Int),(nth aO (nth aA l x_1.1).2.2.2.1 x_2.1).1,(fN l b x_1.1 (nth aO (nth aA l x_1.1).2.2.2.1 x_2.1)).1,())]),⟨by omega,by rw [<-q_2.2.1,tK (k:=x_2.1) (by omega) (by rw [ho];rfl)],by simp only [List.length_append,List.length_singleton];omega⟩,by simp only;omega,⟨by simp only;omega,me (by rw [ho];simp only [Int.toNat_natCast];dsimp only [D] at *;omega),trivial⟩,me (by rw [ho];simp only [Int.toNat_natCast];dsimp only [D] at *;omega),(by trivial)⟩
 case ap=>
  simp only [bl,reduceCtorEq] at h14
  have hlen:b.length=l.length:=(by omega);have hib:jL b:=fun j hj=>q_0.2 j (by omega)
  have ht:=mc (l:=l) (b:=b) (t:=(nth aO (nth aA l x_1.1).2.2.2.1 x_2.1)) (by assumption) (by assumption);have ho:=kD (l:=l) (b:=b) (i:=(x_1.1:Int)) (t:=(nth aO (nth aA l x_1.1).2.2.2.1 x_2.1)) (by assumption) (by rw [ht];rfl);rw [ht] at ho
  rw [rD (by first | assumption | (simp_all;done)) (by simp only [Int.toNat_natCast];dsimp only [D] at *;omega)] at ho
  have e:dW (l,b)=([],(fN l b x_1.1 (nth aO (nth aA l x_1.1).2.2.2.1 x_2.1)).2):=(by rw [nk hlen hib,<-q_2.2.1,pH (by omega) (by rw [ho];rfl)])
  rw [e,ho];rfl
 case aq=>
  simp only [bl,reduceCtorEq] at h14
  have hm:=hp.2 x_1.1 (by omega);have:=hm.1;have:=hp.1;exact ⟨rfl,by simp only [List.length_singleton,aJ];omega⟩
 case ar=>
  simp only [bl,reduceCtorEq] at h14
  simp only [aE,aJ] at *;omega
 case au=>
  simp only [bl,reduceCtorEq] at h14
  have hlen:b.length=l.length:=(by omega);have hib:jL b:=fun j hj=>q_0.2 j (by omega)
  have ht:=mc (l:=l) (b:=b) (t:=(nth aO (nth aA l x_1.1).2.2.2.1 x_2.1)) (by assumption) (by assumption);have ho:=kD (l:=l) (b:=b) (i:=(x_1.1:Int)) (t:=(nth aO (nth aA l x_1.1).2.2.2.1 x_2.1)) (by assumption) (by rw [ht];rfl);rw [ht] at ho
  rw [tL (by first | assumption | (simp_all;done)) rfl (by simp only [Int.toNat_natCast];dsimp only [D] at *;omega)] at ho
  exact ⟨(x_2.1 + 1,x_2.2++[((x_1.1:Int),(nth aO (nth aA l x_1.1).2.2.2.1 x_2.1).1,(fN l b x_1.1 (nth aO (nth aA l x_1.1).2.2.2.1 x_2.1)).1,())]),⟨by omega,by rw [<-q_2.2.1,tK (k:=x_2.1) (by omega) (by rw [ho];rfl)],by simp only [List.length_append,List.length_singleton];omega⟩,by simp only;omega,⟨by simp only;omega,me (by rw [ho];simp only [Int.toNat_natCast];dsimp only [D] at *;omega),trivial⟩,me (by rw [ho];simp only [Int.toNat_natCast];dsimp only [D] at *;omega),(by trivial)⟩
 case av|ax|ay=>
  have hlen:b.length=l.length:=(by omega);have hib:jL b:=fun j hj=>q_0.2 j (by omega)
  have hf:=qZ (l:=l) (s:=(nth aO (nth aA l x_1.1).2.2.2.1 x_2.1).2.2.2.1) (by omega);have hbf:=lr (i:=(dF (l,(nth aO (nth aA l x_1.1).2.2.2.1 x_2.1).2.2.2.1)).1) hib hlen (by omega) (by omega);have hsf:=Bx (l:=l) (s:=(nth aO (nth aA l x_1.1).2.2.2.1 x_2.1).2.2.2.1) hp (by omega);unfold Small at hsf;dsimp only [D] at *
  omega
 case aw|az|b1|b2=>
  have hlen:b.length=l.length:=(by omega);have hib:jL b:=fun j hj=>q_0.2 j (by omega)
  have hm:=hp.2 x_1.1 (by omega);have htk:=hm.2.2 x_2.1 (by omega);have hb:=lr (i:=(x_1.1:Int)) hib hlen (by omega) (by omega);unfold Small Word at htk;rw [Int.toNat_natCast] at hb
  have hf:=qZ (l:=l) (s:=(nth aO (nth aA l x_1.1).2.2.2.1 x_2.1).2.2.2.1) (by omega);have hbf:=lr (i:=(dF (l,(nth aO (nth aA l x_1.1).2.2.2.1 x_2.1).2.2.2.1)).1) hib hlen (by omega) (by omega);have hsf:=Bx (l:=l) (s:=(nth aO (nth aA l x_1.1).2.2.2.1 x_2.1).2.2.2.1) hp (by omega);unfold Small at hsf;dsimp only [D] at *
  simp only [aE];omega
 case b3|b4=>
  have hlen:b.length=l.length:=(by omega);have hib:jL b:=fun j hj=>q_0.2 j (by omega)
  have ht:=nn (l:=l) (b:=b) (t:=(nth aO (nth aA l x_1.1).2.2.2.1 x_2.1)) (by assumption);have ho:=kD (l:=l) (b:=b) (i:=(x_1.1:Int)) (t:=(nth aO (nth aA l x_1.1).2.2.2.1 x_2.1)) (by assumption) (by rw [ht];rfl);rw [ht] at ho
  rw [Ak (by assumption) (by simp only [Int.toNat_natCast];dsimp only [D] at *;omega)] at ho
  have e:dW (l,b)=([],(fN l b x_1.1 (nth aO (nth aA l x_1.1).2.2.2.1 x_2.1)).2):=(by rw [nk hlen hib,<-q_2.2.1,pH (by omega) (by rw [ho];rfl)])
  rw [e,ho];rfl
 case b5=>
  simp only [bl,reduceCtorEq] at h23
  omega
 case b6=>
  simp only [bl,reduceCtorEq] at h23
  have hm:=hp.2 x_1.1 (by omega);have:=hm.1;have:=hp.1;exact ⟨rfl,by simp only [List.length_singleton,aJ];omega⟩
 case b7=>
  simp only [bl,reduceCtorEq] at h23
  simp only [aE,aJ] at *;omega
 case b8=>
  simp only [bl,reduceCtorEq] at h23
  have hlen:b.length=l.length:=(by omega);have hib:jL b:=fun j hj=>q_0.2 j (by omega)
  have ht:=nn (l:=l) (b:=b) (t:=(nth aO (nth aA l x_1.1).2.2.2.1 x_2.1)) (by assumption);have ho:=kD (l:=l) (b:=b) (i:=(x_1.1:Int)) (t:=(nth aO (nth aA l x_1.1).2.2.2.1 x_2.1)) (by assumption) (by rw [ht];rfl);rw [ht] at ho
  rw [CT (by assumption) rfl (by simp only [Int.toNat_natCast];dsimp only [D] at *;omega)] at ho
  exact ⟨(x_2.1 + 1,x_2.2++[((x_1.1:Int),(nth aO (nth aA l x_1.1).2.2.2.1 x_2.1).1,(fN l b x_1.1 (nth aO (nth aA l x_1.1).2.2.2.1 x_2.1)).1,())]),⟨by omega,by rw [<-q_2.2.1,tK (k:=x_2.1) (by omega) (by rw [ho];rfl)],by simp only [List.length_append,List.length_singleton];omega⟩,by simp only;omega,⟨by simp only;omega,me (by rw [ho];simp only [Int.toNat_natCast];dsimp only [D] at *;omega),trivial⟩,me (by rw [ho];simp only [Int.toNat_natCast];dsimp only [D] at *;omega),(by trivial)⟩
 case b9=>
  simp only [bl,reduceCtorEq] at h17
  have hlen:b.length=l.length:=(by omega);have hib:jL b:=fun j hj=>q_0.2 j (by omega)
  have ht:=nn (l:=l) (b:=b) (t:=(nth aO (nth aA l x_1.1).2.2.2.1 x_2.1)) (by assumption);have ho:=kD (l:=l) (b:=b) (i:=(x_1.1:Int)) (t:=(nth aO (nth aA l x_1.1).2.2.2.1 x_2.1)) (by assumption) (by rw [ht];rfl);rw [ht] at ho
  rw [rD (by first | assumption | (simp_all;done)) (by simp only [Int.toNat_natCast];dsimp only [D] at *;omega)] at ho
  have e:dW (l,b)=([],(fN l b x_1.1 (nth aO (nth aA l x_1.1).2.2.2.1 x_2.1)).2):=(by rw [nk hlen hib,<-q_2.2.1,pH (by omega) (by rw [ho];rfl)])
  rw [e,ho];rfl
 case ba=>
  simp only [bl,reduceCtorEq] at h17
  have hm:=hp.2 x_1.1 (by omega);have:=hm.1;have:=hp.1;exact ⟨rfl,by simp only [List.length_singleton,aJ];omega⟩
 case bb=>
  simp only [bl,reduceCtorEq] at h17
  simp only [aE,aJ] at *;omega
 case bc=>
  simp only [bl,reduceCtorEq] at h17
  have hlen:b.length=l.length:=(by omega);have hib:jL b:=fun j hj=>q_0.2 j (by omega)
  have ht:=nn (l:=l) (b:=b) (t:=(nth aO (nth aA l x_1.1).2.2.2.1 x_2.1)) (by assumption);have ho:=kD (l:=l) (b:=b) (i:=(x_1.1:Int)) (t:=(nth aO (nth aA l x_1.1).2.2.2.1 x_2.1)) (by assumption) (by rw [ht];rfl);rw [ht] at ho
  rw [tL (by first | assumption | (simp_all;done)) rfl (by simp only [Int.toNat_natCast];dsimp only [D] at *;omega)] at ho
  exact ⟨(x_2.1 + 1,x_2.2++[((x_1.1:Int),(nth aO (nth aA l x_1.1).2.2.2.1 x_2.1).1,(fN l b x_1.1 (nth aO (nth aA l x_1.1).2.2.2.1 x_2.1)).1,())]),⟨by omega,by rw [<-q_2.2.1,tK (k:=x_2.1) (by omega) (by rw [ho];rfl)],by simp only [List.length_append,List.length_singleton];omega⟩,by simp only;omega,⟨by simp only;omega,me (by rw [ho];simp only [Int.toNat_natCast];dsimp only [D] at *;omega),trivial⟩,me (by rw [ho];simp only [Int.toNat_natCast];dsimp only [D] at *;omega),(by trivial)⟩
 case bm|bn|bo|bp=>
  simp only [bl,reduceCtorEq] at h13
  omega
 case br=>
  have hm:=hp.2 x_1.1 (by omega)
  exact ⟨(x_1.1 + 1,x_2.2),⟨by omega,by rw [<-q_2.2.1,K5 (by omega)],by have:=hm.1;simp only;omega⟩,by simp only;omega,⟨by simp only;omega,rfl,trivial⟩,(by trivial)⟩
 case bs=>
  have hlen:b.length=l.length:=(by omega);have hib:jL b:=fun j hj=>q_0.2 j (by omega)
  rw [nk hlen hib,<-q_1.2.1,K4 (by omega)];rfl
theorem Tryz.Kd:bK Tryz.prog Tryz.B.eT Tryz.X 102 [.slice aA, .slice (.int .i64)] [.slice aH, .int .i64] (fun x=>ij x.1) (fun x y=>y=(fun x=>((dW x).1,hM (dW x).2)) x):=
 bM (X:=Tryz.X) Tryz.Kb Tryz.func102 (by kernel_rfl) (fun x=>EX x.1 x.2) (fun x hw hp=>Kc x.1 x.2 hw hp)
end Go.Proofs.YtgokjhhcfemnhabGreatDoor

namespace Go.Proofs.YtgokjhhcfemnhabGreatDoor
open Go.Vg Go.Mrl
noncomputable def Tryz.Ir:List (FuncId × (Bool × bQ)):=[(100,(false,bF Tryz.aV [.obj 0, .d .str] (fun _ x=>x.1.1.length<=6) Tryz.vA)),
 (101,(true,aL [.slice (.int .i64), .slice aW] [.slice (.int .i64), .int .i64] (fun _=>True) (fun x=>nj x))),
 (102,(true,aL [.slice aA, .slice (.int .i64)] [.slice aH, .int .i64] (fun x=>ij x.1) (fun x=>((dW x).1,hM (dW x).2))))]
theorem Tryz.Nx:bT Tryz.prog Tryz.B Tryz.X Tryz.Ir:=
 aP (Tryz.J6) (aP (aC Tryz.P4) (aP (aC Tryz.Kd) (bW Tryz.bX)))
noncomputable def Tryz.Is (_s:List UInt8) (_f:RS):cN:=[
 (0,fun st=>{X:=Nat,inv:=fun i=>i<=List.length (aZ (.slice aA) st 8),bA:=fun i=>List.length (aZ (.slice aA) st 8) - i,aS:=fun i=>[(11,sI i),(10, .s (.one (.app (.int .i64) (cC (List.take i (aZ (.slice aA) st 8))) (aQ st 10))))],aK:=fun i=>[(aQ st 10, .tok (.int .i64) (cC (List.take i (aZ (.slice aA) st 8))))],aX:=[4,5,6,7,8,9],eD:=[aQ st 10]}),
 (200002,fun st=>{X:=Nat,inv:=fun i=>i<=List.length (aZ (.slice aA) st 8),bA:=fun i=>List.length (aZ (.slice aA) st 8) - i,aS:=fun i=>[(15,sI i)],aU:=[.ext 0 (.slice bR)],refs:=[(14,0)],pd:=fun i=>(eC (aZ (.slice .str) st 7) (aZ (.slice (.int .i64)) st 12) (gy (bU (aZ (.slice aA) st 8)) (aZ (.slice aH) st 13)) i,()),aX:=[4,5,6,7,8,12,13]}),
 (4,fun st=>{X:=Nat,inv:=fun k=>k<=List.length (aZ (.slice aH) st 13),bA:=fun k=>List.length (aZ (.slice aH) st 13) - k,aS:=fun k=>[(17,sI k)],aK:=fun k=>[(aQ st 16, .bE (.int .i64) (kZ (nth aA (aZ (.slice aA) st 8) (aZ (.int .i64) st 15).toNat).2.1 (aZ (.int .i64) st 15).toNat (List.take k (aZ (.slice aH) st 13))))],aX:=[4,5,6,7,8,12,13,14,15,16,60,61,62,63,66,67,68,69,70,71],eD:=[aQ st 16]})]
noncomputable def Tryz.xN:List (Alt Tryz.aV [.obj 0, .d .str]):=[{cG:=Tryz.aV,res:=[.d (.slice bR), .d (.slice aH), .d (.int .i64)],out:=fun _ x=>x,ret:=fun a x=>((eG (bG x.1.1) a.1).1,(bD (bG x.1.1) a.1).2.2.2.1,(eG (bG x.1.1) a.1).2,())}]
theorem Ny (s:List UInt8) (f:RS) (hw:kn [.obj 0, .d .str] (s,())) (hp:(fun _ x=>x.1.1.length<=6) (s,()) (f,())):(fD (jV Tryz.B [14]) Tryz.Ir Tryz.f58 (Tryz.Is s f) Tryz.aV [.obj 0, .d .str] Tryz.xN (s,()) (f,())).holds:=by
 refine holds_of (p:=
  let za:=bG f.1
  let zb:=aR za s
  let zc:=(f,())=(f,())
  let zd:=((eG za s).1,(bD za s).2.2.2.1,(eG za s).2,())
  let ze:=zb.2.1
  let zf:=List.length ze
  let zg:=fun (x_0:Nat)=>(↑x_0:Int)
  let zh:=fun (x_0:Nat)=>decide (zg x_0 < (↑zf:Int))
  let zi:=fun (x_0:Nat)=>(0:Int)<=zg x_0
  let zj:=fun (x_0:Nat)=>zi x_0/\zg x_0 < (↑zf:Int)
  let zk:=fun (x_0:Nat)=>(nth aA ze x_0).2.1
  let zl:=fun (x_0:Nat)=>cC (List.take x_0 ze)
  let zm:=aE (1:Int)
  let zn:=fun (x_0:Nat)=>zg x_0 + (1:Int)
  let zo:=fun (x_0:Nat)=>zl x_0++[(↑(List.length (zk x_0)):Int)]
  let zp:=(f.1=f.1/\f.2.1=f.2.1/\True)/\@List.nil (Int × Int × Int × Unit) = @List.nil (Int × Int × Int × Unit)/\@List.nil (List UInt8 × Int × List Int × Unit) = @List.nil (List UInt8 × Int × List Int × Unit)/\True
  let zq:=fun (x_0:Nat)=>cL (zl x_0,[])
  let zr:=fun (x_0:Nat)=>hM (dW (ze,(zq x_0).1)).2
  let zs:=fun (x_0:Nat)=>zl x_0=zl x_0/\zp
  let zt:=!false
  let zu:=(zt && (zt && (zt && (zt && true))))=true
  let zv:=fun (x_0:Nat)=>(dW (ze,(zq x_0).1)).1
  let zw:=fun (x_0:Nat)=>gy (bU ze) (zv x_0)
  let zx:=fun (x_0:Nat)=>List.length (zv x_0)
  let zy:=fun (x_2 x_0:Nat)=>zi x_2/\zg x_2 < (↑(zx x_0):Int)
  let zz:=fun (x_1 x_2 x_0:Nat)=>kZ (zk x_1) x_1 (List.take x_2 (zv x_0))
  let zaa:=fun (x_0 x_1:Nat)=>eC zb.1 (zq x_0).1 (zw x_0) x_1
  let zab:=fun (x_1 x_0 x_2:Nat)=>[(nth Ty.str zb.1 x_1,nth (Ty.int IntKind.i64) (zq x_0).1 x_1,zz x_1 x_2 x_0,())]
  (List.length f.1<=(6:Nat))/\((True)->(((decide (zb.2.2 > (0:Int)))=true->(True/\zc/\([],[],zb.2.2,())=zd))/\((decide (zb.2.2 > (0:Int)))=false->(∃(x:Nat),x<=zf/\((0:Int)=(↑x:Int)/\@List.nil Int=cC (List.take x ze)/\True)/\@List.nil Int=cC (List.take x ze)/\True)/\(∀x_0:Nat,((x_0<=zf)->((zf<=aJ)->(((zh x_0)=true->(zj x_0)/\((List.length (zk x_0)<=aJ)->(zl x_0=zl x_0/\List.length (zl x_0) + List.length [(↑(List.length (zk x_0)):Int)]<=(1000000000:Nat))/\((aE (zg x_0))->((zm)->(aE (zn x_0))/\(∃(x':Nat),x'<=zf/\zf - x' < zf - x_0/\(zn x_0=(↑x':Int)/\zo x_0=cC (List.take x' ze)/\True)/\zo x_0=cC (List.take x' ze)/\zp)))))/\((zh x_0)=false->(True)/\(((decide (hM (zq x_0).2 > (0:Int)))=true->(True/\zc/\([],[],hM (zq x_0).2,())=zd))/\((decide (hM (zq x_0).2 > (0:Int)))=false->(ij ze)/\(((decide (zr x_0 > (0:Int)))=true->(True/\zc/\([],[],zr x_0,())=zd))/\((decide (zr x_0 > (0:Int)))=false->(((∃(x':Nat),x'<=zf/\True/\((0:Int)=(↑x':Int)/\True)/\zs x_0/\zu/\([],())=(eC zb.1 (zq x_0).1 (zw x_0) x',())))/\((∀x_1:Nat,((x_1<=zf)->((zf<=aJ)->(((zh x_1)=true->(zj x_1)/\(List.length (zk x_1)<=(1000000000:Nat))/\(∃(x:Nat),x<=zx x_0/\((0:Int)=(↑x:Int)/\True)/\zk x_1=kZ (zk x_1) x_1 (List.take x (zv x_0))/\True)/\(∀x_2:Nat,((x_2<=zx x_0)->((zx x_0<=aJ)->(((decide (zg x_2 < (↑(zx x_0):Int)))=true->(zy x_2 x_0)/\((((nth aH (zv x_0) x_2).1 == zg x_1)=true->(zy x_2 x_0)/\(zy x_2 x_0)/\((0:Int)<=(nth aH (zv x_0) x_2).2.1/\(nth aH (zv x_0) x_2).2.1 < (↑(List.length (zz x_1 x_2 x_0)):Int))/\(Int.toNat (nth aH (zv x_0) x_2).2.1 < List.length (zz x_1 x_2 x_0))/\((aE (zg x_2))->((zm)->(aE (zn x_2))/\(∃(x':Nat),x'<=zx x_0/\zx x_0 - x' < zx x_0 - x_2/\(zn x_2=(↑x':Int)/\True)/\List.set (zz x_1 x_2 x_0) (Int.toNat (nth aH (zv x_0) x_2).2.1) (nth aH (zv x_0) x_2).2.2.1=kZ (zk x_1) x_1 (List.take x' (zv x_0))/\zaa x_0 x_1=zaa x_0 x_1/\zs x_0))))/\(((nth aH (zv x_0) x_2).1 == zg x_1)=false->((aE (zg x_2))->((zm)->(aE (zn x_2))/\(∃(x':Nat),x'<=zx x_0/\zx x_0 - x' < zx x_0 - x_2/\(zn x_2=(↑x':Int)/\True)/\zz x_1 x_2 x_0=kZ (zk x_1) x_1 (List.take x' (zv x_0))/\zaa x_0 x_1=zaa x_0 x_1/\zs x_0))))))/\((decide (zg x_2 < (↑(zx x_0):Int)))=false->(zi x_1/\zg x_1 < (↑(List.length zb.1):Int))/\(zi x_1/\zg x_1 < (↑(List.length (zq x_0).1):Int))/\((0:Nat) < List.length (zab x_1 x_0 x_2)/\List.length (zaa x_0 x_1) + List.length (zab x_1 x_0 x_2)<=(1000000000:Nat))/\((aE (zg x_1))->((zm)->(aE (zn x_1))/\(∃(x':Nat),x'<=zf/\zf - x' < zf - x_1/\(zn x_1=(↑x':Int)/\True)/\zs x_0/\zu/\(zaa x_0 x_1++zab x_1 x_0 x_2,())=(eC zb.1 (zq x_0).1 (zw x_0) x',()))))))))))/\((zh x_1)=false->(True/\zc/\(zaa x_0 x_1,zv x_0,(0:Int),())=zd))))))))))))))))))))) (by kernel_rfl) ?_
 dsimp -iota -proj -eta only
 dsimp only at hp
 refine ⟨(by trivial),fun h0=>iL (fun h1=>⟨trivial,rfl,Hx (by omega)⟩) (fun h1=>⟨(⟨0,Nat.zero_le _,⟨rfl,rfl,trivial⟩,rfl,trivial⟩),fun x_0 q_0 h2=>iL (fun h3=>⟨?a,fun h4=>⟨(by exact ⟨rfl,by rw [BV,List.length_take];have:=xA (cS hp) (Int.le_antisymm h1 (gT (cS hp) s));simp only [List.length_singleton];omega⟩),fun h5 h6=>⟨?b,(⟨x_0 + 1,by omega,by omega,⟨by omega,(pZ (by omega)).symm,trivial⟩,(pZ (by omega)).symm,(by trivial)⟩)⟩⟩⟩) (fun h3=>⟨trivial,iL (fun h4 => ?c) (fun h4=>⟨(BX (cS hp) (Int.le_antisymm h1 (gT (cS hp) s))),iL (fun h5 => ?d) (fun h5=>⟨(⟨0,Nat.zero_le _,trivial,⟨rfl,trivial⟩,(by trivial),rfl,rfl⟩),fun x_1 q_1 h6=>iL (fun h7=>⟨?e,?f,(⟨0,Nat.zero_le _,⟨rfl,trivial⟩,rfl,(by trivial)⟩),fun x_2 q_2 h8=>iL (fun h9=>⟨?g,iQ (fun h10=>⟨?h,?i,?j,?k,fun h11 h12=>⟨?l,(⟨x_2 + 1,by omega,by omega,⟨by omega,trivial⟩,Rh (by omega) h10,(by trivial)⟩)⟩⟩) (fun h10 h11 h12=>⟨?m,(⟨x_2 + 1,by omega,by omega,⟨by omega,trivial⟩,ON (by omega) h10,(by trivial)⟩)⟩)⟩) (fun h9=>⟨(by have:=(vk (cS hp) (Int.le_antisymm h1 (gT (cS hp) s))).len;omega),?n,?o,fun h10 h11=>⟨?p,?q⟩⟩)⟩) (fun h7 => ?r)⟩)⟩)⟩)⟩)⟩
 case a|e|g|h|i=>omega
 case b|l|m|p=>simp only [aE,aJ] at *;omega
 case c=>
  have e0:List.take x_0 (aR (bG f.1) s).2.1=(aR (bG f.1) s).2.1:=lf (by omega)
  rw [e0] at h4 ⊢
  exact ⟨trivial,rfl,Hy (Int.le_antisymm h1 (gT (cS hp) s)) h4⟩
 case d=>
  have e0:List.take x_0 (aR (bG f.1) s).2.1=(aR (bG f.1) s).2.1:=lf (by omega)
  rw [e0] at h4 h5 ⊢
  exact ⟨trivial,rfl,MV (Int.le_antisymm h1 (gT (cS hp) s)) (Hz (qN _) h4) h5⟩
 case f=>
  have e0:List.take x_0 (aR (bG f.1) s).2.1=(aR (bG f.1) s).2.1:=lf (by omega)
  rw [e0] at h4 h5
  obtain ⟨hr,er⟩:=tQ (cS hp) (Int.le_antisymm h1 (gT (cS hp) s)) h4 h5
  exact Nat.le_trans ((MU (cS hp) hr.sc).2 x_1 (by omega)) (by decide)
 case j|k=>
  have e0:List.take x_0 (aR (bG f.1) s).2.1=(aR (bG f.1) s).2.1:=lf (by omega)
  rw [e0] at h4 h5 h9 h10 ⊢
  obtain ⟨hr,er⟩:=tQ (cS hp) (Int.le_antisymm h1 (gT (cS hp) s)) h4 h5
  have:=RP hr (i:=x_1) (k:=x_2) (by omega) h10 (by omega)
  first | exact this | exact (Int.toNat_lt this.1).2 this.2
 case n=>
  have e0:List.take x_0 (aR (bG f.1) s).2.1=(aR (bG f.1) s).2.1:=lf (by omega)
  rw [e0] at h4 h5 ⊢
  obtain ⟨hr,er⟩:=tQ (cS hp) (Int.le_antisymm h1 (gT (cS hp) s)) h4 h5
  have:=hr.bl;omega
 case o=>
  refine ⟨by simp,?_⟩
  rw [nv];have:=xA (cS hp) (Int.le_antisymm h1 (gT (cS hp) s));simp only [List.length_singleton];omega
 case q=>
  have e0:List.take x_0 (aR (bG f.1) s).2.1=(aR (bG f.1) s).2.1:=lf (by omega)
  rw [e0] at h4 h5 h9 ⊢
  obtain ⟨hr,er⟩:=tQ (cS hp) (Int.le_antisymm h1 (gT (cS hp) s)) h4 h5
  exact ⟨x_1 + 1,by omega,by omega,⟨by omega,trivial⟩,(by trivial),rfl,congrArg (·,()) (MW hr (by omega) (by rw [lf (by omega)]))⟩
 case r=>
  have e0:List.take x_0 (aR (bG f.1) s).2.1=(aR (bG f.1) s).2.1:=lf (by omega)
  rw [e0] at h4 h5 ⊢
  obtain ⟨hr,er⟩:=tQ (cS hp) (Int.le_antisymm h1 (gT (cS hp) s)) h4 h5
  rw [show x_1=List.length (aR (bG f.1) s).2.1 by omega]
  exact ⟨trivial,rfl,JG hr er⟩
theorem Tryz.Nz:dK Tryz.prog Tryz.B.eT Tryz.X 58 false (bF Tryz.aV [.obj 0, .d .str] (fun _ x=>x.1.1.length<=6) Tryz.xN):=
 cH (B:=(jV Tryz.B [14])) (X:=Tryz.X) (bT.hint (l:=[14]) Tryz.Nx) Tryz.func58 (by kernel_rfl) (fun (a:CD [.obj 0, .d .str]) (x:PD Tryz.aV)=>Tryz.Is a.1 x.1) (fun (a:CD [.obj 0, .d .str]) (x:PD Tryz.aV) hw hp=>Ny a.1 x.1 hw hp)
end Go.Proofs.YtgokjhhcfemnhabGreatDoor

namespace Go.Proofs.YtgokjhhcfemnhabGreatDoor
open Go.Vg Go.Mrl
noncomputable def Tryz.It:List (FuncId × (Bool × bQ)):=[(58,(false,bF Tryz.aV [.obj 0, .d .str] (fun _ x=>x.1.1.length<=6) Tryz.xN)),
 (51,(false,bF Tryz.aV [.obj 0, .d .str] (fun _ _=>True) Tryz.lF))]
theorem Tryz.NA:bT Tryz.prog Tryz.B Tryz.X Tryz.It:=
 aP (Tryz.Nz) (aP (Tryz.pO) (bW Tryz.bX))
def Tryz.Iu (s:List UInt8) (f:RS):cN:=[
 (0,fun st=>{X:=Nat,inv:=fun i=>i<=List.length (aZ (.slice bR) st 6),bA:=fun i=>List.length (aZ (.slice bR) st 6) - i,aS:=fun i=>[(10,sI i)],aX:=[0,4,5,6,9],aK:=fun i=>[(aQ st 9, .cells 48 [.d .str s, .app aF (iq (bG f.1) (List.take i (aZ (.slice bR) st 6))) (eL st (aQ st 9) 1), .d (.slice aH) (aZ (.slice aH) st 7)]),(eL st (aQ st 9) 1, .tok aF (iq (bG f.1) (List.take i (aZ (.slice bR) st 6))))],eD:=[aQ st 9,eL st (aQ st 9) 1]})]
noncomputable def Tryz.xO:List (Alt Tryz.aV [.obj 0, .d .str]):=[{cG:=Tryz.aV,res:=[.d aI, .d (.int .i64)],out:=fun _ x=>x,ret:=fun a x=>((jf (bG x.1.1) a.1).1,(jf (bG x.1.1) a.1).2,())}]
theorem P8 (s:List UInt8) (f:RS) (hw:kn [.obj 0, .d .str] (s,())) (hp:(fun _ x=>x.1.1.length<=6) (s,()) (f,())):(fD Tryz.B Tryz.It Tryz.f37 (Tryz.Iu s f) Tryz.aV [.obj 0, .d .str] Tryz.xO (s,()) (f,())).holds:=by
 refine holds_of (p:=
  let za:=bG f.1
  let zb:=(eG za s).2
  let zc:=(f,())=(f,())
  let zd:=((jf za s).1,(jf za s).2,())
  let ze:=(eG za s).1
  let zf:=List.length ze
  let zg:=bG f.1
  let zh:=(bD za s).2.2.2.1
  let zi:=zh=zh/\True
  let zj:=fun (x_0:Nat)=>(0:Int)<=(↑x_0:Int)/\(↑x_0:Int) < (↑zf:Int)
  let zk:=fun (x_0:Nat)=>iq zg (List.take x_0 ze)
  let zl:=fun (x_0:Nat)=>[((nth bR ze x_0).1,(bG f.1 (nth bR ze x_0).1).2.1,(nth bR ze x_0).2.1,())]
  let zm:=@List.nil (Int × Int × Int × Unit) = @List.nil (Int × Int × Int × Unit)
  let zn:=@List.nil (List UInt8 × Int × Int × Unit) = @List.nil (List UInt8 × Int × Int × Unit)
  (List.length f.1<=(6:Nat))/\((True)->(((decide (zb > (0:Int)))=true->(True/\zc/\(([],[],[],()),zb,())=zd))/\((decide (zb > (0:Int)))=false->(∃(x:Nat),x<=zf/\((0:Int)=(↑x:Int)/\True)/\(s=s/\@List.nil (List UInt8 × Int × Int × Unit)=iq zg (List.take x ze)/\zi)/\@List.nil (List UInt8 × Int × Int × Unit)=iq zg (List.take x ze)/\True)/\(∀x_0:Nat,((x_0<=zf)->((zf<=aJ)->(((decide ((↑x_0:Int) < (↑zf:Int)))=true->(zj x_0)/\(True)/\((True)->(zj x_0)/\(zj x_0)/\(zk x_0=zk x_0/\List.length (zk x_0) + List.length (zl x_0)<=(1000000000:Nat))/\((aE (↑x_0:Int))->((aE (1:Int))->(aE ((↑x_0:Int) + (1:Int)))/\(∃(x':Nat),x'<=zf/\zf - x' < zf - x_0/\((↑x_0:Int) + (1:Int)=(↑x':Int)/\True)/\(s=s/\zk x_0++zl x_0=iq zg (List.take x' ze)/\zi)/\zk x_0++zl x_0=iq zg (List.take x' ze)/\zm/\zn/\(f.1=f.1/\f.2.1=f.2.1/\True)/\(@List.nil UInt8 = @List.nil UInt8/\zn/\zm/\True)/\zm/\zn/\True)))))/\((decide ((↑x_0:Int) < (↑zf:Int)))=false->(True/\zc/\((s,zk x_0,zh,()),(0:Int),())=zd)))))))))) (by kernel_rfl) ?_
 dsimp -iota -proj -eta only
 dsimp only at hp
 refine ⟨(by trivial),fun h0=>iL (fun h1=>(by exact ⟨trivial,rfl,by rw [xI (cS hp) h1];rfl⟩)) (fun h1=>⟨(⟨0,Nat.zero_le _,⟨rfl,trivial⟩,⟨rfl,rfl,rfl,trivial⟩,rfl,(by trivial)⟩),fun x_0 q_0 h2=>iL (fun h3=>⟨?a,trivial,fun h4=>⟨?b,?c,?d,fun h5 h6=>⟨(by simp only [aE,aJ] at *;omega),(⟨x_0 + 1,by omega,by omega,⟨by omega,trivial⟩,⟨rfl,xH (by omega),rfl,trivial⟩,xH (by omega),(by trivial)⟩)⟩⟩⟩) (fun h3=>⟨trivial,rfl,by rw [Ay (cS hp) h1 (i:=x_0) (by omega)]⟩)⟩)⟩
 case a|b|c=>omega
 case d=>refine ⟨rfl,HT ?_⟩;rw [List.length_take];have:=HU (cS hp) h1;omega
theorem Tryz.P9:dK Tryz.prog Tryz.B.eT Tryz.X 37 false (bF Tryz.aV [.obj 0, .d .str] (fun _ x=>x.1.1.length<=6) Tryz.xO):=
 cH (X:=Tryz.X) Tryz.NA Tryz.func37 (by kernel_rfl) (fun (a:CD [.obj 0, .d .str]) (x:PD Tryz.aV)=>Tryz.Iu a.1 x.1) (fun (a:CD [.obj 0, .d .str]) (x:PD Tryz.aV) hw hp=>P8 a.1 x.1 hw hp)
noncomputable def Tryz.EY:List (FuncId × (Bool × bQ)):=[(51,(false,bF Tryz.aV [.obj 0, .d .str] (fun _ _=>True) Tryz.lF))]
theorem Tryz.Ke:bT Tryz.prog Tryz.B Tryz.X Tryz.EY:=
 aP (Tryz.pO) (bW Tryz.bX)
def Tryz.EZ (e:D aI) (f:RS):cN:=[
 (0,fun st=>{X:=Nat,inv:=fun i=>i<=List.length e.2.1/\∀j,j < i->gF (bG f.1) (nth aF e.2.1 j)=true,bA:=fun i=>List.length e.2.1 - i,aS:=fun i=>[(5,sI i)],aX:=[1,2]})]
def Tryz.qT:List (Alt Tryz.aV [.d aI, .obj 0]):=[{cG:=Tryz.aV,res:=[.d .bool],out:=fun _ x=>x,ret:=fun a x=>(fX (bG x.1.1) a.1,())}]
theorem Qa (e:D aI) (f:RS) (hw:kn [.d aI, .obj 0] (e,())):(fD Tryz.B Tryz.EY Tryz.f41 (Tryz.EZ e f) Tryz.aV [.d aI, .obj 0] Tryz.qT (e,()) (f,())).holds:=by
 refine holds_of (p:=
  let za:=e.2.1
  let zb:=List.length za
  let zc:=bG f.1
  let zd:=fun (x_0:Nat)=>(0:Int)<=(↑x_0:Int)/\(↑x_0:Int) < (↑zb:Int)
  let ze:=fun (x_0:Nat)=>(bG f.1 (nth aF za x_0).1).2
  let zf:=(f,())=(f,())
  let zg:=(fX (bG f.1) e,())
  let zh:=True/\zf/\(false,())=zg
  (∃(x:Nat),(x<=zb/\∀(j:Nat),j < x->gF zc (nth aF za j)=true)/\((0:Int)=(↑x:Int)/\True)/\True)/\(∀x_0:Nat,((x_0<=zb/\∀(j:Nat),j < x_0->gF zc (nth aF za j)=true)->((zb<=aJ)->(((decide ((↑x_0:Int) < (↑zb:Int)))=true->(zd x_0)/\(True)/\((True)->(((decide ((ze x_0).2 > (0:Int)))=true->(zh))/\((decide ((ze x_0).2 > (0:Int)))=false->(zd x_0)/\((((ze x_0).1 != (nth aF za x_0).2.1)=true->(zh))/\(((ze x_0).1 != (nth aF za x_0).2.1)=false->((aE (↑x_0:Int))->((aE (1:Int))->(aE ((↑x_0:Int) + (1:Int)))/\(∃(x':Nat),(x'<=zb/\∀(j:Nat),j < x'->gF zc (nth aF za j)=true)/\zb - x' < zb - x_0/\((↑x_0:Int) + (1:Int)=(↑x':Int)/\True)/\(e.1=e.1/\za=za/\e.2.2.1=e.2.2.1/\True)/\(f.1=f.1/\f.2.1=f.2.1/\True)/\True)))))))))/\((decide ((↑x_0:Int) < (↑zb:Int)))=false->((zb<=aJ)->(True/\zf/\(decide ((↑zb:Int) > (0:Int)),())=zg)))))))) (by kernel_rfl) ?_
 dsimp -iota -proj -eta only
 refine ⟨(⟨0,⟨Nat.zero_le _,fun j hj=>absurd hj (Nat.not_lt_zero _)⟩,⟨rfl,trivial⟩,trivial⟩),fun x_0 q_0 h0=>iL (fun h1=>⟨?a,trivial,fun h2=>iL (fun h3=>⟨trivial,rfl,by rw [vt (i:=x_0) (by omega) (PC h3)]⟩) (fun h3=>⟨?b,iN (fun h4=>⟨trivial,rfl,by rw [vt (i:=x_0) (by omega) (B0 h4)]⟩) (fun h4 h5 h6=>⟨(by simp only [aE,aJ] at *;omega),(⟨x_0 + 1,⟨by omega,jA q_0.2 (Nc (BB f.1 _) (by omega) h4)⟩,by omega,⟨by omega,trivial⟩,(by trivial)⟩)⟩)⟩)⟩) (fun h1 h2=>(by exact ⟨trivial,rfl,by rw [Ej fun i hi=>q_0.2 i (by omega)];simp⟩))⟩
 case a|b=>omega
theorem Tryz.E0:dK Tryz.prog Tryz.B.eT Tryz.X 41 false (bF Tryz.aV [.d aI, .obj 0] (fun _ _=>True) Tryz.qT):=
 cH (X:=Tryz.X) Tryz.Ke Tryz.func41 (by kernel_rfl) (fun (a:CD [.d aI, .obj 0]) (x:PD Tryz.aV)=>Tryz.EZ a.1 x.1) (fun (a:CD [.d aI, .obj 0]) (x:PD Tryz.aV) hw hp=>Qa a.1 x.1 hw)
noncomputable def Tryz.Iv:List (FuncId × (Bool × bQ)):=[(41,(false,bF Tryz.aV [.d aI, .obj 0] (fun _ _=>True) Tryz.qT)),
 (51,(false,bF Tryz.aV [.obj 0, .d .str] (fun _ _=>True) Tryz.lF)),
 (76,(true,aL [.str] [aA, .int .i64] (fun _=>True) (fun s=>bP s)))]
theorem Tryz.NB:bT Tryz.prog Tryz.B Tryz.X Tryz.Iv:=
 aP (Tryz.E0) (aP (Tryz.pO) (aP (aC Tryz.xM) (bW Tryz.bX)))
noncomputable def Tryz.Iw (e:D aI) (f:RS):cN:=[
 (200000,fun st=>{X:=Nat,inv:=fun i=>i<=List.length e.2.1/\∀j,j < i->(bP (bG f.1 (nth aF e.2.1 j).1).1).2=0,bA:=fun i=>List.length e.2.1 - i,aS:=fun i=>[(8,sI i)],aU:=[.ext 0 (.slice bR)],refs:=[(7,0)],pd:=fun i=>(hE (bG f.1) e.2.1 [] i,()),aX:=[1,2]}),
 (200002,fun st=>{X:=Nat,inv:=fun k=>k<=List.length e.2.2.1/\∀j,j < k->oH (bU (cY (bG f.1) e.2.1)) (nth aH e.2.2.1 j),bA:=fun k=>List.length e.2.2.1 - k,aS:=fun k=>[(14,sI k)],aU:=[.ext 0 (.slice bR)],refs:=[(7,0)],pd:=fun k=>(hE (bG f.1) e.2.1 (List.take k e.2.2.1) (List.length e.2.1),()),aX:=[2,7]})]
noncomputable def Tryz.xP:List (Alt Tryz.aV [.d aI, .obj 0]):=[{cG:=Tryz.aV,res:=[.d (.slice bR), .d (.int .i64)],out:=fun _ x=>x,ret:=fun a x=>((jk (bG x.1.1) a.1).1,(jk (bG x.1.1) a.1).2,())}]
theorem Sk (e:D aI) (f:RS) (hw:kn [.d aI, .obj 0] (e,())) (hp:(fun a x=>a.1.2.1.length<=1000/\x.1.1.length<=6) (e,()) (f,())):(fD (jV Tryz.B [7]) Tryz.Iv Tryz.f39 (Tryz.Iw e f) Tryz.aV [.d aI, .obj 0] Tryz.xP (e,()) (f,())).holds:=by
 refine holds_of (p:=
  let za:=(f,())=(f,())
  let zb:=jk (bG f.1) e
  let zc:=(zb.1,zb.2,())
  let zd:=e.2.1
  let ze:=List.length zd
  let zf:=e.2.2.1
  let zg:=(f.1=f.1/\f.2.1=f.2.1/\True)/\@List.nil (List UInt8 × Int × List Int × Unit) = @List.nil (List UInt8 × Int × List Int × Unit)/\(e.1=e.1/\zd=zd/\zf=zf/\True)/\True
  let zh:=!false
  let zi:=(zh && (zh && (zh && true)))=true
  let zj:=bG f.1
  let zk:=fun (x_0:Nat)=>(0:Int)<=(↑x_0:Int)/\(↑x_0:Int) < (↑ze:Int)
  let zl:=fun (x_0:Nat)=>bP (bG f.1 (nth aF zd x_0).1).1
  let zm:=fun (x_0:Nat)=>List.length (zl x_0).1.2.1<=(1000000000:Nat)
  let zn:=fun (x_0:Nat)=>[((nth aF zd x_0).1,(nth aF zd x_0).2.2.1,(zl x_0).1.2.1,())]
  let zo:=fun (x_0:Nat)=>hE zj zd (@List.nil Pt) x_0
  let zp:=fun (x_0:Nat)=>(↑x_0:Int) + (1:Int)
  let zq:=fun (x_0:Nat)=>((0:Nat) < List.length (zn x_0)/\List.length (zo x_0) + List.length (zn x_0)<=(1000000000:Nat))/\((aE (↑x_0:Int))->((aE (1:Int))->(aE (zp x_0))/\(∃(x':Nat),(x'<=ze/\∀(j:Nat),j < x'->(bP (bG f.1 (nth aF zd j).1).1).2=(0:Int))/\ze - x' < ze - x_0/\(zp x_0=(↑x':Int)/\True)/\zg/\zi/\(zo x_0++zn x_0,())=(hE zj zd (@List.nil Pt) x',()))))
  let zr:=List.length zf
  let zs:=bU (cY zj zd)
  let zt:=fun (x_1:Nat)=>(nth aH zf x_1).1
  let zu:=True/\za/\([],(1:Int),())=zc
  let zv:=fun (x_1:Nat)=>hE zj zd (List.take x_1 zf) ze
  let zw:=fun (x_1:Nat)=>(nth aH zf x_1).2.1
  let zx:=fun (x_1:Nat)=>(0:Int)<=zt x_1/\zt x_1 < (↑(List.length (zv x_1)):Int)
  let zy:=fun (x_1:Nat)=>Int.toNat (zt x_1) < List.length (zv x_1)
  let zz:=fun (x_1:Nat)=>nth bR (zv x_1) (Int.toNat (zt x_1))
  let zaa:=fun (x_1:Nat)=>List.length (zz x_1).2.2.1
  (True)/\((True)->(((!fX (bG f.1) e)=true->(True/\za/\([],(10:Int),())=zc))/\((!fX (bG f.1) e)=false->(((∃(x':Nat),(x'<=ze/\∀(j:Nat),j < x'->(bP (bG f.1 (nth aF zd j).1).1).2=(0:Int))/\True/\((0:Int)=(↑x':Int)/\True)/\zg/\zi/\([],())=(hE zj zd (@List.nil Pt) x',())))/\((∀x_0:Nat,((x_0<=ze/\∀(j:Nat),j < x_0->(bP (bG f.1 (nth aF zd j).1).1).2=(0:Int))->((ze<=aJ)->(((decide ((↑x_0:Int) < (↑ze:Int)))=true->(zk x_0)/\(True)/\((True)->(True)/\(((decide ((zl x_0).2 > (0:Int)))=true->(True/\za/\([],(zl x_0).2,())=zc))/\((decide ((zl x_0).2 > (0:Int)))=false->((fun a0 a1:Prop=>a0/\a0/\a1) ((zk x_0)/\(((zk x_0)/\(zm x_0)/\(zq x_0))/\((zm x_0)/\(zk x_0)/\(zq x_0)))) ((zm x_0)/\(zk x_0)/\(zk x_0)/\(zq x_0)))))))/\((decide ((↑x_0:Int) < (↑ze:Int)))=false->(((∃(x':Nat),(x'<=zr/\∀(j:Nat),j < x'->oH zs (nth aH zf j))/\True/\((0:Int)=(↑x':Int)/\True)/\zg/\zi/\(zo x_0,())=(hE zj zd (List.take x' zf) ze,())))/\((∀x_1:Nat,((x_1<=zr/\∀(j:Nat),j < x_1->oH zs (nth aH zf j))->((zr<=aJ)->(((decide ((↑x_1:Int) < (↑zr:Int)))=true->((0:Int)<=(↑x_1:Int)/\(↑x_1:Int) < (↑zr:Int))/\(((decide (zt x_1 < (0:Int)))=true->(zu))/\((decide (zt x_1 < (0:Int)))=false->((List.length (zv x_1)<=aJ)->(((decide (zt x_1>=(↑(List.length (zv x_1)):Int)))=true->(zu))/\((decide (zt x_1>=(↑(List.length (zv x_1)):Int)))=false->(((decide (zw x_1 < (0:Int)))=true->(zu))/\((decide (zw x_1 < (0:Int)))=false->(zx x_1)/\(zy x_1)/\(zy x_1)/\((zaa x_1<=aJ)->(((decide (zw x_1>=(↑(zaa x_1):Int)))=true->(zu))/\((decide (zw x_1>=(↑(zaa x_1):Int)))=false->(zx x_1)/\(zy x_1)/\(zy x_1/\(0:Int)<=zw x_1/\zw x_1 < (↑(zaa x_1):Int))/\(zy x_1/\Int.toNat (zw x_1) < zaa x_1)/\((aE (↑x_1:Int))->((aE (1:Int))->(aE (zp x_1))/\(∃(x':Nat),(x'<=zr/\∀(j:Nat),j < x'->oH zs (nth aH zf j))/\zr - x' < zr - x_1/\(zp x_1=(↑x':Int)/\True)/\zg/\zi/\(List.set (zv x_1) (Int.toNat (zt x_1)) ((zz x_1).1,(zz x_1).2.1,List.set (zz x_1).2.2.1 (Int.toNat (zw x_1)) (nth aH zf x_1).2.2.1,(zz x_1).2.2.2),())=(hE zj zd (List.take x' zf) ze,())))))))))))))))/\((decide ((↑x_1:Int) < (↑zr:Int)))=false->(True/\za/\(zv x_1,(0:Int),())=zc))))))))))))))))))) (by kernel_rfl) ?_
 dsimp -iota -proj -eta only
 dsimp only at hp
 refine ⟨trivial,fun h0=>iB (fun h1=>⟨trivial,rfl,by rw [Ek h1]⟩) (fun h1=>⟨(⟨0,⟨Nat.zero_le _,fun j hj=>absurd hj (Nat.not_lt_zero _)⟩,trivial,⟨rfl,trivial⟩,(by trivial),rfl,rfl⟩),fun x_0 q_0 h2=>iL (fun h3=>⟨?a,trivial,fun h4=>⟨trivial,iL (fun h5=>⟨trivial,rfl,by rw [Lq h1 (Aw q_0.2 (by omega) (by omega)) (by omega)]⟩) (fun h5=>(show ∀{a0 a1:Prop},a0->a1->a0/\a0/\a1 from fun g0 g1=>⟨g0,g0,g1⟩) (⟨?b,⟨⟨?c,?d,?e,fun h6 h7=>⟨?f,?g⟩⟩,⟨?h,?i,?j,fun h6 h7=>⟨?k,?l⟩⟩⟩⟩) (⟨?m,?n,?o,?p,fun h6 h7=>⟨?q,?r⟩⟩))⟩⟩) (fun h3=>⟨?s,fun x_1 q_1 h4=>iL (fun h5=>⟨?t,iL (fun h6 => ?u) (fun h6 h7=>iE (fun h8 => ?v) (fun h8=>iL (fun h9 => ?w) (fun h9=>⟨?x,?y,?z,fun h10=>iE (fun h11 => ?a0) (fun h11=>⟨?a1,?a2,?a3,?a4,fun h12 h13=>⟨?a5,?a6⟩⟩)⟩)))⟩) (fun h5=>⟨trivial,rfl,by rw [PF h1 (fun j hj=>q_0.2 j (by omega)) (by omega) q_1.2]⟩)⟩)⟩)⟩
 case a|b|c|i|n|o|t=>omega
 case d|h|m=>exact Ng (by omega)
 case e|j|p=>exact Nf (by omega)
 case f|k|q|a5=>simp only [aE,aJ] at *;omega
 case g|l|r=>exact ⟨x_0 + 1,⟨by omega,jA q_0.2 (RX (by omega))⟩,by omega,⟨by omega,trivial⟩,⟨(by trivial),rfl,(by trivial),trivial⟩,rfl,congrArg (fun z=>(z,())) (Nd (by omega))⟩
 case s=>
  have hx:x_0=List.length e.2.1:=by omega
  subst hx
  exact ⟨0,⟨Nat.zero_le _,fun j hj=>absurd hj (Nat.not_lt_zero _)⟩,trivial,⟨rfl,trivial⟩,⟨(by trivial),rfl,(by trivial),trivial⟩,rfl,rfl⟩
 case u|v|w=>
  have hx:x_0=List.length e.2.1:=by omega
  refine ⟨trivial,rfl,?_⟩
  rw [HV h1 (fun j hj=>q_0.2 j (by omega)) (i:=x_1) (by omega) fun hk => ?_]
  have a:=hk.1;have b:=hk.2.1;have c:=hk.2.2.1;rw [qR] at b;try rw [j9] at *
  dsimp only [D] at *;omega
 case x|y|z|a1|a2=>rw [j9] at *;dsimp only [D] at *;omega
 case a0=>
  have hx:x_0=List.length e.2.1:=by omega
  refine ⟨trivial,rfl,?_⟩
  rw [HV h1 (fun j hj=>q_0.2 j (by omega)) (i:=x_1) (by omega) fun hk => ?_]
  have d:=hk.2.2.2;rw [j9] at *;rw [rP (by omega)] at *;dsimp only [D] at *;omega
 case a3|a4=>rw [j9] at *;rw [rP (by omega)] at *;dsimp only [D] at *;omega
 case a6=>
  have hx:x_0=List.length e.2.1:=by omega
  have ho:oH (bU (cY (bG f.1) e.2.1)) (nth aH e.2.2.1 x_1):=by
   rw [j9] at *;rw [rP (by omega)] at *
   refine ⟨?_,?_,?_,?_⟩
   ·dsimp only [D] at *;omega
   ·rw [qR];dsimp only [D] at *;omega
   ·dsimp only [D] at *;omega
   ·dsimp only [D] at *;omega
  exact ⟨x_1 + 1,⟨by omega,jA q_1.2 ho⟩,by omega,⟨by omega,trivial⟩,⟨(by trivial),rfl,(by trivial),trivial⟩,rfl,congrArg (fun z=>(z,())) (RY (by omega) ho)⟩
theorem Tryz.Sl:dK Tryz.prog Tryz.B.eT Tryz.X 39 false (bF Tryz.aV [.d aI, .obj 0] (fun a x=>a.1.2.1.length<=1000/\x.1.1.length<=6) Tryz.xP):=
 cH (B:=(jV Tryz.B [7])) (X:=Tryz.X) (bT.hint (l:=[7]) Tryz.NB) Tryz.func39 (by kernel_rfl) (fun (a:CD [.d aI, .obj 0]) (x:PD Tryz.aV)=>Tryz.Iw a.1 x.1) (fun (a:CD [.d aI, .obj 0]) (x:PD Tryz.aV) hw hp=>Sk a.1 x.1 hw hp)
end Go.Proofs.YtgokjhhcfemnhabGreatDoor

namespace Go.Proofs.YtgokjhhcfemnhabGreatDoor
open Go.Vg Go.Mrl
theorem Sm (x:Int) (hw:eE [.int .u64] x) (hp:(fun x=>0<=x/\x<=100) x):(cM Tryz.B [] Tryz.f184 [] [.int .u64] [.int .i64] (fun _ _=>True) x).holds:=by
 refine holds_of (p:=
  let za:=(0:Int)<=(16:Int)
  let zb:=(2:Int) ^ min (16:Nat) (IntKind.bits IntKind.u64)
  let zc:=aE (32:Int)
  let zd:=(32:Int) + (16:Int)
  let ze:=fun (x_1:Int)=>decide (x_1>=(256:Int))
  let zf:=(0:Int)<=(8:Int)
  let zg:=(2:Int) ^ min (8:Nat) (IntKind.bits IntKind.u64)
  let zh:=aE (8:Int)
  let zi:=aE (zd + (8:Int))
  let zj:=[(8:UInt8),8,8,8,8,8,8,8,8,8,8,8,8,8,8,8,8,8,8,8,8,8,8,8,8,8,8,8,8,8,8,8,8,8,8,8,8,8,8,8,8,8,8,8,8,8,8,8,8,8,8,8,8,8,8,8,8,8,8,8,8,8,8,8]
  let zk:=List.append (List.append [(0:UInt8),1,2,2,3,3,3,3,4,4,4,4,4,4,4,4,5,5,5,5,5,5,5,5,5,5,5,5,5,5,5,5,6,6,6,6,6,6,6,6,6,6,6,6,6,6,6,6,6,6,6,6,6,6,6,6,6,6,6,6,6,6,6,6] [(7:UInt8),7,7,7,7,7,7,7,7,7,7,7,7,7,7,7,7,7,7,7,7,7,7,7,7,7,7,7,7,7,7,7,7,7,7,7,7,7,7,7,7,7,7,7,7,7,7,7,7,7,7,7,7,7,7,7,7,7,7,7,7,7,7,7]) (List.append zj zj)
  let zl:=(↑(List.length zk):Int)
  let zm:=fun (x_2:Int)=>(0:Int)<=IntKind.wrap IntKind.u8 x_2/\IntKind.wrap IntKind.u8 x_2 < zl
  let zn:=fun (x_2:Int)=>(↑(UInt8.toNat (cF zk (Int.toNat (IntKind.wrap IntKind.u8 x_2)))):Int)
  let zo:=fun (x_2:Int)=>aE (zn x_2)
  let zp:=(32:Int) + (8:Int)
  let zq:=aE (0:Int)
  let zr:=(0:Int) + (16:Int)
  let zs:=aE (zr + (8:Int))
  let zt:=(0:Int) + (8:Int)
  let zu:=IntKind.wrap IntKind.u8 x
  let zv:=(↑(UInt8.toNat (cF zk (Int.toNat zu))):Int)
  (((decide (x>=(4294967296:Int)))=true->((0:Int)<=(32:Int))/\(∀x_0:Int,((x_0=Int.fdiv x ((2:Int) ^ min (32:Nat) (IntKind.bits IntKind.u64)))->(((decide (x_0>=(65536:Int)))=true->(za)/\(∀x_1:Int,((x_1=Int.fdiv x_0 zb)->((zc)->((aE (16:Int))->(aE zd)/\(((ze x_1)=true->(zf)/\(∀x_2:Int,((x_2=Int.fdiv x_1 zg)->((aE zd)->((zh)->(zi)/\(zm x_2)/\((zi)->((zo x_2)->(aE (zd + (8:Int) + zn x_2))/\(True))))))))/\((ze x_1)=false->(zm x_1)/\((aE zd)->((zo x_1)->(aE (zd + zn x_1))/\(True))))))))))/\((decide (x_0>=(65536:Int)))=false->(((ze x_0)=true->(zf)/\(∀x_1:Int,((x_1=Int.fdiv x_0 zg)->((zc)->((zh)->(aE zp)/\(zm x_1)/\((aE zp)->((zo x_1)->(aE (zp + zn x_1))/\(True))))))))/\((ze x_0)=false->(zm x_0)/\((zc)->((zo x_0)->(aE ((32:Int) + zn x_0))/\(True))))))))))/\((decide (x>=(4294967296:Int)))=false->(((decide (x>=(65536:Int)))=true->(za)/\(∀x_0:Int,((x_0=Int.fdiv x zb)->((zq)->((aE (16:Int))->(aE zr)/\(((ze x_0)=true->(zf)/\(∀x_1:Int,((x_1=Int.fdiv x_0 zg)->((aE zr)->((zh)->(zs)/\(zm x_1)/\((zs)->((zo x_1)->(aE (zr + (8:Int) + zn x_1))/\(True))))))))/\((ze x_0)=false->(zm x_0)/\((aE zr)->((zo x_0)->(aE (zr + zn x_0))/\(True))))))))))/\((decide (x>=(65536:Int)))=false->(((decide (x>=(256:Int)))=true->(zf)/\(∀x_0:Int,((x_0=Int.fdiv x zg)->((zq)->((zh)->(aE zt)/\(zm x_0)/\((aE zt)->((zo x_0)->(aE (zt + zn x_0))/\(True))))))))/\((decide (x>=(256:Int)))=false->((0:Int)<=zu/\zu < zl)/\((zq)->((aE zv)->(aE ((0:Int) + zv))/\(True)))))))))) (by kernel_rfl) ?_
 dsimp -iota -proj -eta only
 refine iE (fun h0=>⟨?a,fun x_0 q_0=>iE (fun h1=>⟨?b,fun x_1 q_1 h2 h3=>⟨?c,iE (fun h4=>⟨?d,fun x_2 q_2 h5 h6=>⟨?e,?f,fun h7 h8=>⟨?g,trivial⟩⟩⟩) (fun h4=>⟨?h,fun h5 h6=>⟨?i,trivial⟩⟩)⟩⟩) (fun h1=>iE (fun h2=>⟨?j,fun x_1 q_1 h3 h4=>⟨?k,?l,fun h5 h6=>⟨?m,trivial⟩⟩⟩) (fun h2=>⟨?n,fun h3 h4=>⟨?o,trivial⟩⟩))⟩) (fun h0=>iE (fun h1=>⟨?p,fun x_0 q_0 h2 h3=>⟨?q,iE (fun h4=>⟨?r,fun x_1 q_1 h5 h6=>⟨?s,?t,fun h7 h8=>⟨?u,trivial⟩⟩⟩) (fun h4=>⟨?v,fun h5 h6=>⟨?w,trivial⟩⟩)⟩⟩) (fun h1=>iE (fun h2=>⟨?x,fun x_0 q_0 h3 h4=>⟨?y,?z,fun h5 h6=>⟨?a0,trivial⟩⟩⟩) (fun h2=>⟨?a1,fun h3 h4=>⟨(by simp only [aE,aJ] at *;omega),trivial⟩⟩)))
 case a|b|c|d|e|j|k|p|q|r|s|x|y=>trivial
 case f|g|h|i|l|m|n|o|t|u|v|w|z|a0=>omega
 case a1=>
  rw [show IntKind.u8.wrap x=x from py (by simp [IntKind.min,IntKind.max,IntKind.signed,IntKind.bits];omega)]
  show (0:Int)<=x/\x < 256
  omega
theorem Tryz.Sn:bK Tryz.prog Tryz.B.eT Tryz.X 184 [.int .u64] [.int .i64] (fun x=>0<=x/\x<=100) (fun _ _=>True):=
 bM (X:=Tryz.X) (bW Tryz.bX) Tryz.func184 (by kernel_rfl) (fun _=>[]) (fun x hw hp=>Sm x hw hp)
noncomputable def Tryz.Ix:List (FuncId × (Bool × bQ)):=[(184,(true,km [.int .u64] [.int .i64] (fun x=>0<=x/\x<=100) (fun _ _=>True)))]
theorem Tryz.NC:bT Tryz.prog Tryz.B Tryz.X Tryz.Ix:=
 aP (gu Tryz.Sn) (bW Tryz.bX)
theorem UU (x:Int) (hw:eE [.int .u64] x) (hp:(fun x=>0<=x/\x<=100) x):(cM Tryz.B Tryz.Ix Tryz.f140 [] [.int .u64] [.int .i64] (fun _ _=>True) x).holds:=by
 refine holds_of (p:=
  ((0:Int)<=x/\x<=(100:Int))/\(∀x_0:Int,((True)->(True)))) (by kernel_rfl) ?_
 exact ⟨(by trivial),fun x_0 q_0=>trivial⟩
theorem Tryz.UW:bK Tryz.prog Tryz.B.eT Tryz.X 140 [.int .u64] [.int .i64] (fun x=>0<=x/\x<=100) (fun _ _=>True):=
 bM (X:=Tryz.X) Tryz.NC Tryz.func140 (by kernel_rfl) (fun _=>[]) (fun x hw hp=>UU x hw hp)
theorem So (x:List UInt8) (hw:eE [.str] x):(cM Tryz.B [] Tryz.f216 [] [.str] [.bool] (fun x y=>y=(fun _=>false) x) x).holds:=by
 refine holds_of (p:=
  ((!x == x)=false)) (by kernel_rfl) ?_
 exact (by simp_all)
theorem Tryz.Sp:bK Tryz.prog Tryz.B.eT Tryz.X 216 [.str] [.bool] (fun _=>True) (fun x y=>y=(fun _=>false) x):=
 bM (X:=Tryz.X) (bW Tryz.bX) Tryz.func216 (by kernel_rfl) (fun _=>[]) (fun x hw hp=>So x hw)
noncomputable def Tryz.Qb:List (FuncId × (Bool × bQ)):=[(216,(true,aL [.str] [.bool] (fun _=>True) (fun _=>false)))]
theorem Tryz.Sq:bT Tryz.prog Tryz.B Tryz.X Tryz.Qb:=
 aP (aC Tryz.Sp) (bW Tryz.bX)
theorem TJ (x:List UInt8) (y:List UInt8) (hw:eE [.str, .str] (x,y)):(cM Tryz.B Tryz.Qb Tryz.f180 [] [.str, .str] [.bool] (fun x y=>y=(fun x=>Op.bytesLess x.1 x.2) x) (x,y)).holds:=by
 refine holds_of (p:=
  let za:=Op.bytesLess x y
  (True)/\(((false)=true->(True)/\(((!false)=true->(true=za))/\((!false)=false->(za=za))))/\((false)=false->(za=za)))) (by kernel_rfl) ?_
 dsimp -iota -proj -eta only
 exact ⟨trivial,⟨fun h0=>absurd (show false=true from h0) (by decide),fun h0=>rfl⟩⟩
theorem Tryz.TK:bK Tryz.prog Tryz.B.eT Tryz.X 180 [.str, .str] [.bool] (fun _=>True) (fun x y=>y=(fun x=>Op.bytesLess x.1 x.2) x):=
 bM (X:=Tryz.X) Tryz.Sq Tryz.func180 (by kernel_rfl) (fun _=>[]) (fun x hw hp=>TJ x.1 x.2 hw)
noncomputable def Tryz.LA:List (FuncId × (Bool × bQ)):=[(180,(true,aL [.str, .str] [.bool] (fun _=>True) (fun x=>Op.bytesLess x.1 x.2)))]
theorem Tryz.Qc:bT Tryz.prog Tryz.B Tryz.X Tryz.LA:=
 aP (aC Tryz.TK) (bW Tryz.bX)
def Qd (_ _:Int) (xs:List (List UInt8)):cN:=[
 (0,fun st=>{X:=Nat × List (List UInt8),inv:=fun x=>x.1<=xs.length + 1/\x.2.length=xs.length/\List.Perm x.2 xs/\wW x.2 x.1,bA:=fun x=>xs.length + 1 - x.1,aS:=fun x=>[(6,sI x.1)],aK:=fun x=>[(0, .bE .str x.2)],aX:=[0,1,2],eD:=[0]}),
 (2,fun st=>{X:=Nat × List (List UInt8),inv:=fun x=>x.1<=(aZ (.int .i64) st 6).toNat/\x.2.length=xs.length/\List.Perm x.2 xs/\vN x.2 (aZ (.int .i64) st 6).toNat x.1,bA:=fun x=>x.1,aS:=fun x=>[(7,sI x.1)],aK:=fun x=>[(0, .bE .str x.2)],aX:=[0,1,2,6,10,11,12,15],eD:=[0]})]
def C7:List (Alt [.row true .str] [.obj 0, .d (.int .i64), .d (.int .i64)]):=[{cG:=[.row true .str],res:=[],out:=fun _ x=>(lk x.1,()),ret:=fun _ _=>()}]
theorem ND (a:Int) (b:Int) (xs:List (List UInt8)) (hw:kn [.obj 0, .d (.int .i64), .d (.int .i64)] (a,b,())) (hp:(fun a x=>a.1=0/\a.2.1=x.1.length/\x.1.length<=12) (a,b,()) (xs,())):(fD Tryz.B Tryz.LA Tryz.f174 (Qd a b xs) [.row true .str] [.obj 0, .d (.int .i64), .d (.int .i64)] C7 (a,b,()) (xs,())).holds:=by
 refine holds_of (p:=
  let za:=aE (1:Int)
  let zb:=Nat × List (List UInt8)
  let zc:=List.length xs
  let zd:=zc + (1:Nat)
  let ze:=fun (x_0:Nat × List (List UInt8))=>(↑x_0.1:Int)
  let zf:=fun (x_1:Nat × List (List UInt8))=>(0:Int)<=ze x_1/\ze x_1 < (↑(List.length x_1.2):Int)
  let zg:=fun (x_1:Nat × List (List UInt8))=>x_1.1 < List.length x_1.2
  let zh:=fun (x_1:Nat × List (List UInt8))=>ze x_1 - (1:Int)
  let zi:=fun (x_1:Nat × List (List UInt8))=>(0:Int)<=zh x_1/\zh x_1 < (↑(List.length x_1.2):Int)
  let zj:=fun (x_1:Nat × List (List UInt8))=>Int.toNat (zh x_1) < List.length x_1.2
  let zk:=fun (x_1:Nat × List (List UInt8))=>List.set x_1.2 x_1.1 (nth Ty.str x_1.2 (Int.toNat (zh x_1)))
  let zl:=fun (x_0:Nat × List (List UInt8)) (x_1:Nat × List (List UInt8))=>((aE (ze x_0))->((za)->(aE (ze x_0 + (1:Int)))/\(∃(x':zb),(Prod.fst x'<=zd/\List.length (Prod.snd x')=zc/\List.Perm (Prod.snd x') xs/\wW (Prod.snd x') (Prod.fst x'))/\zd - Prod.fst x' < zd - x_0.1/\(ze x_0 + (1:Int)=(↑(Prod.fst x'):Int)/\True)/\x_1.2=Prod.snd x'/\True)))
  ((aE a)->((za)->(aE (a + (1:Int)))/\(∃(x:zb),(Prod.fst x<=zd/\List.length (Prod.snd x)=zc/\List.Perm (Prod.snd x) xs/\wW (Prod.snd x) (Prod.fst x))/\(a + (1:Int)=(↑(Prod.fst x):Int)/\True)/\xs=Prod.snd x/\True)/\(∀x_0:Nat × List (List UInt8),((x_0.1<=zd/\List.length x_0.2=zc/\List.Perm x_0.2 xs/\wW x_0.2 x_0.1)->(((decide (ze x_0 < b))=true->(∃(x:zb),(Prod.fst x<=x_0.1/\List.length (Prod.snd x)=zc/\List.Perm (Prod.snd x) xs/\vN (Prod.snd x) x_0.1 (Prod.fst x))/\(ze x_0=(↑(Prod.fst x):Int)/\True)/\x_0.2=Prod.snd x/\True)/\(∀x_1:Nat × List (List UInt8),((x_1.1<=x_0.1/\List.length x_1.2=zc/\List.Perm x_1.2 xs/\vN x_1.2 x_0.1 x_1.1)->(((decide (ze x_1 > a))=true->(zf x_1)/\(zg x_1)/\((aE (ze x_1))->((za)->(aE (zh x_1))/\(zi x_1)/\(zj x_1)/\(True)/\(((Op.bytesLess (nth Ty.str x_1.2 x_1.1) (nth Ty.str x_1.2 (Int.toNat (zh x_1))))=true->((aE (ze x_1))->((za)->(aE (zh x_1))/\((aE (ze x_1))->((za)->(aE (zh x_1))/\(zi x_1)/\(zj x_1)/\(zf x_1)/\(zg x_1)/\(zf x_1)/\(zg x_1)/\((0:Int)<=zh x_1/\zh x_1 < (↑(List.length (zk x_1)):Int))/\(Int.toNat (zh x_1) < List.length (zk x_1))/\((aE (ze x_1))->((za)->(aE (zh x_1))/\(∃(x':zb),(Prod.fst x'<=x_0.1/\List.length (Prod.snd x')=zc/\List.Perm (Prod.snd x') xs/\vN (Prod.snd x') x_0.1 (Prod.fst x'))/\Prod.fst x' < x_1.1/\(zh x_1=(↑(Prod.fst x'):Int)/\True)/\List.set (zk x_1) (Int.toNat (zh x_1)) (nth Ty.str x_1.2 x_1.1)=Prod.snd x'/\True))))))))/\((Op.bytesLess (nth Ty.str x_1.2 x_1.1) (nth Ty.str x_1.2 (Int.toNat (zh x_1))))=false->(zl x_0 x_1))))))/\((decide (ze x_1 > a))=false->(zl x_0 x_1))))))/\((decide (ze x_0 < b))=false->(True/\(x_0.2,())=(lk xs,())/\()=())))))))) (by kernel_rfl) ?_
 dsimp -iota -proj -eta only
 dsimp only at hp
 refine fun h0 h1=>⟨?a,(⟨(1,xs),⟨by omega,rfl, .refl _,fun a b h1 h2=>by omega⟩,⟨by omega,trivial⟩,rfl,trivial⟩),fun x_0 q_0=>iL (fun h2=>⟨(⟨(x_0.1,x_0.2),⟨by omega,q_0.2.1,q_0.2.2.1,vN.start q_0.2.2.2⟩,⟨rfl,trivial⟩,rfl,trivial⟩),fun x_1 q_1=>iL (fun h3=>⟨?b,?c,fun h4 h5=>⟨?d,?e,?f,trivial,⟨fun h6 h7 h8=>⟨?g,fun h9 h10=>⟨?h,?i,?j,?k,?l,?m,?n,?o,?p,fun h11 h12=>⟨?q,?r⟩⟩⟩,fun h6 h7 h8=>⟨?s,?t⟩⟩⟩⟩) (fun h3 h4 h5=>⟨?u,(by exact ⟨(x_0.1 + 1,x_1.2),⟨by simp only;omega,q_1.2.1,q_1.2.2.1,q_1.2.2.2.done (.inl (by omega)) (by omega)⟩,by simp only;omega,⟨by simp only;omega,trivial⟩,rfl,(by trivial)⟩)⟩)⟩) (fun h2=>⟨trivial,by rw [OP q_0.2.2.1 (fun a b h1 h2=>q_0.2.2.2 a b h1 (by omega))],rfl⟩)⟩
 case a|d|g|h|q|s|u=>simp only [aE,aJ] at *;omega
 case b|c|e|f|i|j|k|l|m|n=>omega
 case o|p=>rw [List.length_set];omega
 case r=>
  have e:((x_1.1:Int) - 1).toNat=x_1.1 - 1:=(by omega)
  rw [e]
  exact ⟨(x_1.1 - 1,ss x_1.2 x_1.1),⟨by simp only;omega,by rw [G3];exact q_1.2.1,(Mv (by omega) (by omega)).trans q_1.2.2.1,q_1.2.2.2.swap (by omega) (by omega) (by omega) (by unfold nA;rw [<-e];exact h6)⟩,by simp only;omega,⟨by simp only;omega,trivial⟩,rfl,(by trivial)⟩
 case t=>
  have e:((x_1.1:Int) - 1).toNat=x_1.1 - 1:=(by omega)
  rw [e] at h6
  exact ⟨(x_0.1 + 1,x_1.2),⟨by simp only;omega,q_1.2.1,q_1.2.2.1,q_1.2.2.2.done (.inr (by unfold nA;rw [h6];simp)) (by omega)⟩,by simp only;omega,⟨by simp only;omega,trivial⟩,rfl,(by trivial)⟩
theorem Tryz.NF:dK Tryz.prog Tryz.B.eT Tryz.X 174 false (bF [.row true .str] [.obj 0, .d (.int .i64), .d (.int .i64)] (fun a x=>a.1=0/\a.2.1=x.1.length/\x.1.length<=12) C7):=
 cH (X:=Tryz.X) Tryz.Qc Tryz.func174 (by kernel_rfl) (fun (a:CD [.obj 0, .d (.int .i64), .d (.int .i64)]) (x:PD [.row true .str])=>Qd a.1 a.2.1 x.1) (fun (a:CD [.obj 0, .d (.int .i64), .d (.int .i64)]) (x:PD [.row true .str]) hw hp=>ND a.1 a.2.1 x.1 hw hp)
noncomputable def Tryz.Qe:List (FuncId × (Bool × bQ)):=[(174,(false,bF [.row true .str] [.obj 0, .d (.int .i64), .d (.int .i64)] (fun a x=>a.1=0/\a.2.1=x.1.length/\x.1.length<=12) C7))]
theorem Tryz.Sr:bT Tryz.prog Tryz.B Tryz.X Tryz.Qe:=
 aP (Tryz.NF) (bW Tryz.bX)
def Qf (a b _:Int) (_:List (List UInt8)):cN:=[(0,fun st=>{X:=Unit,inv:=fun _=>True,bA:=fun _=>0,aS:=fun _=>[(1,sI a),(2,sI b)],aX:=[0]})]
def C8:List (Alt [.row true .str] [.obj 0, .d (.int .i64), .d (.int .i64), .d (.int .i64)]):=[{cG:=[.row true .str],res:=[],out:=fun _ x=>(lk x.1,()),ret:=fun _ _=>()}]
theorem UX (a:Int) (b:Int) (c:Int) (xs:List (List UInt8)) (hw:kn [.obj 0, .d (.int .i64), .d (.int .i64), .d (.int .i64)] (a,b,c,())) (hp:(fun a x=>a.1=0/\a.2.1=x.1.length/\x.1.length<=12) (a,b,c,()) (xs,())):(fD Tryz.B Tryz.Qe Tryz.f139 (Qf a b c xs) [.row true .str] [.obj 0, .d (.int .i64), .d (.int .i64), .d (.int .i64)] C8 (a,b,c,()) (xs,())).holds:=by
 refine holds_of (p:=
  let za:=(lk xs,())
  (∃(x:Unit),True/\(a=a/\b=b/\True)/\True)/\(∀x_0:Unit,((True)->((aE b)->((aE a)->(aE (b - a))/\(((decide (b - a<=(12:Int)))=true->(a=(0:Int)/\b=(↑(List.length xs):Int)/\List.length xs<=(12:Nat))/\((True)->(True/\za=za/\()=())))/\((decide (b - a<=(12:Int)))=false->(False)))))))) (by kernel_rfl) ?_
 dsimp -iota -proj -eta only
 dsimp only at hp
 refine ⟨(by simp_all),fun x_0 q_0 h0 h1=>⟨(by simp only [aE,aJ] at *;omega),iE (fun h2=>⟨?a,fun h3 => ?b⟩) (fun h2=>(by omega))⟩⟩
 case a|b=>trivial
theorem Tryz.UY:dK Tryz.prog Tryz.B.eT Tryz.X 139 false (bF [.row true .str] [.obj 0, .d (.int .i64), .d (.int .i64), .d (.int .i64)] (fun a x=>a.1=0/\a.2.1=x.1.length/\x.1.length<=12) C8):=
 cH (X:=Tryz.X) Tryz.Sr Tryz.func139 (by kernel_rfl) (fun (a:CD [.obj 0, .d (.int .i64), .d (.int .i64), .d (.int .i64)]) (x:PD [.row true .str])=>Qf a.1 a.2.1 a.2.2.1 x.1) (fun (a:CD [.obj 0, .d (.int .i64), .d (.int .i64), .d (.int .i64)]) (x:PD [.row true .str]) hw hp=>UX a.1 a.2.1 a.2.2.1 x.1 hw hp)
noncomputable def Tryz.Qg:List (FuncId × (Bool × bQ)):=[(139,(false,bF [.row true .str] [.obj 0, .d (.int .i64), .d (.int .i64), .d (.int .i64)] (fun a x=>a.1=0/\a.2.1=x.1.length/\x.1.length<=12) C8)),
 (140,(true,km [.int .u64] [.int .i64] (fun x=>0<=x/\x<=100) (fun _ _=>True)))]
theorem Tryz.Ss:bT Tryz.prog Tryz.B Tryz.X Tryz.Qg:=
 aP (Tryz.UY) (aP (gu Tryz.UW) (bW Tryz.bX))
def sortAlts:List (Alt [.row true .str] [.obj 0]):=[{cG:=[.row true .str],res:=[],out:=fun _ x=>(lk x.1,()),ret:=fun _ _=>()}]
theorem TL (xs:List (List UInt8)) (hw:kn [.obj 0] ()) (hp:(fun _ x=>x.1.length<=12) () (xs,())):(fD Tryz.B Tryz.Qg Tryz.f107 [] [.row true .str] [.obj 0] sortAlts () (xs,())).holds:=by
 refine holds_of (p:=
  let za:=List.length xs
  let zb:=(↑za:Int)
  let zc:=(lk xs,())
  ((za<=aJ)->((0:Int)<=IntKind.wrap IntKind.u64 zb/\IntKind.wrap IntKind.u64 zb<=(100:Int))/\(∀x_0:Int,((True)->((0:Int)=(0:Int)/\zb=zb/\za<=(12:Nat))/\((True)->(True/\zc=zc/\()=())))))) (by kernel_rfl) ?_
 dsimp -iota -proj -eta only
 dsimp only at hp
 refine fun h0=>⟨(by rw [CU (by omega) (by omega)];omega),fun x_0 q_0=>⟨?a,fun h1 => ?b⟩⟩
 case a|b=>trivial
theorem Tryz.TM:dK Tryz.prog Tryz.B.eT Tryz.X 107 false (bF [.row true .str] [.obj 0] (fun _ x=>x.1.length<=12) sortAlts):=
 cH (X:=Tryz.X) Tryz.Ss Tryz.func107 (by kernel_rfl) (fun (a:CD [.obj 0]) (x:PD [.row true .str])=>[]) (fun (a:CD [.obj 0]) (x:PD [.row true .str]) hw hp=>TL x.1 hw hp)
end Go.Proofs.YtgokjhhcfemnhabGreatDoor

namespace Go.Proofs.YtgokjhhcfemnhabGreatDoor
open Go.Vg Go.Mrl
@[reducible] def Tryz.aY:List Ob:=[.box 107 [.obj 1, .d (.int .i64)], .ext 1 (jD eQ)]
noncomputable def Tryz.AA:List (FuncId × (Bool × bQ)):=[(49,(true,aL [.str] [.err] (fun _=>True) (fun s=>aT (aG s)))),
 (50,(true,aL [.str] [.int .i64] (fun _=>True) (fun s=>aG s))),
 (156,(true,aL [.str] [.int .u32] (fun _=>True) (fun s=>(dD s:Int)))),
 (83,(true,aL [.str] [.int .i64] (fun _=>True) (fun s=>(dD s:Int)))),
 (11,(true,aL [.err, .int .i64] [.bool] (fun _=>True) (fun x=>cT x.1 x.2))),
 (107,(false,bF [.row true .str] [.obj 0] (fun _ x=>x.1.length<=12) sortAlts))]
theorem Tryz.Cp:bT Tryz.prog Tryz.B Tryz.X Tryz.AA:=
 aP (aC Tryz.iR) (aP (aC Tryz.eY) (aP (aC Tryz.jC) (aP (aC Tryz.iS) (aP (aC Tryz.jl) (aP (Tryz.TM) (bW Tryz.bX))))))
def Tryz.C9:List (Alt [] []):=[{cG:=Tryz.aY,res:=[.obj 0],out:=fun _ _=>By,ret:=fun _ _=>()}]
theorem TN  (hw:kn [] ()):(fD Tryz.B [] Tryz.f9 [] [] [] Tryz.C9 () ()).holds:=by
 refine holds_of (p:=
  (True/\(((0:Int),()),([],(0:Int),()),())=By/\()=())) (by kernel_rfl) ?_
 exact ⟨trivial,rfl,rfl⟩
theorem Tryz.TO:dK Tryz.prog Tryz.B.eT Tryz.X 9 false (bF [] [] (fun _ _=>True) Tryz.C9):=
 cH (X:=Tryz.X) (bW Tryz.bX) Tryz.func9 (by kernel_rfl) (fun (a:CD []) (x:PD [])=>[]) (fun (a:CD []) (x:PD []) hw hp=>TN  hw)
def Tryz.mW:List (Alt Tryz.aY [.obj 0, .d .str]):=[{cG:=Tryz.aY,res:=[.d .str, .d (.int .i64), .d .err],out:=fun _ x=>x,ret:=fun a x=>((bH x a.1).1,(bH x a.1).2.1,aT (bH x a.1).2.2,())}]
theorem Su (s:List UInt8) (f:ja) (hw:kn [.obj 0, .d .str] (s,())):(fD Tryz.B [] Tryz.f70 [] Tryz.aY [.obj 0, .d .str] Tryz.mW (s,()) f).holds:=by
 refine holds_of (p:=
  let za:=Ty.prod Ty.str (Ty.prod (Ty.int IntKind.i64) Ty.unit)
  let zb:=(bH f s).2
  let zc:=((bH f s).1,zb.1,aT zb.2,())
  let zd:=oX za f.2.1.1 s
  (((!fU za f.2.1.1 s)=true->(True/\f=f/\([],(0:Int),bC.no (5:Int),())=zc))/\((!fU za f.2.1.1 s)=false->(True/\f=f/\(zd.1,zd.2.1,bC.nil,())=zc)))) (by kernel_rfl) ?_
 dsimp -iota -proj -eta only
 exact iB (fun h0=>(by exact ⟨trivial,rfl,by rw [su h0];rfl⟩)) (fun h0=>(by exact ⟨trivial,rfl,by rw [uR h0];rfl⟩))
theorem Tryz.rQ:dK Tryz.prog Tryz.B.eT Tryz.X 70 false (bF Tryz.aY [.obj 0, .d .str] (fun _ _=>True) Tryz.mW):=
 cH (X:=Tryz.X) (bW Tryz.bX) Tryz.func70 (by kernel_rfl) (fun (a:CD [.obj 0, .d .str]) (x:PD Tryz.aY)=>[]) (fun (a:CD [.obj 0, .d .str]) (x:PD Tryz.aY) hw hp=>Su a.1 x hw)
def Tryz.qU:List (Alt Tryz.aY [.obj 0, .d .str, .d .str]):=[{cG:=Tryz.aY,res:=[.d .err],out:=fun a x=>(gJ x a.1 a.2.1).1,ret:=fun a x=>(aT (gJ x a.1 a.2.1).2,())}]
theorem Qh (s:List UInt8) (t:List UInt8) (f:ja) (hw:kn [.obj 0, .d .str, .d .str] (s,t,())) (hp:(fun _ x=>x.2.1.1.length<=6/\0<=x.1.1/\x.1.1<=1000000) (s,t,()) f):(fD Tryz.B Tryz.AA Tryz.f12 [] Tryz.aY [.obj 0, .d .str, .d .str] Tryz.qU (s,t,()) f).holds:=by
 refine holds_of (p:=
  let za:=aT (aG s)
  let zb:=gJ f s t
  let zc:=f=zb.1
  let zd:=(aT zb.2,())
  let ze:=Ty.prod Ty.str (Ty.prod (Ty.int IntKind.i64) Ty.unit)
  let zf:=f.2.1.1
  let zg:=True/\zc/\(bC.no (8:Int),())=zd
  let zh:=f.1.1 + (1:Int)
  let zi:=(((f.1.1 == (1000000:Int))=true->(zg))/\((f.1.1 == (1000000:Int))=false->((aE f.1.1)->((aE (1:Int))->(aE zh)/\(List.length zf < aJ)/\(True/\((zh,()),(jh ze zf s (t,zh,()) f.2.1.2.1,pA ze zf s f.2.1.2.1,()),())=zb.1/\(bC.nil,())=zd)))))
  (True)/\(((!bC.isNil za)=true->(True/\zc/\(za,())=zd))/\((!bC.isNil za)=false->((List.length t<=aJ)->(((decide ((↑(List.length t):Int) > (1200:Int)))=true->(True/\zc/\(bC.no (2:Int),())=zd))/\((decide ((↑(List.length t):Int) > (1200:Int)))=false->(((!fU ze zf s)=true->((((↑(List.length zf):Int) == (6:Int))=true->(zg))/\(((↑(List.length zf):Int) == (6:Int))=false->(zi))))/\((!fU ze zf s)=false->(zi))))))))) (by kernel_rfl) ?_
 dsimp -iota -proj -eta only
 refine ⟨trivial,iB (fun h0 => ?a) (fun h0 h1=>iL (fun h2=>(by rw [wZ (bJ.1 (by assumption)) (by omega)];exact ⟨trivial,rfl,rfl⟩)) (fun h2=>iB (fun h3=>iQ (fun h4 => ?b) (fun h4=>iQ (fun h5 => ?c) (fun h5 h6 h7=>⟨?d,?e,?f⟩))) (fun h3=>iQ (fun h4 => ?g) (fun h4 h5 h6=>⟨?h,?i,?j⟩))))⟩
 case a=>
  have hn:¬ aG s=0:=(fun e=>by rw [bJ.2 e] at h0;cases h0)
  rw [wY hn];exact ⟨trivial,rfl,rfl⟩
 case b|c|g=>rw [w4 (bJ.1 (by assumption)) (by omega) (by first | exact .inr (by omega) | exact .inl ⟨by assumption,by omega⟩)];exact ⟨trivial,rfl,rfl⟩
 case d|e|h|i=>simp only [aE,aJ] at *;omega
 case f|j=>rw [Bz (bJ.1 (by assumption)) (by omega) (by rintro (⟨e1,e2⟩ | e);(first | omega | exact Bool.noConfusion (e1.symm.trans (show fU eQ f.2.1.1 s=true by assumption)));omega)];exact ⟨trivial,rfl,rfl⟩
theorem Tryz.E1:dK Tryz.prog Tryz.B.eT Tryz.X 12 false (bF Tryz.aY [.obj 0, .d .str, .d .str] (fun _ x=>x.2.1.1.length<=6/\0<=x.1.1/\x.1.1<=1000000) Tryz.qU):=
 cH (X:=Tryz.X) Tryz.Cp Tryz.func12 (by kernel_rfl) (fun (a:CD [.obj 0, .d .str, .d .str]) (x:PD Tryz.aY)=>[]) (fun (a:CD [.obj 0, .d .str, .d .str]) (x:PD Tryz.aY) hw hp=>Qh a.1 a.2.1 x hw hp)
def Tryz.p9:List (Alt Tryz.aY [.obj 0, .d .str]):=[{cG:=Tryz.aY,res:=[.d .err],out:=fun a x=>(fR x a.1).1,ret:=fun a x=>(aT (fR x a.1).2,())}]
theorem NG (s:List UInt8) (f:ja) (hw:kn [.obj 0, .d .str] (s,())):(fD Tryz.B [] Tryz.f14 [] Tryz.aY [.obj 0, .d .str] Tryz.p9 (s,()) f).holds:=by
 refine holds_of (p:=
  let za:=Ty.prod Ty.str (Ty.prod (Ty.int IntKind.i64) Ty.unit)
  let zb:=fR f s
  let zc:=(aT zb.2,())
  (((!fU za f.2.1.1 s)=true->(True/\f=zb.1/\(bC.no (5:Int),())=zc))/\((!fU za f.2.1.1 s)=false->(True/\(f.1,(jG za f.2.1.1 s,f.2.1.2),())=zb.1/\(bC.nil,())=zc)))) (by kernel_rfl) ?_
 dsimp -iota -proj -eta only
 exact iB (fun h0=>(by rw [yO h0];exact ⟨trivial,rfl,rfl⟩)) (fun h0=>(by rw [w5 h0];exact ⟨trivial,rfl,rfl⟩))
theorem Tryz.Cq:dK Tryz.prog Tryz.B.eT Tryz.X 14 false (bF Tryz.aY [.obj 0, .d .str] (fun _ _=>True) Tryz.p9):=
 cH (X:=Tryz.X) (bW Tryz.bX) Tryz.func14 (by kernel_rfl) (fun (a:CD [.obj 0, .d .str]) (x:PD Tryz.aY)=>[]) (fun (a:CD [.obj 0, .d .str]) (x:PD Tryz.aY) hw hp=>NG a.1 x hw)
def Tryz.Iy (f:ja):cN:=[(200000,fun st=>{X:=List FE,inv:=fun x=>pY f.2.1.1 x,bA:=fun x=>(jq eQ f.2.1.1 (x.map cX)).length,aS:=fun x=>[],aX:=[2,9],aU:=[.row false .str],refs:=[(3,0)],pd:=fun x=>(x.map kz,()),aK:=fun x=>[(aQ st 9,Ul st (aQ st 9) (x.map cX))],eD:=[aQ st 9]})]
def Tryz.xQ:List (Alt Tryz.aY [.obj 0]):=[{cG:=Tryz.aY++[.row false .str],res:=[.obj 2],out:=fun _ x=>(x.1,x.2.1,pa x,()),ret:=fun _ _=>()}]
theorem Sv (f:ja) (hw:kn [.obj 0] ()) (hp:(fun _ x=>x.2.1.1.length<=6/\(x.2.1.1.map cX).Nodup) () f):(fD (jV Tryz.B [3,17]) Tryz.AA Tryz.f71 (Tryz.Iy f) Tryz.aY [.obj 0] Tryz.xQ () f).holds:=by
 refine holds_of (p:=
  let za:=f.2.1.1
  let zb:=C.eZ (1:Nat)=C.eZ (1:Nat)
  let zc:=f.2.1
  let zd:=zc.2.1=zc.2.1
  let ze:=@List.nil (List UInt8) = @List.nil (List UInt8)/\(zb/\f.1.1=f.1.1/\True)/\zc=zc/\True
  let zf:=!false
  let zg:=(zf && (zf && (zf && (zf && true))))=true
  let zh:=fun (x_0:List FE)=>jq eQ zc.1 (List.map cX x_0)
  let zi:=fun (x_0:List FE) (x_1:List UInt8 × (List UInt8 × Int × Unit) × Int × Unit)=>List.map cX x_0++[x_1.2.2.1]
  let zj:=fun (x_0:List FE) (x_1:List UInt8 × (List UInt8 × Int × Unit) × Int × Unit)=>List.length [(vH eQ zc.1 (oY (zi x_0 x_1))).1]
  (((∃(x':List FE),pY za x'/\True/\True/\(((zb/\True)/\@List.nil Int=List.map cX x'/\zd)/\ze)/\zg/\([],())=(List.map kz x',())))/\((∀x_0:List FE,((pY za x_0)->(zd)/\((((zh x_0 = @List.nil (List UInt8 × (List UInt8 × Int × Unit) × Int × Unit))->(List.length (List.map kz x_0)<=(12:Nat))/\((True)->(True/\(f.1,zc,lk (List.map kz x_0),())=(f.1,zc,pa f,())/\()=()))))/\((∀x_1:List UInt8 × (List UInt8 × Int × Unit) × Int × Unit,((x_1∈zh x_0)->(zd)/\(zi x_0 x_1≠@List.nil Int)/\(qD eQ zc.1 (oY (zi x_0 x_1))=true)/\((0:Nat) < zj x_0 x_1/\List.length (List.map kz x_0) + zj x_0 x_1<=(1000000000:Nat))/\(∃(x':List FE),pY za x'/\List.length (jq eQ za (List.map cX x')) < List.length (jq eQ za (List.map cX x_0))/\True/\(((zb/\True)/\zi x_0 x_1=List.map cX x'/\zd)/\ze)/\zg/\(List.map kz x_0++[(vH eQ zc.1 (oY (zi x_0 x_1))).1],())=(List.map kz x',()))))))))))) (by kernel_rfl) ?_
 dsimp -iota -proj -eta only
 exact ⟨(⟨[],⟨by simp,by simp⟩,trivial,trivial,⟨⟨⟨rfl,trivial⟩,rfl,rfl⟩,rfl,⟨rfl,rfl,trivial⟩,rfl,trivial⟩,rfl,rfl⟩),fun x_0 q_0=>⟨rfl,⟨fun h0=>⟨(by have:=G4 q_0.sub q_0.nodup;rw [List.length_map];omega),fun h1=>(by exact ⟨trivial,by rw [G5 q_0 hp.2 (by assumption)];rfl,rfl⟩)⟩,fun x_1 q_1=>⟨rfl,(by simp_all),(by rw [BA];exact (at_mem hp.2 (List.mem_filter.1 q_1).1).2),(by have:=G4 q_0.sub q_0.nodup;simp only [List.length_map,List.length_singleton];omega),(by exact ⟨x_0++[x_1],q_0.more q_1,by rw [List.map_append];exact OQ q_1,trivial,⟨⟨⟨rfl,trivial⟩,by rw [List.map_append];rfl,rfl⟩,rfl,⟨rfl,rfl,trivial⟩,rfl,trivial⟩,rfl,by rw [BA,List.map_append,show vH eQ f.2.1.1 x_1.2.2.1=x_1 from (at_mem hp.2 (List.mem_filter.1 q_1).1).1];rfl⟩)⟩⟩⟩⟩
theorem Tryz.Sw:dK Tryz.prog Tryz.B.eT Tryz.X 71 false (bF Tryz.aY [.obj 0] (fun _ x=>x.2.1.1.length<=6/\(x.2.1.1.map cX).Nodup) Tryz.xQ):=
 cH (B:=(jV Tryz.B [3,17])) (X:=Tryz.X) (bT.hint (l:=[3,17]) Tryz.Cp) Tryz.func71 (by kernel_rfl) (fun (a:CD [.obj 0]) (x:PD Tryz.aY)=>Tryz.Iy x) (fun (a:CD [.obj 0]) (x:PD Tryz.aY) hw hp=>Sv x hw hp)
end Go.Proofs.YtgokjhhcfemnhabGreatDoor

namespace Go.Proofs.YtgokjhhcfemnhabGreatDoor
open Go.Shelf
def Tryz.Kf:Go.Shelf.Ren:=⟨fun | 103=>145 | 210=>190 | 206=>219 | n=>n,fun | 9=>9 | 4=>4 | 24=>208 | 3=>3 | n=>n,fun | n=>n⟩
theorem Tryz.TP:Go.Proofs.Lays.n103 Tryz.prog Tryz.Kf:={
 mixed:=by kernel_rfl
 f103:=Tryz.func145.trans (congrArg some (by kernel_rfl))
 f206:=Tryz.func219.trans (congrArg some (by kernel_rfl))
 f210:=Tryz.func190.trans (congrArg some (by kernel_rfl))
 t3:=Tryz.underlying3
 a3:=Tryz.isAgg3
 z3:=Tryz.sizeOf3
 v3:=Tryz.zeroValue3
 t4:=Tryz.underlying4
 a4:=Tryz.isAgg4
 z4:=Tryz.sizeOf4
 v4:=Tryz.zeroValue4
 t9:=Tryz.underlying9
 a9:=Tryz.isAgg9
 z9:=Tryz.sizeOf9
 v9:=Tryz.zeroValue9
 t24:=Tryz.underlying208
 a24:=Tryz.isAgg208
 z24:=Tryz.sizeOf208
 v24:=Tryz.zeroValue208}
open Go.RowKit in
theorem Tryz.strings_CutPrefix (s p:ByteArray) (w:World) :
  Calls Tryz.prog 145 #[.string s, .string p] w fun e w'=>e = .returned (.tuple #[.string ⟨(Lib.trimPrefix s.data.toList p.data.toList).toArray⟩, .bool (Lib.hasPrefix s.data.toList p.data.toList)])/\w'=w:=Any.strings_CutPrefix Tryz.TP s p w
def Tryz.Iz:Go.Shelf.Ren:=⟨fun | 171=>61 | 243=>103 | 246=>132 | 283=>161 | 284=>162 | 285=>163 | 286=>164 | 129=>184 | 317=>199 | 318=>200 | 319=>201 | 320=>202 | 337=>224 | 338=>225 | n=>n,fun | 3=>3 | 9=>9 | 2=>2 | 4=>4 | 171=>255 | 0=>0 | 53=>44 | 37=>181 | 5=>5 | 173=>258 | 212=>286 | 51=>248 | 20=>20 | 213=>287 | 46=>212 | 232=>316 | 233=>317 | n=>n,fun | 17=>0 | 18=>6 | 19=>7 | n=>n⟩
theorem Tryz.Sx:Go.Proofs.LaysM.n171 Tryz.prog Tryz.Iz:={
 mixed:=by kernel_rfl
 f129:=Tryz.func184.trans (congrArg some (by kernel_rfl))
 f171:=Tryz.func61.trans (congrArg some (by kernel_rfl))
 f243:=Tryz.func103.trans (congrArg some (by kernel_rfl))
 f246:=Tryz.func132.trans (congrArg some (by kernel_rfl))
 f283:=Tryz.func161.trans (congrArg some (by kernel_rfl))
 f284:=Tryz.func162.trans (congrArg some (by kernel_rfl))
 f285:=Tryz.func163.trans (congrArg some (by kernel_rfl))
 f286:=Tryz.func164.trans (congrArg some (by kernel_rfl))
 f317:=Tryz.func199.trans (congrArg some (by kernel_rfl))
 f318:=Tryz.func200.trans (congrArg some (by kernel_rfl))
 f319:=Tryz.func201.trans (congrArg some (by kernel_rfl))
 f320:=Tryz.func202.trans (congrArg some (by kernel_rfl))
 f337:=Tryz.func224.trans (congrArg some (by kernel_rfl))
 f338:=Tryz.func225.trans (congrArg some (by kernel_rfl))
 t0:=Tryz.underlying0
 a0:=Tryz.isAgg0
 z0:=Tryz.sizeOf0
 v0:=Tryz.zeroValue0
 t2:=Tryz.underlying2
 a2:=Tryz.isAgg2
 z2:=Tryz.sizeOf2
 v2:=Tryz.zeroValue2
 t3:=Tryz.underlying3
 a3:=Tryz.isAgg3
 z3:=Tryz.sizeOf3
 v3:=Tryz.zeroValue3
 t4:=Tryz.underlying4
 a4:=Tryz.isAgg4
 z4:=Tryz.sizeOf4
 v4:=Tryz.zeroValue4
 t5:=Tryz.underlying5
 a5:=Tryz.isAgg5
 z5:=Tryz.sizeOf5
 v5:=Tryz.zeroValue5
 t9:=Tryz.underlying9
 a9:=Tryz.isAgg9
 z9:=Tryz.sizeOf9
 v9:=Tryz.zeroValue9
 t20:=Tryz.underlying20
 a20:=Tryz.isAgg20
 z20:=Tryz.sizeOf20
 v20:=Tryz.zeroValue20
 t37:=Tryz.underlying181
 a37:=Tryz.isAgg181
 z37:=Tryz.sizeOf181
 v37:=Tryz.zeroValue181
 t46:=Tryz.underlying212
 a46:=Tryz.isAgg212
 z46:=Tryz.sizeOf212
 v46:=Tryz.zeroValue212
 t51:=Tryz.underlying248
 a51:=Tryz.isAgg248
 z51:=Tryz.sizeOf248
 v51:=Tryz.zeroValue248
 t53:=Tryz.underlying44
 a53:=Tryz.isAgg44
 z53:=Tryz.sizeOf44
 v53:=Tryz.zeroValue44
 t171:=Tryz.underlying255
 a171:=Tryz.isAgg255
 z171:=Tryz.sizeOf255
 v171:=Tryz.zeroValue255
 t173:=Tryz.underlying258
 a173:=Tryz.isAgg258
 z173:=Tryz.sizeOf258
 v173:=Tryz.zeroValue258
 t212:=Tryz.underlying286
 a212:=Tryz.isAgg286
 z212:=Tryz.sizeOf286
 v212:=Tryz.zeroValue286
 t213:=Tryz.underlying287
 a213:=Tryz.isAgg287
 z213:=Tryz.sizeOf287
 t232:=Tryz.underlying316
 a232:=Tryz.isAgg316
 z232:=Tryz.sizeOf316
 v232:=Tryz.zeroValue316
 t233:=Tryz.underlying317
 a233:=Tryz.isAgg317
 z233:=Tryz.sizeOf317
 v233:=Tryz.zeroValue317
 g17:=by kernel_rfl
 g18:=by kernel_rfl
 g19:=by kernel_rfl
 i0:=by kernel_rfl
 i2:=by kernel_rfl
 i3:=by kernel_rfl
 i4:=by kernel_rfl
 i5:=by kernel_rfl
 i9:=by kernel_rfl
 i20:=by kernel_rfl
 i37:=by kernel_rfl
 i46:=by kernel_rfl
 i51:=by kernel_rfl
 i53:=by kernel_rfl
 i171:=by kernel_rfl
 i173:=by kernel_rfl
 i212:=by kernel_rfl
 i232:=by kernel_rfl
 i233:=by kernel_rfl
 m17:=by kernel_rfl
 m18:=by kernel_rfl
 m19:=by kernel_rfl}
open Go.RowKit Go.Sort Go.Lib in
theorem Tryz.strconv_Itoa (n:Int) (h0 : -9223372036854775808<=n) (h1:n<=9223372036854775807) (w:World) (htab:Lib.TabIs Tryz.prog w "internal/strconv.uint64pow10" .u64 Lib.pow10Tab) :
  Calls Tryz.prog 61 #[.int .i64 n] w fun e w'=>e = .returned (.string ⟨(Lib.itoa n).toArray⟩)/\∃k os,w'=grow (w.drewN k) os:=Any.strconv_Itoa Tryz.Sx n h0 h1 w htab
def Tryz.IA:Go.Shelf.Ren:=⟨fun | 172=>106 | 244=>137 | 245=>138 | 247=>169 | 279=>170 | 280=>171 | 281=>172 | 282=>173 | 287=>208 | 316=>209 | 171=>61 | 205=>210 | 321=>228 | 322=>229 | 243=>103 | 246=>132 | 283=>161 | 284=>162 | 285=>163 | 286=>164 | 129=>184 | 317=>199 | 318=>200 | 319=>201 | 320=>202 | 337=>224 | 338=>225 | n=>n,fun | 9=>9 | 3=>3 | 75=>33 | 76=>183 | 4=>4 | 5=>5 | 167=>263 | 37=>181 | 0=>0 | 85=>264 | 2=>2 | 168=>266 | 53=>44 | 175=>288 | 46=>212 | 210=>291 | 127=>282 | 145=>312 | 143=>310 | 21=>21 | 171=>255 | 173=>258 | 212=>286 | 51=>248 | 20=>20 | 213=>287 | 232=>316 | 233=>317 | 80=>246 | n=>n,fun | 15=>2 | 16=>3 | 17=>0 | 18=>6 | 19=>7 | n=>n⟩
theorem Tryz.AB:Go.Proofs.LaysC.n172 Tryz.prog Tryz.IA:={
 mixed:=by kernel_rfl
 f129:=Tryz.func184.trans (congrArg some (by kernel_rfl))
 f171:=Tryz.func61.trans (congrArg some (by kernel_rfl))
 f172:=Tryz.func106.trans (congrArg some (by kernel_rfl))
 f205:=Tryz.func210.trans (congrArg some (by kernel_rfl))
 f243:=Tryz.func103.trans (congrArg some (by kernel_rfl))
 f244:=Tryz.func137.trans (congrArg some (by kernel_rfl))
 f245:=Tryz.func138.trans (congrArg some (by kernel_rfl))
 f246:=Tryz.func132.trans (congrArg some (by kernel_rfl))
 f247:=Tryz.func169.trans (congrArg some (by kernel_rfl))
 f279:=Tryz.func170.trans (congrArg some (by kernel_rfl))
 f280:=Tryz.func171.trans (congrArg some (by kernel_rfl))
 f281:=Tryz.func172.trans (congrArg some (by kernel_rfl))
 f282:=Tryz.func173.trans (congrArg some (by kernel_rfl))
 f283:=Tryz.func161.trans (congrArg some (by kernel_rfl))
 f284:=Tryz.func162.trans (congrArg some (by kernel_rfl))
 f285:=Tryz.func163.trans (congrArg some (by kernel_rfl))
 f286:=Tryz.func164.trans (congrArg some (by kernel_rfl))
 f287:=Tryz.func208.trans (congrArg some (by kernel_rfl))
 f316:=Tryz.func209.trans (congrArg some (by kernel_rfl))
 f317:=Tryz.func199.trans (congrArg some (by kernel_rfl))
 f318:=Tryz.func200.trans (congrArg some (by kernel_rfl))
 f319:=Tryz.func201.trans (congrArg some (by kernel_rfl))
 f320:=Tryz.func202.trans (congrArg some (by kernel_rfl))
 f321:=Tryz.func228.trans (congrArg some (by kernel_rfl))
 f322:=Tryz.func229.trans (congrArg some (by kernel_rfl))
 f337:=Tryz.func224.trans (congrArg some (by kernel_rfl))
 f338:=Tryz.func225.trans (congrArg some (by kernel_rfl))
 t0:=Tryz.underlying0
 a0:=Tryz.isAgg0
 z0:=Tryz.sizeOf0
 v0:=Tryz.zeroValue0
 t2:=Tryz.underlying2
 a2:=Tryz.isAgg2
 z2:=Tryz.sizeOf2
 v2:=Tryz.zeroValue2
 t3:=Tryz.underlying3
 a3:=Tryz.isAgg3
 z3:=Tryz.sizeOf3
 v3:=Tryz.zeroValue3
 t4:=Tryz.underlying4
 a4:=Tryz.isAgg4
 z4:=Tryz.sizeOf4
 v4:=Tryz.zeroValue4
 t5:=Tryz.underlying5
 a5:=Tryz.isAgg5
 z5:=Tryz.sizeOf5
 v5:=Tryz.zeroValue5
 t9:=Tryz.underlying9
 a9:=Tryz.isAgg9
 z9:=Tryz.sizeOf9
 v9:=Tryz.zeroValue9
 t20:=Tryz.underlying20
 a20:=Tryz.isAgg20
 z20:=Tryz.sizeOf20
 v20:=Tryz.zeroValue20
 t21:=Tryz.underlying21
 a21:=Tryz.isAgg21
 z21:=Tryz.sizeOf21
 v21:=Tryz.zeroValue21
 t37:=Tryz.underlying181
 a37:=Tryz.isAgg181
 z37:=Tryz.sizeOf181
 v37:=Tryz.zeroValue181
 t46:=Tryz.underlying212
 a46:=Tryz.isAgg212
 z46:=Tryz.sizeOf212
 v46:=Tryz.zeroValue212
 t51:=Tryz.underlying248
 a51:=Tryz.isAgg248
 z51:=Tryz.sizeOf248
 v51:=Tryz.zeroValue248
 t53:=Tryz.underlying44
 a53:=Tryz.isAgg44
 z53:=Tryz.sizeOf44
 v53:=Tryz.zeroValue44
 t75:=Tryz.underlying33
 a75:=Tryz.isAgg33
 z75:=Tryz.sizeOf33
 v75:=Tryz.zeroValue33
 t76:=Tryz.underlying183
 a76:=Tryz.isAgg183
 z76:=Tryz.sizeOf183
 v76:=Tryz.zeroValue183
 t85:=Tryz.underlying264
 a85:=Tryz.isAgg264
 z85:=Tryz.sizeOf264
 v85:=Tryz.zeroValue264
 t127:=Tryz.underlying282
 a127:=Tryz.isAgg282
 z127:=Tryz.sizeOf282
 v127:=Tryz.zeroValue282
 t143:=Tryz.underlying310
 a143:=Tryz.isAgg310
 z143:=Tryz.sizeOf310
 v143:=Tryz.zeroValue310
 t145:=Tryz.underlying312
 a145:=Tryz.isAgg312
 z145:=Tryz.sizeOf312
 v145:=Tryz.zeroValue312
 t167:=Tryz.underlying263
 a167:=Tryz.isAgg263
 z167:=Tryz.sizeOf263
 v167:=Tryz.zeroValue263
 t168:=Tryz.underlying266
 a168:=Tryz.isAgg266
 z168:=Tryz.sizeOf266
 v168:=Tryz.zeroValue266
 t171:=Tryz.underlying255
 a171:=Tryz.isAgg255
 z171:=Tryz.sizeOf255
 v171:=Tryz.zeroValue255
 t173:=Tryz.underlying258
 a173:=Tryz.isAgg258
 z173:=Tryz.sizeOf258
 v173:=Tryz.zeroValue258
 t175:=Tryz.underlying288
 a175:=Tryz.isAgg288
 z175:=Tryz.sizeOf288
 v175:=Tryz.zeroValue288
 t210:=Tryz.underlying291
 a210:=Tryz.isAgg291
 z210:=Tryz.sizeOf291
 v210:=Tryz.zeroValue291
 t212:=Tryz.underlying286
 a212:=Tryz.isAgg286
 z212:=Tryz.sizeOf286
 v212:=Tryz.zeroValue286
 t213:=Tryz.underlying287
 a213:=Tryz.isAgg287
 z213:=Tryz.sizeOf287
 t232:=Tryz.underlying316
 a232:=Tryz.isAgg316
 z232:=Tryz.sizeOf316
 v232:=Tryz.zeroValue316
 t233:=Tryz.underlying317
 a233:=Tryz.isAgg317
 z233:=Tryz.sizeOf317
 v233:=Tryz.zeroValue317
 g15:=by kernel_rfl
 g16:=by kernel_rfl
 g17:=by kernel_rfl
 g18:=by kernel_rfl
 g19:=by kernel_rfl
 t80:=Tryz.underlying246
 a80:=Tryz.isAgg246
 z80:=Tryz.sizeOf246
 v80:=Tryz.zeroValue246
 i0:=by kernel_rfl
 i2:=by kernel_rfl
 i3:=by kernel_rfl
 i4:=by kernel_rfl
 i5:=by kernel_rfl
 i9:=by kernel_rfl
 i20:=by kernel_rfl
 i21:=by kernel_rfl
 i37:=by kernel_rfl
 i46:=by kernel_rfl
 i51:=by kernel_rfl
 i53:=by kernel_rfl
 i75:=by kernel_rfl
 i76:=by kernel_rfl
 i80:=by kernel_rfl
 i85:=by kernel_rfl
 i127:=by kernel_rfl
 i143:=by kernel_rfl
 i145:=by kernel_rfl
 i167:=by kernel_rfl
 i168:=by kernel_rfl
 i171:=by kernel_rfl
 i173:=by kernel_rfl
 i175:=by kernel_rfl
 i210:=by kernel_rfl
 i212:=by kernel_rfl
 i232:=by kernel_rfl
 i233:=by kernel_rfl
 m15:=by kernel_rfl
 m16:=by kernel_rfl
 m17:=by kernel_rfl
 m18:=by kernel_rfl
 m19:=by kernel_rfl
 c0:=by kernel_rfl
 c2:=by kernel_rfl
 c3:=by kernel_rfl
 c4:=by kernel_rfl
 c5:=by kernel_rfl
 c9:=by kernel_rfl
 c20:=by kernel_rfl
 c21:=by kernel_rfl
 c37:=by kernel_rfl
 c46:=by kernel_rfl
 c51:=by kernel_rfl
 c53:=by kernel_rfl
 c75:=by kernel_rfl
 c76:=by kernel_rfl
 c80:=by kernel_rfl
 c85:=by kernel_rfl
 c127:=by kernel_rfl
 c143:=by kernel_rfl
 c145:=by kernel_rfl
 c167:=by kernel_rfl
 c168:=by kernel_rfl
 c171:=by kernel_rfl
 c173:=by kernel_rfl
 c175:=by kernel_rfl
 c210:=by kernel_rfl
 c212:=by kernel_rfl
 c213:=by kernel_rfl
 c232:=by kernel_rfl
 c233:=by kernel_rfl}
open Go.RowKit in
theorem Tryz.strconv_Atoi_ok (s:ByteArray) (hmax:s.size<=9223372036854775806) (v:Int) (h:Lib.atoiAll s.data.toList = .ok v) (w:World) :
  Calls Tryz.prog 106 #[.string s] w fun e w'=>e = .returned (.tuple #[.int .i64 v, .nilIface])/\(w'=w\/∃t,w'=Lib.bytesWorld w 5 t):=Any.strconv_Atoi_ok Tryz.AB s hmax v h w
open Go.RowKit in
theorem Tryz.strconv_Atoi_syntax (s:ByteArray) (hlim:s.size<=281474976710656) (h:Lib.atoiAll s.data.toList=Go.Lib.NumEnd.syntax) (ev:Value) (w:World) (hv:w.cell? ⟨2,0,none⟩=some ev) (hev:ev = .nilIface\/∃te pe,ev = .iface te pe) :
  Calls Tryz.prog 106 #[.string s] w fun e w'=>∃N,e = .returned (.tuple #[.int .i64 (0), .iface 266 (.pointer (some ⟨N,0,none⟩))])/\w.heap.size<=N/\w'.heap[N]?=some (.cells #[.string ⟨#[65,116,111,105]⟩, .string s,ev] 291 (0,0))/\Below w.heap.size w w':=Any.strconv_Atoi_syntax Tryz.AB s hlim h ev w hv hev
open Go.RowKit in
theorem Tryz.strconv_Atoi_range (s:ByteArray) (hlim:s.size<=281474976710656) (h:Lib.atoiAll s.data.toList = .range) (ev:Value) (w:World) (hv:w.cell? ⟨3,0,none⟩=some ev) (hev:ev = .nilIface\/∃te pe,ev = .iface te pe) :
  Calls Tryz.prog 106 #[.string s] w fun e w'=>∃N,e = .returned (.tuple #[.int .i64 (Lib.atoiSat s.data.toList), .iface 266 (.pointer (some ⟨N,0,none⟩))])/\w.heap.size<=N/\w'.heap[N]?=some (.cells #[.string ⟨#[65,116,111,105]⟩, .string s,ev] 291 (0,0))/\Below w.heap.size w w':=Any.strconv_Atoi_range Tryz.AB s hlim h ev w hv hev
def Tryz.Kg:Go.Shelf.Ren:=⟨fun | 102=>64 | 209=>105 | 207=>136 | n=>n,fun | 9=>9 | 4=>4 | 3=>3 | n=>n,fun | n=>n⟩
theorem Tryz.TQ:Go.Proofs.Lays.n102 Tryz.prog Tryz.Kg:={
 mixed:=by kernel_rfl
 f102:=Tryz.func64.trans (congrArg some (by kernel_rfl))
 f207:=Tryz.func136.trans (congrArg some (by kernel_rfl))
 f209:=Tryz.func105.trans (congrArg some (by kernel_rfl))
 t3:=Tryz.underlying3
 a3:=Tryz.isAgg3
 z3:=Tryz.sizeOf3
 v3:=Tryz.zeroValue3
 t4:=Tryz.underlying4
 a4:=Tryz.isAgg4
 z4:=Tryz.sizeOf4
 v4:=Tryz.zeroValue4
 t9:=Tryz.underlying9
 a9:=Tryz.isAgg9
 z9:=Tryz.sizeOf9
 v9:=Tryz.zeroValue9}
open Go.RowKit Go.Lib in
theorem Tryz.strings_TrimSuffix (s p:ByteArray) (w:World) (hs:s.size<=9223372036854775807) :
  Calls Tryz.prog 64 #[.string s, .string p] w fun e w'=>e = .returned (.string ⟨(Lib.trimSuffix s.data.toList p.data.toList).toArray⟩)/\w'=w:=Any.strings_TrimSuffix Tryz.TQ s p w hs
def Tryz.Kh:Go.Shelf.Ren:=⟨fun | 146=>63 | 221=>104 | 268=>133 | 138=>134 | 143=>135 | 195=>165 | 197=>166 | 218=>167 | 219=>168 | 260=>203 | 217=>204 | 225=>205 | 224=>206 | 267=>207 | 266=>226 | 314=>227 | n=>n,fun | 9=>9 | 31=>64 | 3=>3 | 4=>4 | 0=>0 | 105=>260 | 21=>21 | 5=>5 | 46=>212 | 119=>304 | 139=>307 | 138=>306 | 146=>250 | 51=>248 | n=>n,fun | 1=>1 | 3=>4 | 4=>5 | n=>n⟩
theorem Tryz.TR:Go.Proofs.Lays.n146 Tryz.prog Tryz.Kh:={
 mixed:=by kernel_rfl
 f138:=Tryz.func134.trans (congrArg some (by kernel_rfl))
 f143:=Tryz.func135.trans (congrArg some (by kernel_rfl))
 f146:=Tryz.func63.trans (congrArg some (by kernel_rfl))
 f195:=Tryz.func165.trans (congrArg some (by kernel_rfl))
 f197:=Tryz.func166.trans (congrArg some (by kernel_rfl))
 f217:=Tryz.func204.trans (congrArg some (by kernel_rfl))
 f218:=Tryz.func167.trans (congrArg some (by kernel_rfl))
 f219:=Tryz.func168.trans (congrArg some (by kernel_rfl))
 f221:=Tryz.func104.trans (congrArg some (by kernel_rfl))
 f224:=Tryz.func206.trans (congrArg some (by kernel_rfl))
 f225:=Tryz.func205.trans (congrArg some (by kernel_rfl))
 f260:=Tryz.func203.trans (congrArg some (by kernel_rfl))
 f266:=Tryz.func226.trans (congrArg some (by kernel_rfl))
 f267:=Tryz.func207.trans (congrArg some (by kernel_rfl))
 f268:=Tryz.func133.trans (congrArg some (by kernel_rfl))
 f314:=Tryz.func227.trans (congrArg some (by kernel_rfl))
 t0:=Tryz.underlying0
 a0:=Tryz.isAgg0
 z0:=Tryz.sizeOf0
 v0:=Tryz.zeroValue0
 t3:=Tryz.underlying3
 a3:=Tryz.isAgg3
 z3:=Tryz.sizeOf3
 v3:=Tryz.zeroValue3
 t4:=Tryz.underlying4
 a4:=Tryz.isAgg4
 z4:=Tryz.sizeOf4
 v4:=Tryz.zeroValue4
 t5:=Tryz.underlying5
 a5:=Tryz.isAgg5
 z5:=Tryz.sizeOf5
 v5:=Tryz.zeroValue5
 t9:=Tryz.underlying9
 a9:=Tryz.isAgg9
 z9:=Tryz.sizeOf9
 v9:=Tryz.zeroValue9
 t21:=Tryz.underlying21
 a21:=Tryz.isAgg21
 z21:=Tryz.sizeOf21
 v21:=Tryz.zeroValue21
 t31:=Tryz.underlying64
 a31:=Tryz.isAgg64
 z31:=Tryz.sizeOf64
 v31:=Tryz.zeroValue64
 t46:=Tryz.underlying212
 a46:=Tryz.isAgg212
 z46:=Tryz.sizeOf212
 v46:=Tryz.zeroValue212
 t51:=Tryz.underlying248
 a51:=Tryz.isAgg248
 z51:=Tryz.sizeOf248
 v51:=Tryz.zeroValue248
 t105:=Tryz.underlying260
 a105:=Tryz.isAgg260
 z105:=Tryz.sizeOf260
 v105:=Tryz.zeroValue260
 t119:=Tryz.underlying304
 a119:=Tryz.isAgg304
 z119:=Tryz.sizeOf304
 t138:=Tryz.underlying306
 a138:=Tryz.isAgg306
 z138:=Tryz.sizeOf306
 v138:=Tryz.zeroValue306
 t139:=Tryz.underlying307
 a139:=Tryz.isAgg307
 z139:=Tryz.sizeOf307
 v139:=Tryz.zeroValue307
 t146:=Tryz.underlying250
 a146:=Tryz.isAgg250
 z146:=Tryz.sizeOf250
 v146:=Tryz.zeroValue250
 g1:=by kernel_rfl
 g3:=by kernel_rfl
 g4:=by kernel_rfl}
open Go.RowKit Go.Lib in
theorem Tryz.strings_Split (s sep:ByteArray) (m:Int) (w:World) (hs:s.size < 4294967281) (hm:w.cell? ⟨1,0,none⟩=some (.int .i64 m)) (h1:1<=sep.size) :
  Calls Tryz.prog 63 #[.string s, .string sep] w fun e w'=>
   e = .returned (.slice (some ⟨w.heap.size,0,none⟩) (Lib.countB s sep + 1) (Lib.countB s sep + 1))/\w'=w.alloc (.cells ((Lib.splitB sep 0 (Lib.countB s sep) s).map Value.string).toArray 9):=Any.strings_Split Tryz.TR (by kernel_rfl) s sep m w hs hm h1
end Go.Proofs.YtgokjhhcfemnhabGreatDoor

namespace Go.Proofs.YtgokjhhcfemnhabGreatDoor
open Go.Vg Go.Mrl
theorem NH (w:World) (k:Nat) (os:Array Obj):Vg.Below w.heap.size w (Sort.grow (w.drewN k) os):=by
 refine ⟨rfl,rfl,?_,fun i hi => ?_⟩
 ·show w.heap.size<=(w.heap++os).size
  simp
 ·show (w.heap++os)[i]?=w.heap[i]?
  rw [Array.getElem?_append,if_pos hi]
theorem TS {eT:TypeId} {n:Int} {O:aM} {w:World} {v:Value} (h:VR eT (.int .i64) n O w v):v = .int .i64 n/\-9223372036854775808<=n/\n<=9223372036854775807:=by
 obtain ⟨h1,h2,h3⟩:=VR.one rfl h
 exact ⟨by simpa using h1,h2,h3⟩
theorem pP {eT:TypeId} {s:List UInt8} {O:aM} {w:World} {v:Value} (h:VR eT .str s O w v):v = .string ⟨s.toArray⟩/\s.length<=aJ:=by
 obtain ⟨h1,h2⟩:=VR.one rfl h
 exact ⟨by simpa using h1,h2⟩
theorem IB {eT:TypeId} {s:List UInt8} {O:aM} {w:World} (h:s.length<=aJ):VR eT .str s O w (.string ⟨s.toArray⟩):=VR.cZ rfl ⟨rfl,h⟩
theorem vB:∀(k u:Nat),u < 10 ^ (k + 1)->Lib.nDigits u<=k + 1
 | 0,u,h=>by rw [Lib.nDigits_small (by simpa using h)];exact Nat.le_refl _
 | k + 1,u,h=>by
  by_cases hu:u < 10
  ·rw [Lib.nDigits_small hu];omega
  ·rw [Lib.nDigits_big hu]
   have:=vB k (u / 10) (by rw [Nat.pow_succ] at h;omega)
   omega
theorem Sy {n:Int} (h0 : -9223372036854775808<=n) (h1:n<=9223372036854775807):(Lib.itoa n).length<=21:=by
 unfold Lib.itoa
 split
 ·rw [List.length_cons,Lib.decDigits_length]
  have:=vB 19 n.natAbs (by omega)
  omega
 ·rw [Lib.decDigits_length]
  have:=vB 19 n.toNat (by omega)
  omega
theorem Tryz.oC:bK Tryz.prog Tryz.B.eT Tryz.X 61 [.int .i64] [.str] (fun _=>True) (fun n y=>y=Lib.itoa n):=by
 refine ⟨⟨Tryz.f61,Tryz.func61,by kernel_rfl,by kernel_rfl⟩,fun O w n vs hG hO ha _ => ?_⟩
 obtain ⟨v,rfl,hv⟩:=ha
 obtain ⟨rfl,h0,h1⟩:=TS hv
 refine (Tryz.strconv_Itoa n h0 h1 w hG.pow).mono ?_
 rintro e w' ⟨rfl,k,os,rfl⟩
 exact ⟨[.string ⟨(Lib.itoa n).toArray⟩],Lib.itoa n,rfl,rfl,⟨_,rfl,IB (by have:=Sy h0 h1;unfold aJ;omega)⟩,NH w k os⟩
theorem Tryz.rR:bK Tryz.prog Tryz.B.eT Tryz.X 106 [.str] [.int .i64, .err] (fun s=>s.length<=281474976710656) (fun s y=>y=dP s):=by
 refine ⟨⟨Tryz.f106,Tryz.func106,by kernel_rfl,by kernel_rfl⟩,fun O w s vs hG hO ha hs => ?_⟩
 obtain ⟨v,rfl,hv⟩:=ha
 obtain ⟨rfl,hl⟩:=pP hv
 have hsz:(⟨s.toArray⟩:ByteArray).size=s.length:=by simp [ByteArray.size]
 have hsl:(⟨s.toArray⟩:ByteArray).data.toList=s:=by simp
 cases ha:Lib.atoiAll s with
 | ok n=>
  refine (Tryz.strconv_Atoi_ok ⟨s.toArray⟩ (by rw [hsz];omega) n (by rw [hsl];exact ha) w).mono ?_
  rintro e w' ⟨rfl,hw⟩
  obtain ⟨b0,b1⟩:=Lib.atoiAll_bounds ha
  refine ⟨[.int .i64 n, .nilIface],(n, .nil),rfl,by unfold dP;rw [ha],⟨_,_,rfl,VR.cZ rfl ⟨rfl,b0,b1⟩,⟨_,rfl,VR.cZ rfl ⟨_,rfl,rfl⟩⟩⟩,?_⟩
  rcases hw with rfl | ⟨t,rfl⟩
  ·exact Vg.Below.refl _ _
  ·exact .of (Lib.bytesWorld_below _ _ _)
 | range=>
  obtain ⟨ev,hv,he⟩:=hG.Vu
  obtain ⟨b0,b1⟩:=Lib.atoiSat_bounds s
  have hA:=Tryz.strconv_Atoi_range ⟨s.toArray⟩ (by rw [hsz];exact hs) (by rw [hsl];exact ha) ev w hv he
  rw [hsl] at hA
  refine hA.mono ?_
  rintro e w' ⟨N,rfl,_,_,hb⟩
  exact ⟨[.int .i64 (Lib.atoiSat s),_],(Lib.atoiSat s, .other),rfl,by unfold dP;rw [ha],⟨_,_,rfl,VR.cZ rfl ⟨rfl,b0,b1⟩,⟨_,rfl,VR.cZ rfl ⟨_,rfl,_,_,rfl,by decide +kernel⟩⟩⟩, .of hb⟩
 | _=>
  obtain ⟨ev,hv,he⟩:=hG.Vt
  refine (Tryz.strconv_Atoi_syntax ⟨s.toArray⟩ (by rw [hsz];exact hs) (by rw [hsl];exact ha) ev w hv he).mono ?_
  rintro e w' ⟨N,rfl,_,_,hb⟩
  exact ⟨[.int .i64 0,_],(0, .other),rfl,by unfold dP;rw [ha],⟨_,_,rfl,VR.cZ rfl ⟨rfl,by decide,by decide⟩,⟨_,rfl,VR.cZ rfl ⟨_,rfl,_,_,rfl,by decide +kernel⟩⟩⟩, .of hb⟩
theorem Tryz.mX:bK Tryz.prog Tryz.B.eT Tryz.X 145 [.str, .str] [.str, .bool] (fun _=>True) (fun x y=>y=(Lib.trimPrefix x.1 x.2,Lib.hasPrefix x.1 x.2)):=by
 refine ⟨⟨Tryz.f145,Tryz.func145,by kernel_rfl,by kernel_rfl⟩,fun O w x vs hG hO ha _ => ?_⟩
 obtain ⟨s,p⟩:=x
 obtain ⟨v,vs',rfl,hv,u,rfl,hu⟩:=ha
 obtain ⟨rfl,hl⟩:=pP hv
 obtain ⟨rfl,_⟩:=pP hu
 refine (Tryz.strings_CutPrefix ⟨s.toArray⟩ ⟨p.toArray⟩ w).mono ?_
 rintro e w' ⟨rfl,rfl⟩
 have hle:(Lib.trimPrefix s p).length<=s.length:=by unfold Lib.trimPrefix;split <;> simp
 exact ⟨[.string ⟨(Lib.trimPrefix s p).toArray⟩, .bool (Lib.hasPrefix s p)],_,rfl,rfl,⟨_,_,rfl,IB (Nat.le_trans hle hl),_,rfl,VR.cZ rfl rfl⟩,Vg.Below.refl _ _⟩
theorem Tryz.l6:bK Tryz.prog Tryz.B.eT Tryz.X 64 [.str, .str] [.str] (fun _=>True) (fun x y=>y=Lib.trimSuffix x.1 x.2):=by
 refine ⟨⟨Tryz.f64,Tryz.func64,by kernel_rfl,by kernel_rfl⟩,fun O w x vs hG hO ha _ => ?_⟩
 obtain ⟨s,p⟩:=x
 obtain ⟨v,vs',rfl,hv,u,rfl,hu⟩:=ha
 obtain ⟨rfl,hl⟩:=pP hv
 obtain ⟨rfl,_⟩:=pP hu
 have hl:s.length<=aJ:=hl
 have hsz:(⟨s.toArray⟩:ByteArray).size=s.length:=by simp [ByteArray.size]
 refine (Tryz.strings_TrimSuffix ⟨s.toArray⟩ ⟨p.toArray⟩ w (by rw [hsz];exact hl)).mono ?_
 rintro e w' ⟨rfl,rfl⟩
 have hle:(Lib.trimSuffix s p).length<=s.length:=by unfold Lib.trimSuffix;split <;> simp
 exact ⟨[.string ⟨(Lib.trimSuffix s p).toArray⟩],_,rfl,rfl,⟨_,rfl,IB (Nat.le_trans hle hl)⟩,Vg.Below.refl _ _⟩
theorem Tryz.rS:bK Tryz.prog Tryz.B.eT Tryz.X 63 [.str, .str] [.slice .str] (fun x=>x.1.length < 4294967281/\x.2.length=1) (fun x y=>y=parts (K8 x.2) x.1):=by
 refine ⟨⟨Tryz.f63,Tryz.func63,by kernel_rfl,by kernel_rfl⟩,fun O w x vs hG hO ha hp => ?_⟩
 obtain ⟨s,p⟩:=x
 obtain ⟨hs,hp⟩:=hp
 obtain ⟨c,rfl⟩:∃c,p = [c]:=List.length_eq_one_iff.1 hp
 obtain ⟨v,vs',rfl,hv,u,rfl,hu⟩:=ha
 obtain ⟨rfl,hl⟩:=pP hv
 obtain ⟨rfl,_⟩:=pP hu
 obtain ⟨m,hm⟩:=hG.max
 have hsz:(⟨s.toArray⟩:ByteArray).size=s.length:=by simp [ByteArray.size]
 have h1:1<=(⟨#[c]⟩:ByteArray).size:=Nat.le_refl 1
 refine (Tryz.strings_Split ⟨s.toArray⟩ ⟨#[c]⟩ m w (by rw [hsz];exact hs) hm h1).mono ?_
 rintro e w' ⟨rfl,rfl⟩
 have hlen:=Lib.splitB_all ⟨#[c]⟩ h1 0 _ ⟨s.toArray⟩ rfl
 have hdat:=Lib.splitB_data ⟨#[c]⟩ 0 (Lib.countB ⟨s.toArray⟩ ⟨#[c]⟩) ⟨s.toArray⟩
 have hcb:=Lib.countB_le ⟨#[c]⟩ h1 _ ⟨s.toArray⟩ (Nat.le_refl _)
 have hd:(Lib.splitB ⟨#[c]⟩ 0 (Lib.countB ⟨s.toArray⟩ ⟨#[c]⟩) ⟨s.toArray⟩).map (·.data.toList)=parts c s:=by rw [hdat,<-rH,<-Lib.count_one]
 have hlf:(parts c s).length=Lib.countB ⟨s.toArray⟩ ⟨#[c]⟩ + 1:=by rw [<-hd,List.length_map,hlen]
 refine ⟨[_],parts c s,rfl,rfl,⟨_,rfl,VR.cZ rfl ⟨_,rfl,?_, .inr ⟨w.heap.size,0,Lib.countB ⟨s.toArray⟩ ⟨#[c]⟩ + 1,by rw [hlf],by rw [hlf];exact Nat.le_refl _,fun i y hy => ?_⟩⟩⟩,(Vg.Below.refl _ w).alloc (Nat.le_refl _) _⟩
 ·rw [hlf];have hs:s.length < 4294967281:=hs;rw [hsz] at hcb;unfold aJ;omega
 ·have hyl:=lR c s y (List.mem_of_getElem? hy)
  refine ⟨[.string ⟨y.toArray⟩],⟨rfl,Nat.le_trans hyl hl⟩,fun j u hj=>⟨?_,fun hh => ?_⟩⟩
  ·have hj0:j=0:=by
    rcases j with _ | j
    ·rfl
    ·simp at hj
   subst hj0
   simp at hj
   subst hj
   rw [<-hd,List.getElem?_map,Option.map_eq_some_iff] at hy
   obtain ⟨q,hq,rfl⟩:=hy
   have hh:(w.alloc (.cells ((Lib.splitB ⟨#[c]⟩ 0 (Lib.countB ⟨s.toArray⟩ ⟨#[c]⟩) ⟨s.toArray⟩).map Value.string).toArray 9)).heap[w.heap.size]?=some (.cells ((Lib.splitB ⟨#[c]⟩ 0 (Lib.countB ⟨s.toArray⟩ ⟨#[c]⟩) ⟨s.toArray⟩).map Value.string).toArray 9 (0,0)):=heap_alloc_new w _
   rw [Lib.cell_of_heap hh]
   simp only [Ty.size,Nat.mul_one,Nat.zero_add,Nat.add_zero,List.getElem?_toArray,List.getElem?_map,hq,Option.map_some]
  ·have:=hO _ _ hh
   simp at this
end Go.Proofs.YtgokjhhcfemnhabGreatDoor

namespace Go.Proofs.YtgokjhhcfemnhabGreatDoor
open Go.Vg Go.Mrl
@[reducible] def Tryz.rT:List Ob:=[.box 4 [.d .bool]]
@[reducible] def Tryz.oM:List Ob:=[.box 148 [.obj 1, .obj 2, .obj 3, .obj 4], .tok .str, .tok (.int .i64), .tok aN, .tok aO, .box 4 [.d .bool]]
def Tryz.vC:List (Alt Tryz.rT [.d .str, .obj 0]):=[{cG:=Tryz.rT,res:=[.d (.int .i64)],out:=fun a x=>((x.1.1 || (dB a.1).isNone,()),()),ret:=fun a _=>((dP a.1).1,())}]
noncomputable def Tryz.E2:List (FuncId × (Bool × bQ)):=[(61,(true,aL [.int .i64] [.str] (fun _=>True) (fun n=>Lib.itoa n))),
 (106,(true,aL [.str] [.int .i64, .err] (fun s=>s.length<=281474976710656) (fun s=>dP s))),
 (145,(true,aL [.str, .str] [.str, .bool] (fun _=>True) (fun x=>(Lib.trimPrefix x.1 x.2,Lib.hasPrefix x.1 x.2)))),
 (64,(true,aL [.str, .str] [.str] (fun _=>True) (fun x=>Lib.trimSuffix x.1 x.2))),
 (63,(true,aL [.str, .str] [.slice .str] (fun x=>x.1.length < 4294967281/\x.2.length=1) (fun x=>parts (K8 x.2) x.1)))]
theorem Tryz.Ki:bT Tryz.prog Tryz.B Tryz.X Tryz.E2:=
 aP (aC Tryz.oC) (aP (aC Tryz.rR) (aP (aC Tryz.mX) (aP (aC Tryz.l6) (aP (aC Tryz.rS) (bW Tryz.bX)))))
theorem NI (s:List UInt8) (b:Bool) (hw:kn [.d .str, .obj 0] (s,())) (hp:(fun a _=>a.1.length<=1000000) (s,()) ((b,()),())):(fD Tryz.B Tryz.E2 Tryz.f146 [] Tryz.rT [.d .str, .obj 0] Tryz.vC (s,()) ((b,()),())).holds:=by
 refine holds_of (p:=
  let za:=((b || Option.isNone (dB s),()),())
  let zb:=((dP s).1,())
  let zc:=True/\((true,()),())=za/\zb=zb
  (List.length s<=(281474976710656:Nat))/\(((b)=true->(zc))/\((b)=false->(((!bC.isNil (dP s).2)=true->(zc))/\((!bC.isNil (dP s).2)=false->(True)/\(True/\((!Lib.itoa (dP s).1 == s,()),())=za/\zb=zb)))))) (by kernel_rfl) ?_
 dsimp -iota -proj -eta only
 dsimp only at hp
 exact ⟨(by omega),⟨fun h0=>(by simp_all),fun h0=>iB (fun h1=>(by exact ⟨trivial,by rw [qn,h1];simp,rfl⟩)) (fun h1=>⟨trivial,(by exact ⟨trivial,by rw [qn,h1];cases b <;> simp_all <;> (rw [Bool.eq_iff_iff];simp),rfl⟩)⟩)⟩⟩
theorem Tryz.NJ:dK Tryz.prog Tryz.B.eT Tryz.X 146 false (bF Tryz.rT [.d .str, .obj 0] (fun a _=>a.1.length<=1000000) Tryz.vC):=
 cH (X:=Tryz.X) Tryz.Ki Tryz.func146 (by kernel_rfl) (fun (a:CD [.d .str, .obj 0]) (x:PD Tryz.rT)=>[]) (fun (a:CD [.d .str, .obj 0]) (x:PD Tryz.rT) hw hp=>NI a.1 x.1.1 hw hp)
def Tryz.AD:List (Alt Tryz.oM [.obj 0, .d .str, .obj 5]):=[{cG:=Tryz.oM,res:=[],out:=fun a x=>O9 (gO (RA x) x.2.2.2.2.2.1.1 a.1),ret:=fun _ _=>()}]
end Go.Proofs.YtgokjhhcfemnhabGreatDoor

namespace Go.Proofs.YtgokjhhcfemnhabGreatDoor
open Go.Vg Go.Mrl
noncomputable def Tryz.LB:List (FuncId × (Bool × bQ)):=[(61,(true,aL [.int .i64] [.str] (fun _=>True) (fun n=>Lib.itoa n))),
 (106,(true,aL [.str] [.int .i64, .err] (fun s=>s.length<=281474976710656) (fun s=>dP s))),
 (145,(true,aL [.str, .str] [.str, .bool] (fun _=>True) (fun x=>(Lib.trimPrefix x.1 x.2,Lib.hasPrefix x.1 x.2)))),
 (64,(true,aL [.str, .str] [.str] (fun _=>True) (fun x=>Lib.trimSuffix x.1 x.2))),
 (63,(true,aL [.str, .str] [.slice .str] (fun x=>x.1.length < 4294967281/\x.2.length=1) (fun x=>parts (K8 x.2) x.1))),
 (146,(false,bF Tryz.rT [.d .str, .obj 0] (fun a _=>a.1.length<=1000000) Tryz.vC))]
theorem Tryz.Qi:bT Tryz.prog Tryz.B Tryz.X Tryz.LB:=
 aP (aC Tryz.oC) (aP (aC Tryz.rR) (aP (aC Tryz.mX) (aP (aC Tryz.l6) (aP (aC Tryz.rS) (aP (Tryz.NJ) (bW Tryz.bX))))))
def LC (s:List UInt8) (_:List (List UInt8)) (_:List Int) (_:List (D aN)) (_:List (D aO)) (_:Bool):cN:=[
 (300001,fun st=>{X:=List (List UInt8),inv:=fun w=>w=parts 32 (Lib.trimPrefix s dZ),bA:=fun _=>0,aS:=fun w=>[(7,sD (.slice .str) w)],aX:=[0,2,6]}),
 (300003,fun st=>{X:=Bool,inv:=fun c=>c=true ↔ (nth .str (aZ (.slice .str) st 7) 0=gD/\List.length (aZ (.slice .str) st 7)=2),bA:=fun _=>0,aS:=fun c=>[(18,sB c)],aX:=[0,2,6,7]}),
 (300005,fun st=>{X:=Bool,inv:=fun c=>c=true ↔ (nth .str (aZ (.slice .str) st 7) 0=fZ/\List.length (aZ (.slice .str) st 7)=2),bA:=fun _=>0,aS:=fun c=>[(40,sB c)],aX:=[0,2,6,7]}),
 (300007,fun st=>{X:=Bool,inv:=fun c=>c=true ↔ (nth .str (aZ (.slice .str) st 7) 0=eR/\List.length (aZ (.slice .str) st 7)=3),bA:=fun _=>0,aS:=fun c=>[(64,sB c)],aX:=[0,2,6,7]}),
 (300009,fun st=>{X:=Bool,inv:=fun c=>c=true ↔ (nth .str (aZ (.slice .str) st 7) 0=je/\List.length (aZ (.slice .str) st 7)=3),bA:=fun _=>0,aS:=fun c=>[(93,sB c)],aX:=[0,2,6,7]}),
 (300011,fun st=>{X:=Bool,inv:=fun c=>c=true ↔ ((nth .str (aZ (.slice .str) st 7) 0=gQ\/nth .str (aZ (.slice .str) st 7) 0=iu)/\List.length (aZ (.slice .str) st 7)=4),bA:=fun _=>0,aS:=fun c=>[(123,sB c)],aX:=[0,2,6,7]})]
theorem Sz (s:List UInt8) (n:List (List UInt8)) (w:List Int) (y:List (D aN)) (t:List (D aO)) (b:Bool) (hw:kn [.obj 0, .d .str, .obj 5] (s,())) (hp:(fun a x=>a.1.length<=1000000/\x.2.1.length<=1000000/\x.2.2.1.length<=1000000/\x.2.2.2.1.length<=1000000/\x.2.2.2.2.1.length<=1000000) (s,()) ((),n,w,y,t,(b,()),())):(fD Tryz.B Tryz.LB Tryz.f112 (LC s n w y t b) Tryz.oM [.obj 0, .d .str, .obj 5] Tryz.AD (s,()) ((),n,w,y,t,(b,()),())).holds:=by
 refine holds_of (p:=
  let za:=[(119:UInt8),101,97,107,32]
  let zb:=Lib.trimPrefix s za
  let zc:=parts (32:UInt8) (Lib.trimPrefix s dZ)
  let zd:=n=n
  let ze:=w=w
  let zf:=y=y
  let zg:=t=t
  let zh:=(zd/\ze/\zf/\zg/\True)/\zd/\ze/\zf/\zg/\(b=b/\True)/\True
  let zi:=fun (x_0:List (List UInt8))=>(↑(List.length x_0):Int)
  let zj:=fun (x_0:List (List UInt8))=>(0:Int)<=(0:Int)/\(0:Int) < zi x_0
  let zk:=fun (x_0:List (List UInt8))=>nth Ty.str x_0 (0:Nat)
  let zl:=fun (x_0:List (List UInt8))=>List.length x_0<=aJ
  let zm:=fun (x_0:List (List UInt8))=>zk x_0=gD/\List.length x_0=(2:Nat)
  let zn:=fun (x_0:List (List UInt8))=>(0:Int)<=(1:Int)/\(1:Int) < zi x_0
  let zo:=fun (x_0:List (List UInt8))=>nth Ty.str x_0 (1:Nat)
  let zp:=(w,y,t,(b,()),())
  let zq:=O9 (gO (RA ((),n,zp)) b s)
  let zr:=()=()
  let zs:=fun (x_0:List (List UInt8))=>zk x_0=fZ/\List.length x_0=(2:Nat)
  let zt:=fun (x_0:List (List UInt8))=>List.length (zo x_0)<=(1000000:Nat)
  let zu:=fun (x_0:List (List UInt8))=>(dP (zo x_0)).1
  let zv:=fun (x_0:List (List UInt8))=>zk x_0=eR/\List.length x_0=(3:Nat)
  let zw:=fun (x_0:List (List UInt8))=>(0:Int)<=(2:Int)/\(2:Int) < zi x_0
  let zx:=fun (x_0:List (List UInt8))=>nth Ty.str x_0 (2:Nat)
  let zy:=fun (x_0:List (List UInt8))=>List.length (zx x_0)<=(1000000:Nat)
  let zz:=(Lib.hasPrefix s za,())
  let zaa:=fun (x_0:List (List UInt8))=>[(zo x_0,(dP (zx x_0)).1,zz)]
  let zab:=fun (x_0:List (List UInt8))=>zk x_0=je/\List.length x_0=(3:Nat)
  let zac:=List.length t
  let zad:=fun (x_0:List (List UInt8))=>[(zu x_0,(1:Int),(dP (zx x_0)).1,@List.nil UInt8,false,())]
  let zae:=fun (x_0:List (List UInt8))=>((b || Option.isNone (dB (zo x_0)) || Option.isNone (dB (zx x_0)),()),())
  let zaf:=fun (x_0:List (List UInt8))=>(zy x_0)/\((True)->(zg/\zac + List.length (zad x_0)<=(1000000000:Nat))/\(zd/\ze/\zf/\t++zad x_0=t++zad x_0/\True/\((),n,w,y,t++zad x_0,zae x_0)=zq/\zr))
  let zag:=fun (x_0:List (List UInt8))=>(zk x_0=gQ\/zk x_0=iu)/\List.length x_0=(4:Nat)
  let zah:=fun (x_0:List (List UInt8))=>((zl x_0)->(∃(x':Bool),(x'=true ↔ zag x_0)/\((zi x_0 == (4:Int))=x'/\True)/\zh))
  let zai:=fun (x_0:List (List UInt8))=>zk x_0 == [(110:UInt8),101,97,114]
  let zaj:=fun (x_0:List (List UInt8))=>(0:Int)<=(3:Int)/\(3:Int) < zi x_0
  let zak:=fun (x_0:List (List UInt8))=>((dP (zx x_0)).1,nth Ty.str x_0 (3:Nat),zz)
  let zal:=fun (x_0:List (List UInt8))=>t++[(zu x_0,(3:Int),zak x_0)]
  let zam:=fun (x_0:List (List UInt8))=>(zy x_0)/\((True)->(zg/\zac + List.length [(zu x_0,(3:Int),zak x_0)]<=(1000000000:Nat))/\(zd/\ze/\zf/\zal x_0=zal x_0/\True/\((),n,w,y,zal x_0,zae x_0)=zq/\zr))
  let zan:=fun (x_0:List (List UInt8))=>t++[(zu x_0,(2:Int),zak x_0)]
  let zao:=fun (x_0:List (List UInt8))=>(zy x_0)/\((True)->(zg/\zac + List.length [(zu x_0,(2:Int),zak x_0)]<=(1000000000:Nat))/\(zd/\ze/\zf/\zan x_0=zan x_0/\True/\((),n,w,y,zan x_0,zae x_0)=zq/\zr))
  (True)/\(((List.length zb < (4294967281:Nat)/\List.length [(32:UInt8)]=(1:Nat))/\(∃(x':List (List UInt8)),x'=zc/\(parts (32:UInt8) zb=x'/\True)/\zh))/\((∀x_0:List (List UInt8),((x_0=zc)->(((zj x_0)/\(((zk x_0 == [(110:UInt8),101,101,100])=true->((zl x_0)->(∃(x':Bool),(x'=true ↔ zm x_0)/\((zi x_0 == (2:Int))=x'/\True)/\zh)))/\((zk x_0 == [(110:UInt8),101,101,100])=false->(∃(x':Bool),(x'=true ↔ zm x_0)/\(false=x'/\True)/\zh))))/\((∀x_1:Bool,((x_1=true ↔ zm x_0)->(((x_1)=true->(zn x_0)/\(zd/\List.length n + List.length [zo x_0]<=(1000000000:Nat))/\(n++[zo x_0]=n++[zo x_0]/\ze/\zf/\zg/\True/\((),n++[zo x_0],zp)=zq/\zr))/\((x_1)=false->(((zj x_0)/\(((zk x_0 == [(119:UInt8),111,114,100])=true->((zl x_0)->(∃(x':Bool),(x'=true ↔ zs x_0)/\((zi x_0 == (2:Int))=x'/\True)/\zh)))/\((zk x_0 == [(119:UInt8),111,114,100])=false->(∃(x':Bool),(x'=true ↔ zs x_0)/\(false=x'/\True)/\zh))))/\((∀x_2:Bool,((x_2=true ↔ zs x_0)->(((x_2)=true->(zn x_0)/\((fun a0:Prop=>a0/\a0) ((zt x_0)/\((True)->(ze/\List.length w + List.length [zu x_0]<=(1000000000:Nat))/\(zd/\w++[zu x_0]=w++[zu x_0]/\zf/\zg/\True/\((),n,w++[zu x_0],y,t,(b || Option.isNone (dB (zo x_0)),()),())=zq/\zr)))))/\((x_2)=false->(((zj x_0)/\(((zk x_0 == [(115:UInt8),121,109,98,111,108])=true->((zl x_0)->(∃(x':Bool),(x'=true ↔ zv x_0)/\((zi x_0 == (3:Int))=x'/\True)/\zh)))/\((zk x_0 == [(115:UInt8),121,109,98,111,108])=false->(∃(x':Bool),(x'=true ↔ zv x_0)/\(false=x'/\True)/\zh))))/\((∀x_3:Bool,((x_3=true ↔ zv x_0)->(((x_3)=true->(zn x_0)/\(zw x_0)/\((fun a0:Prop=>a0/\a0) ((zy x_0)/\((True)->(zf/\List.length y + List.length (zaa x_0)<=(1000000000:Nat))/\(zd/\ze/\y++zaa x_0=y++zaa x_0/\zg/\True/\((),n,w,y++zaa x_0,t,(b || Option.isNone (dB (zx x_0)),()),())=zq/\zr)))))/\((x_3)=false->(((zj x_0)/\(((zk x_0 == [(98:UInt8),97,115,101])=true->((zl x_0)->(∃(x':Bool),(x'=true ↔ zab x_0)/\((zi x_0 == (3:Int))=x'/\True)/\zh)))/\((zk x_0 == [(98:UInt8),97,115,101])=false->(∃(x':Bool),(x'=true ↔ zab x_0)/\(false=x'/\True)/\zh))))/\((∀x_4:Bool,((x_4=true ↔ zab x_0)->(((x_4)=true->(zn x_0)/\(zw x_0)/\(((zt x_0)/\((True)->(zaf x_0)))/\((zt x_0)/\((True)->((fun a0:Prop=>a0/\a0) ((zaf x_0)))))))/\((x_4)=false->(((zj x_0)/\(((zk x_0 == [(119:UInt8),104,111,108,101])=true->(zah x_0))/\((zk x_0 == [(119:UInt8),104,111,108,101])=false->(zj x_0)/\(((zai x_0)=true->(zah x_0))/\((zai x_0)=false->(∃(x':Bool),(x'=true ↔ zag x_0)/\(false=x'/\True)/\zh))))))/\((∀x_5:Bool,((x_5=true ↔ zag x_0)->(((x_5)=true->(zj x_0)/\(((zai x_0)=true->(zn x_0)/\(zw x_0)/\(zaj x_0)/\(((zt x_0)/\((True)->(zam x_0)))/\((zt x_0)/\((True)->((fun a0:Prop=>a0/\a0) ((zam x_0)))))))/\((zai x_0)=false->(zn x_0)/\(zw x_0)/\(zaj x_0)/\(((zt x_0)/\((True)->(zao x_0)))/\((zt x_0)/\((True)->((fun a0:Prop=>a0/\a0) ((zao x_0)))))))))/\((x_5)=false->(zd/\ze/\zf/\zg/\True/\((),n,w,y,t,(true,()),())=zq/\zr)))))))))))))))))))))))))))))))))))) (by kernel_rfl) ?_
 dsimp -iota -proj -eta only
 dsimp only at hp
 refine ⟨trivial,⟨⟨(by have:=Hn s [119,101,97,107,32];exact ⟨by omega,rfl⟩),(⟨_,rfl,⟨rfl,trivial⟩,(by trivial)⟩)⟩,fun x_0 q_0=>⟨⟨?a,iQ (fun h0 h1 => ?b) (fun h0 => ?c)⟩,fun x_1 q_1=>⟨fun h0=>⟨?d,?e,?f⟩,fun h0=>⟨⟨?g,iQ (fun h1 h2 => ?h) (fun h1 => ?i)⟩,fun x_2 q_2=>⟨fun h1=>⟨?j,(show ∀{a0:Prop},a0->a0/\a0 from fun g0=>⟨g0,g0⟩) (⟨?k,fun h2=>⟨?l,?m⟩⟩)⟩,fun h1=>⟨⟨?n,iQ (fun h2 h3 => ?o) (fun h2 => ?p)⟩,fun x_3 q_3=>⟨fun h2=>⟨?q,?r,(show ∀{a0:Prop},a0->a0/\a0 from fun g0=>⟨g0,g0⟩) (⟨?s,fun h3=>⟨?t,?u⟩⟩)⟩,fun h2=>⟨⟨?v,iQ (fun h3 h4 => ?w) (fun h3 => ?x)⟩,fun x_4 q_4=>⟨fun h3=>⟨?y,?z,⟨⟨?a0,fun h4=>⟨?a1,fun h5=>⟨?a2,?a3⟩⟩⟩,⟨?a4,fun h4=>(show ∀{a0:Prop},a0->a0/\a0 from fun g0=>⟨g0,g0⟩) (⟨?a5,fun h5=>⟨?a6,?a7⟩⟩)⟩⟩⟩,fun h3=>⟨⟨?a8,iQ (fun h4 h5 => ?a9) (fun h4=>⟨?aa,iQ (fun h5 h6 => ?ab) (fun h5 => ?ac)⟩)⟩,fun x_5 q_5=>⟨fun h4=>⟨?ad,iQ (fun h5=>⟨?ae,?af,?ag,⟨⟨?ah,fun h6=>⟨?ai,fun h7=>⟨?aj,?ak⟩⟩⟩,⟨?al,fun h6=>(show ∀{a0:Prop},a0->a0/\a0 from fun g0=>⟨g0,g0⟩) (⟨?am,fun h7=>⟨?an,?ao⟩⟩)⟩⟩⟩) (fun h5=>⟨?ap,?aq,?ar,⟨⟨?au,fun h6=>⟨?av,fun h7=>⟨?aw,?ax⟩⟩⟩,⟨?ay,fun h6=>(show ∀{a0:Prop},a0->a0/\a0 from fun g0=>⟨g0,g0⟩) (⟨?az,fun h7=>⟨?b0,?b1⟩⟩)⟩⟩⟩)⟩,fun h4 => ?b2⟩⟩⟩⟩⟩⟩⟩⟩⟩⟩⟩⟩
 case a|g|n|v|a8|aa|ad=>have:=RB q_0;omega
 case b|c|h|i|o|p|w|x|a9|ab|ac=>exact ⟨_,by (simp_all <;> omega),⟨rfl,trivial⟩,(by trivial)⟩
 case d|j|q|r|y|z|ae|af|ag|ap|aq|ar=>simp_all
 case e|l|t|a2|a6|aj|an|aw|b0=>exact ⟨rfl,by simp only [List.length_singleton];omega⟩
 case f|m|u|a3|a7|ak|ao|ax|b1|b2=>
  refine ⟨rfl,rfl,rfl,rfl,trivial,?_,rfl⟩
  first
  | (rw [MH q_0 (q_1.1 (by assumption))];rfl)
  | (rw [MI q_0 (gR q_1 (by assumption)) (q_2.1 (by assumption))];rfl)
  | (rw [Pa q_0 (gR q_1 (by assumption)) (gR q_2 (by assumption)) (q_3.1 (by assumption))];rfl)
  | (rw [MJ q_0 (gR q_1 (by assumption)) (gR q_2 (by assumption)) (gR q_3 (by assumption)) (q_4.1 (by assumption))];rfl)
  | (rw [Ef q_0 (gR q_1 (by assumption)) (gR q_2 (by assumption)) (gR q_3 (by assumption)) (gR q_4 (by assumption)) (q_5.1 (by assumption)) (k:=3) (if_pos (by assumption)).symm];rfl)
  | (rw [Ef q_0 (gR q_1 (by assumption)) (gR q_2 (by assumption)) (gR q_3 (by assumption)) (gR q_4 (by assumption)) (q_5.1 (by assumption)) (k:=2) (if_neg (by assumption)).symm];rfl)
  | (rw [MK q_0 (gR q_1 (by assumption)) (gR q_2 (by assumption)) (gR q_3 (by assumption)) (gR q_4 (by assumption)) (gR q_5 (by assumption))];rfl)
 case k|a0|a4|ah|al|au|ay=>have:=Lh q_0 1;omega
 case s|a1|a5|ai|am|av|az=>have:=Lh q_0 2;omega
theorem Tryz.SA:dK Tryz.prog Tryz.B.eT Tryz.X 112 false (bF Tryz.oM [.obj 0, .d .str, .obj 5] (fun a x=>a.1.length<=1000000/\x.2.1.length<=1000000/\x.2.2.1.length<=1000000/\x.2.2.2.1.length<=1000000/\x.2.2.2.2.1.length<=1000000) Tryz.AD):=
 cH (X:=Tryz.X) Tryz.Qi Tryz.func112 (by kernel_rfl) (fun (a:CD [.obj 0, .d .str, .obj 5]) (x:PD Tryz.oM)=>LC a.1 x.2.1 x.2.2.1 x.2.2.2.1 x.2.2.2.2.1 x.2.2.2.2.2.1.1) (fun (a:CD [.obj 0, .d .str, .obj 5]) (x:PD Tryz.oM) hw hp=>Sz a.1 x.2.1 x.2.2.1 x.2.2.2.1 x.2.2.2.2.1 x.2.2.2.2.2.1.1 hw hp)
end Go.Proofs.YtgokjhhcfemnhabGreatDoor

namespace Go.Proofs.YtgokjhhcfemnhabGreatDoor
open Go.RowKit Go.Vg
theorem Tryz.Vk:(Tryz.prog.info? 244).map (·.size)=some 2:=by kernel_rfl
theorem Tryz.Vv:liesAt Tryz.prog Tryz.prog.depth 244 (2 / Tryz.prog.cellsOf 244) 0 244 1=true:=by kernel_rfl
set_option maxHeartbeats 1000000 in
set_option maxRecDepth 100000 in
theorem Tryz.NK (b:Nat) (v:Value) (w:World) (hb:w.heap[b]?=some (.cells #[.pointer (some ⟨b,0,none⟩),v] 244 (0,0))) :
  Calls Tryz.prog 194 #[.pointer (some ⟨b,0,none⟩)] w fun e w'=>e = .returned (.tuple #[])/\w'=w:=by
 obtain ⟨j,hj,_⟩:=Option.map_eq_some_iff.1 Tryz.Vk
 have h0:w.cell? ⟨b,0,none⟩=some (.pointer (some ⟨b,0,none⟩)):=by rw [Lib.cell_of_heap hb];rfl
 go_enter Tryz.func194,Tryz.ntmps194
 go_wp2
 rw [Lib.run_neq_ptr_same w _ Tryz.underlying242 hj]
 go_wp2
 go_end0
 exact ⟨rfl,rfl⟩
set_option maxHeartbeats 1000000 in
set_option maxRecDepth 100000 in
theorem Tryz.Kj (b:Nat) (v:Value) (w:World) (hb:w.heap[b]?=some (.cells #[.pointer none,v] 244 (0,0))) :
  Calls Tryz.prog 194 #[.pointer (some ⟨b,0,none⟩)] w fun e w'=>e = .returned (.tuple #[])/\w'=w.setCell ⟨b,0,none⟩ (.pointer (some ⟨b,0,none⟩)):=by
 obtain ⟨j,hj,hjs⟩:=Option.map_eq_some_iff.1 Tryz.Vk
 have h0:w.cell? ⟨b,0,none⟩=some (.pointer none):=by rw [Lib.cell_of_heap hb];rfl
 have hsh:w.shape? b=some (244,2):=by simp [World.shape?,hb]
 have hfz:w.frozen? ⟨b,0,none⟩=false:=Lib.frozen_of_heap hb 0
 go_enter Tryz.func194,Tryz.ntmps194
 go_wp2
 rw [Lib.run_to_unsafe w ⟨b,0,none⟩ Tryz.underlying242 Tryz.underlying302 hj (by rw [hjs];decide) hsh (Nat.zero_lt_succ 1)]
 simp only [Result.andThen]
 rw [Oper.upon_value]
 go_wp2
 rw [run_callFunc_extern Tryz.func222 (by kernel_rfl) (by kernel_rfl) (by kernel_rfl) (e:=Extern.AbiNoEscape.same) (by kernel_rfl)]
 rw [Lib.run_noEscape]
 simp only [Result.andThen]
 rw [Oper.upon_value]
 go_wp2
 rw [Lib.run_from_unsafe w ⟨b,0,none⟩ Tryz.underlying302 Tryz.underlying242 hj hsh Tryz.Vv]
 simp only [Result.andThen]
 rw [Oper.upon_value]
 go_wp2
 go_end0
 exact ⟨rfl,rfl⟩
theorem Tryz.Vw:(Tryz.prog.info? 5).map (fun i=>(i.zero,i.size,i.bytes))=some (some (.int .u8 0),1,1):=by kernel_rfl
theorem Tryz.Vp:Tryz.prog.cellsOf 5=1:=by kernel_rfl
set_option maxHeartbeats 2000000 in
set_option maxRecDepth 100000 in
theorem Tryz.Qj (b:Nat) (p v:Value) (xs:List Value) (s:ByteArray) (w:World) (hb:w.heap[b]?=some (.cells #[p,v] 244 (0,0))) (hp:p = .pointer none\/p = .pointer (some ⟨b,0,none⟩))
  (hown:w.ownsRow 0 5 1 v xs.length xs) (hne:v.ownBlock≠some b) (hcap:∀a n c,v = .slice (some a) n c->0 < c) (hlen:xs.length + s.size<=140737488355328) :
  Calls Tryz.prog 148 #[.pointer (some ⟨b,0,none⟩), .string s] w fun e w'=>e = .returned (.tuple #[.int .i64 s.size, .nilIface])/\
   ∃v',w'.heap[b]?=some (.cells #[.pointer (some ⟨b,0,none⟩),v'] 244 (0,0))/\w'.ownsRow 0 5 1 v' (xs.length + s.size) (xs++Lib.strCells s)/\v'.ownBlock≠some b/\Kept b v w w'/\
    (∀a n c,v' = .slice (some a) n c->0 < c)/\(∀g,v'.ownBlock=some g->v.ownBlock=some g\/w.heap.size<=g):=by
 obtain ⟨i0,hi,hz0⟩:=Option.map_eq_some_iff.1 Tryz.Vw
 simp only [Prod.mk.injEq] at hz0
 obtain ⟨hz0,hz1,hz2⟩:=hz0
 have hchk:Calls Tryz.prog 194 #[.pointer (some ⟨b,0,none⟩)] w fun e w1=>e = .returned (.tuple #[])/\w1.heap[b]?=some (.cells #[.pointer (some ⟨b,0,none⟩),v] 244 (0,0))/\
   w1.os=w.os/\w1.output=w.output/\w1.heap.size=w.heap.size/\∀k,k≠b->w1.heap[k]?=w.heap[k]?:=by
  rcases hp with rfl | rfl
  ·refine (Tryz.Kj b v w hb).mono ?_
   rintro e w1 ⟨rfl,rfl⟩
   exact ⟨rfl,(Up hb).trans (by simp),rfl,rfl,Go.Deep.nblk_setCell _ _ _,fun k hk=>Go.Deep.blk_setCell_other _ _ _ _ hk⟩
  ·refine (Tryz.NK b v w hb).mono ?_
   rintro e w1 ⟨rfl,rfl⟩
   exact ⟨rfl,hb,rfl,rfl,rfl,fun _ _=>rfl⟩
 go_enter Tryz.func148,Tryz.ntmps148
 go_wp2_with (go_at_call 194;refine hchk.mono ?_)
 rintro e w1 ⟨rfl,hb1,ho1,hu1,hs1,hk1⟩
 have hown1:w1.ownsRow 0 5 1 v xs.length xs:=by
  refine ⟨hown.1,?_⟩
  rcases hown.2 with h | ⟨g,cap,cur,h1,h2,h3,h4⟩
  ·exact .inl h
  ·refine .inr ⟨g,cap,cur,h1,h2,?_,h4⟩
   rw [hk1 g (fun e=>hne (by rw [h1,e];rfl))];exact h3
 have c0:w1.cell? ⟨b,0,none⟩=some (.pointer (some ⟨b,0,none⟩)):=by rw [Lib.cell_of_heap hb1];rfl
 have c1:w1.cell? ⟨b,1,none⟩=some v:=by rw [Lib.cell_of_heap hb1];rfl
 obtain ⟨v',w2,hrun,hown',hgrow,hcap',hnew⟩:=Ts (t:=181) (u:=9) (ty:=181) Tryz.underlying181 Tryz.underlying9 hi hz0 hz1 hz2 hown1 hcap s hlen
 have hlt:b < w1.heap.size:=(Array.getElem?_eq_some_iff.1 hb1).1
 have hb2:w2.heap[b]?=some (.cells #[.pointer (some ⟨b,0,none⟩),v] 244 (0,0)):=by rw [hgrow.block b hlt (fun e=>hne e.symm)];exact hb1
 have d1:w2.cell? ⟨b,1,none⟩=some v:=by rw [Lib.cell_of_heap hb2];rfl
 have f1:w2.frozen? ⟨b,1,none⟩=false:=Lib.frozen_of_heap hb2 1
 have hne':v'.ownBlock≠some b:=by
  intro e
  rcases hown'.2 with ⟨h,_⟩ | ⟨g',cap,cur,h,_,h3,_⟩
  ·rw [h] at e;cases e
  ·rw [h] at e
   cases e
   rw [hb2] at h3
   cases h3
 have hv1:∃a n c,v' = .slice a n c:=by
  rcases hown'.2 with ⟨h,_⟩ | ⟨g',cap,cur,h,_⟩ <;> exact ⟨_,_,_,h⟩
 obtain ⟨va,vn,vc,rfl⟩:=hv1
 rw [hs1] at hnew
 go_wp2_with (at_builtin;refine yr rfl _ _ 181 9 rfl rfl rfl hrun ?_)
 go_ret2
 refine ⟨rfl, .slice va vn vc,(Up hb2).trans (by simp),⟨hown'.1,?_⟩,hne',⟨hgrow.os.trans ho1,hgrow.output.trans hu1,?_,fun k h1 h2 h3 => ?_⟩,hcap',hnew⟩
 ·rcases hown'.2 with h | ⟨g,cap,cur,h1,h2,h3,h4⟩
  ·exact .inl h
  ·refine .inr ⟨g,cap,cur,h1,h2,?_,h4⟩
   rw [Go.Deep.blk_setCell_other _ _ _ _ (fun e=>hne' (by rw [h1,show g=b from e];rfl))]
   exact h3
 ·rw [Go.Deep.nblk_setCell];have:=hgrow.size;omega
 ·rw [Go.Deep.blk_setCell_other _ _ _ _ (show k≠b from h2),hgrow.block k (by omega) (fun e=>h3 e.symm),hk1 k h2]
set_option maxHeartbeats 2000000 in
set_option maxRecDepth 100000 in
theorem Tryz.NL (b:Nat) (p v:Value) (l:List UInt8) (w:World) (hb:w.heap[b]?=some (.cells #[p,v] 244 (0,0))) (hown:w.ownsRow 0 5 1 v l.length (l.map fun c=>Value.int .u8 c.toNat)) (hcap:∀a n c,v = .slice (some a) n c->0 < c) :
  Calls Tryz.prog 151 #[.pointer (some ⟨b,0,none⟩)] w fun e w'=>e = .returned (.string ⟨l.toArray⟩)/\Mi v w w':=by
 have c1:w.drew.cell? ⟨b,1,none⟩=some v:=by
  have:w.drew.heap[b]?=some (.cells #[p,v] 244 (0,0)):=hb
  rw [Lib.cell_of_heap this];rfl
 have mixed:Tryz.prog.follows .mixedOrders=true:=by kernel_rfl
 by_cases h0:l = []
 ·subst h0
  obtain ⟨q,n,c,rfl,hn,hSD⟩:∃q n c,v = .slice q n c/\n=0/\(Builtin.unsafeSliceData_ #[181] 282 #[v]).run Tryz.prog w.drew = .ok (.pointer q) w.drew:=by
   rcases hown.2 with ⟨rfl,_⟩ | ⟨g,cap,cur,rfl,_⟩
   ·exact ⟨none,0,0,rfl,rfl,Lib.run_unsafeSliceData_nil _ _ _ _ _⟩
   ·exact ⟨_,_,_,rfl,rfl,Lib.run_unsafeSliceData_row _ _ _ _ _ _ (by have:=hcap _ _ _ rfl;omega)⟩
  subst hn
  have hUS:(Builtin.unsafeString_ #[282,3] 9 #[.pointer q, .int .i64 0]).run Tryz.prog w.drew = .ok (.string .empty) w.drew:=Lib.run_unsafeString_none _ _ _ _ q
  go_enter Tryz.func151,Tryz.ntmps151
  go_wp2
  go_region_o
  all_goals (go_wp2;go_ret;exact ⟨rfl,rfl,rfl,rfl,fun _ _=>rfl⟩)
 ·have hl0:l.length≠0:=by simpa using h0
  rcases hown.2 with ⟨_,hz⟩ | ⟨g,cap,cur,rfl,hbg,hg,hnc,hcm,hcs,htake⟩
  ·exact absurd hz hl0
  have hSD:(Builtin.unsafeSliceData_ #[181] 282 #[.slice (some ⟨g,0,none⟩) l.length cap]).run Tryz.prog w.drew = .ok (.pointer (some ⟨g,0,none⟩)) w.drew:=Lib.run_unsafeSliceData_row _ _ _ _ _ _ (by omega)
  have hUS:(Builtin.unsafeString_ #[282,3] 9 #[.pointer (some ⟨g,0,none⟩), .int .i64 l.length]).run Tryz.prog w.drew = .ok (.string ⟨l.toArray⟩) (w.drew.freeze ⟨g,0,none⟩ l.length):=by
   refine Lib.run_unsafeString_row w.drew 282 3 9 5 Tryz.underlying282 Tryz.Vp g cur.size (by have hg':w.drew.heap[g]?=some (.cells cur 5 (0,0)):=hg;simp [World.shape?,hg']) l h0 (by omega) (by unfold maxLen at hcm;omega) ?_
   intro j x hx
   exact hown.cells (g:=g) rfl j (.int .u8 x.toNat) (by simp [hx])
  go_enter Tryz.func151,Tryz.ntmps151
  go_wp2
  go_region_o
  all_goals (go_wp2;go_ret;exact ⟨rfl,Jk⟩)
theorem Tryz.TT (b:Nat) (p _q:Value) (a:Option Addr) (n c:Nat) (w:World) (hb:w.heap[b]?=some (.cells #[p, .slice a n c] 244 (0,0))) :
  Calls Tryz.prog 150 #[.pointer (some ⟨b,0,none⟩)] w fun r w'=>r = .returned (.int .i64 n)/\w'=w:=by
 have c1:w.cell? ⟨b,1,none⟩=some (.slice a n c):=by rw [Lib.cell_of_heap hb];rfl
 go_enter Tryz.func150,Tryz.ntmps150
 go_wp2
 go_ret
 exact ⟨rfl,rfl⟩
theorem Tryz.Kk:dK Tryz.prog Tryz.B.eT Tryz.X 148 false (uL 244 5):=
 Bp ⟨Tryz.f148,Tryz.func148,by kernel_rfl,by kernel_rfl⟩ Tryz.Qj
theorem Tryz.IC:dK Tryz.prog Tryz.B.eT Tryz.X 151 false (si 244 5):=
 Ag ⟨Tryz.f151,Tryz.func151,by kernel_rfl,by kernel_rfl⟩ Tryz.NL
theorem Tryz.Qk:dK Tryz.prog Tryz.B.eT Tryz.X 150 true (Bo 244 5):=
 Fv ⟨Tryz.f150,Tryz.func150,by kernel_rfl,by kernel_rfl⟩ Tryz.TT
end Go.Proofs.YtgokjhhcfemnhabGreatDoor

namespace Go.Proofs.YtgokjhhcfemnhabGreatDoor
open Go.Vg Go.Mrl
noncomputable def Tryz.ID:List (FuncId × (Bool × bQ)):=[(49,(true,aL [.str] [.err] (fun _=>True) (fun s=>aT (aG s)))),
 (50,(true,aL [.str] [.int .i64] (fun _=>True) (fun s=>aG s))),
 (156,(true,aL [.str] [.int .u32] (fun _=>True) (fun s=>(dD s:Int)))),
 (83,(true,aL [.str] [.int .i64] (fun _=>True) (fun s=>(dD s:Int)))),
 (11,(true,aL [.err, .int .i64] [.bool] (fun _=>True) (fun x=>cT x.1 x.2))),
 (148,(false,uL 244 5)),
 (151,(false,si 244 5)),
 (150,(true,Bo 244 5)),
 (61,(true,aL [.int .i64] [.str] (fun _=>True) (fun n=>Lib.itoa n))),
 (147,(true,aL [aA] [.err] (fun _=>True) (fun o=>aT (cB o)))),
 (149,(true,aL [.bool] [.str] (fun _=>True) (fun b=>fM b)))]
theorem Tryz.NM:bT Tryz.prog Tryz.B Tryz.X Tryz.ID:=
 aP (aC Tryz.iR) (aP (aC Tryz.eY) (aP (aC Tryz.jC) (aP (aC Tryz.iS) (aP (aC Tryz.jl) (aP (Tryz.Kk) (aP (Tryz.IC) (aP (Tryz.Qk) (aP (aC Tryz.oC) (aP (aC Tryz.PS) (aP (aC Tryz.Nl) (bW Tryz.bX)))))))))))
def IE (o:D aA):cN:=[
 (0,fun st=>{X:=Nat,inv:=fun i=>i<=o.1.length,bA:=fun i=>o.1.length - i,aS:=fun i=>[(23,sI i)],aX:=[1,2,3,5,6,21,22],aK:=fun i=>[(aQ st 5, .ext 2 kV (dH (kB o i),(244:Int),(5:Int),()))],eD:=[aQ st 5]}),
 (2,fun st=>{X:=Nat,inv:=fun i=>i<=o.2.1.length,bA:=fun i=>o.2.1.length - i,aS:=fun i=>[(35,sI i)],aX:=[1,2,3,5,6,33,34],aK:=fun i=>[(aQ st 5, .ext 2 kV (dH (jX o i),(244:Int),(5:Int),()))],eD:=[aQ st 5]}),
 (4,fun st=>{X:=Nat,inv:=fun i=>i<=o.2.2.1.length,bA:=fun i=>o.2.2.1.length - i,aS:=fun i=>[(49,sI i)],aX:=[1,2,3,5,6,47,48],aK:=fun i=>[(aQ st 5, .ext 2 kV (dH (iy o i),(244:Int),(5:Int),()))],eD:=[aQ st 5]}),
 (6,fun st=>{X:=Nat,inv:=fun i=>i<=o.2.2.2.1.length,bA:=fun i=>o.2.2.2.1.length - i,aS:=fun i=>[(72,sI i)],aX:=[2,3,5,6,70,71],aK:=fun i=>[(aQ st 5, .ext 2 kV (dH (eK o i),(244:Int),(5:Int),()))],eD:=[aQ st 5]})]
theorem SB (o:D aA) (hw:eE [aA] o):(cM (jV Tryz.B [41,64,91,85,104,110,123,129]) Tryz.ID Tryz.f113 (IE o) [aA] [.str, .err] (fun x y=>y=(fun o=>ku o) x) o).holds:=by
 refine holds_of (p:=
  let za:=aT (cB o)
  let zb:=ku o
  let zc:=List.length o.1
  let zd:=(↑(244:Nat):Int)
  let ze:=fun (b:UInt8)=>(↑(UInt8.toNat b):Int)
  let zf:=((244:Int),(5:Int),())
  let zg:=fun (x_0:Nat)=>(↑x_0:Int)
  let zh:=fun (x_0:Nat)=>(0:Int)<=zg x_0
  let zi:=[(110:UInt8),101,101,100,32]
  let zj:=[(10:UInt8)]
  let zk:=List.length zj
  let zl:=(244:Int)=zd
  let zm:=(↑(5:Nat):Int)
  let zn:=(5:Int)=zm
  let zo:=fun (x_0:Nat)=>List.map ze (kB o x_0)
  let zp:=fun (x_0:Nat)=>zi++nth Ty.str o.1 x_0++zj
  let zq:=fun (x_0:Nat)=>aE (zg x_0)
  let zr:=aE (1:Int)
  let zs:=fun (x_0:Nat)=>zg x_0 + (1:Int)
  let zt:=fun (x_0:Nat)=>aE (zs x_0)
  let zu:=(zd,zm,())
  let zv:=o.2.1
  let zw:=o.2.2.1
  let zx:=o.2.2.2.1
  let zy:=(o.1=o.1/\zv=zv/\zw=zw/\zx=zx/\True)/\True
  let zz:=List.length zv
  let zaa:=[(119:UInt8),111,114,100,32]
  let zab:=fun (x_1:Nat)=>zaa++Lib.itoa (nth (Ty.int IntKind.i64) zv x_1)
  let zac:=fun (x_1:Nat)=>List.map ze (jX o x_1)
  let zad:=List.length zw
  let zae:=fun (x_2:Nat)=>fM (nth aN zw x_2).2.2.1
  let zaf:=[(115:UInt8),121,109,98,111,108,32]
  let zag:=fun (x_2:Nat)=>zae x_2++zaf++(nth aN zw x_2).1
  let zah:=[(32:UInt8)]
  let zai:=List.length zah
  let zaj:=fun (x_2:Nat)=>Lib.itoa (nth aN zw x_2).2.1
  let zak:=fun (x_2:Nat)=>List.map ze (iy o x_2)
  let zal:=fun (x_2:Nat)=>zag x_2++zah++zaj x_2++zj
  let zam:=List.length zx
  let zan:=[(98:UInt8),97,115,101,32]
  let zao:=fun (x_3:Nat)=>Lib.itoa (nth aO zx x_3).1
  let zap:=fun (x_3:Nat)=>Lib.itoa (nth aO zx x_3).2.2.1
  let zaq:=fun (x_3:Nat)=>zan++zao x_3++zah++zap x_3
  let zar:=fun (x_3:Nat)=>List.map ze (eK o x_3)
  let zas:=fun (x_3:Nat)=>List.length (zar x_3)
  let zat:=fun (x_3:Nat)=>fM (nth aO zx x_3).2.2.2.2.1
  let zau:=[(119:UInt8),104,111,108,101,32]
  let zav:=fun (x_3:Nat)=>zat x_3++zau++zao x_3++zah
  let zaw:=fun (x_3:Nat)=>(nth aO zx x_3).2.2.2.1
  let zax:=fun (x_3:Nat)=>zav x_3++zap x_3++zah++zaw x_3
  let zay:=[(110:UInt8),101,97,114,32]
  let zaz:=fun (x_3:Nat)=>zat x_3++zay++zao x_3++zah
  let zba:=fun (x_3:Nat)=>zaz x_3++zap x_3++zah++zaw x_3
  (True)/\(((!bC.isNil za)=true->(([],za)=zb))/\((!bC.isNil za)=false->((zc<=aJ)->(∃(x:Nat),x<=zc/\((0:Int)=(↑x:Int)/\True)/\([],zd,(↑(5:TypeId):Int),())=(List.map ze (kB o x),zf)/\True)/\(∀x_0:Nat,((x_0<=zc)->(((decide (zg x_0 < (↑zc:Int)))=true->(zh x_0/\zg x_0 < (↑zc:Int))/\(List.length zi + List.length (nth Ty.str o.1 x_0)<=aJ)/\(List.length (zi++nth Ty.str o.1 x_0) + zk<=aJ)/\(zl/\zn/\List.length (zo x_0) + List.length (zp x_0)<=(140737488355328:Nat))/\((zq x_0)->((zr)->(zt x_0)/\(∃(x':Nat),x'<=zc/\zc - x' < zc - x_0/\(zs x_0=(↑x':Int)/\True)/\(zo x_0++List.map ze (zp x_0),zu)=(List.map ze (kB o x'),zf)/\zy))))/\((decide (zg x_0 < (↑zc:Int)))=false->((zz<=aJ)->(∃(x:Nat),x<=zz/\((0:Int)=(↑x:Int)/\True)/\(zo x_0,zf)=(List.map ze (jX o x),zf)/\True)/\(∀x_1:Nat,((x_1<=zz)->(((decide (zg x_1 < (↑zz:Int)))=true->(zh x_1/\zg x_1 < (↑zz:Int))/\(True)/\(List.length zaa + List.length (Lib.itoa (nth (Ty.int IntKind.i64) zv x_1))<=aJ)/\(List.length (zab x_1) + zk<=aJ)/\(zl/\zn/\List.length (zac x_1) + List.length (zab x_1++zj)<=(140737488355328:Nat))/\((zq x_1)->((zr)->(zt x_1)/\(∃(x':Nat),x'<=zz/\zz - x' < zz - x_1/\(zs x_1=(↑x':Int)/\True)/\(zac x_1++List.map ze (zab x_1++zj),zu)=(List.map ze (jX o x'),zf)/\zy))))/\((decide (zg x_1 < (↑zz:Int)))=false->((zad<=aJ)->(∃(x:Nat),x<=zad/\((0:Int)=(↑x:Int)/\True)/\(zac x_1,zf)=(List.map ze (iy o x),zf)/\True)/\(∀x_2:Nat,((x_2<=zad)->(((decide (zg x_2 < (↑zad:Int)))=true->(zh x_2/\zg x_2 < (↑zad:Int))/\(True)/\(List.length (zae x_2) + List.length zaf<=aJ)/\(List.length (zae x_2++zaf) + List.length (nth aN zw x_2).1<=aJ)/\(List.length (zag x_2) + zai<=aJ)/\(True)/\(List.length (zag x_2++zah) + List.length (zaj x_2)<=aJ)/\(List.length (zag x_2++zah++zaj x_2) + zk<=aJ)/\(zl/\zn/\List.length (zak x_2) + List.length (zal x_2)<=(140737488355328:Nat))/\((zq x_2)->((zr)->(zt x_2)/\(∃(x':Nat),x'<=zad/\zad - x' < zad - x_2/\(zs x_2=(↑x':Int)/\True)/\(zak x_2++List.map ze (zal x_2),zu)=(List.map ze (iy o x'),zf)/\zy))))/\((decide (zg x_2 < (↑zad:Int)))=false->((zam<=aJ)->(∃(x:Nat),x<=zam/\((0:Int)=(↑x:Int)/\True)/\(zak x_2,zf)=(List.map ze (eK o x),zf)/\True)/\(∀x_3:Nat,((x_3<=zam)->(((decide (zg x_3 < (↑zam:Int)))=true->(zh x_3/\zg x_3 < (↑zam:Int))/\((((nth aO zx x_3).2.1 == (1:Int))=true->(True)/\(List.length zan + List.length (zao x_3)<=aJ)/\(List.length (zan++zao x_3) + zai<=aJ)/\(True)/\(List.length (zan++zao x_3++zah) + List.length (zap x_3)<=aJ)/\(List.length (zaq x_3) + zk<=aJ)/\(zl/\zn/\zas x_3 + List.length (zaq x_3++zj)<=(140737488355328:Nat))/\((zq x_3)->((zr)->(zt x_3)/\(∃(x':Nat),x'<=zam/\zam - x' < zam - x_3/\(zs x_3=(↑x':Int)/\True)/\(zar x_3++List.map ze (zaq x_3++zj),zu)=(List.map ze (eK o x'),zf)/\zy))))/\(((nth aO zx x_3).2.1 == (1:Int))=false->((((nth aO zx x_3).2.1 == (2:Int))=true->(True)/\(List.length (zat x_3) + List.length zau<=aJ)/\(True)/\(List.length (zat x_3++zau) + List.length (zao x_3)<=aJ)/\(List.length (zat x_3++zau++zao x_3) + zai<=aJ)/\(True)/\(List.length (zav x_3) + List.length (zap x_3)<=aJ)/\(List.length (zav x_3++zap x_3) + zai<=aJ)/\(List.length (zav x_3++zap x_3++zah) + List.length (zaw x_3)<=aJ)/\(List.length (zax x_3) + zk<=aJ)/\(zl/\zn/\zas x_3 + List.length (zax x_3++zj)<=(140737488355328:Nat))/\((zq x_3)->((zr)->(zt x_3)/\(∃(x':Nat),x'<=zam/\zam - x' < zam - x_3/\(zs x_3=(↑x':Int)/\True)/\(zar x_3++List.map ze (zax x_3++zj),zu)=(List.map ze (eK o x'),zf)/\zy))))/\(((nth aO zx x_3).2.1 == (2:Int))=false->(True)/\(List.length (zat x_3) + List.length zay<=aJ)/\(True)/\(List.length (zat x_3++zay) + List.length (zao x_3)<=aJ)/\(List.length (zat x_3++zay++zao x_3) + zai<=aJ)/\(True)/\(List.length (zaz x_3) + List.length (zap x_3)<=aJ)/\(List.length (zaz x_3++zap x_3) + zai<=aJ)/\(List.length (zaz x_3++zap x_3++zah) + List.length (zaw x_3)<=aJ)/\(List.length (zba x_3) + zk<=aJ)/\(zl/\zn/\zas x_3 + List.length (zba x_3++zj)<=(140737488355328:Nat))/\((zq x_3)->((zr)->(zt x_3)/\(∃(x':Nat),x'<=zam/\zam - x' < zam - x_3/\(zs x_3=(↑x':Int)/\True)/\(zar x_3++List.map ze (zba x_3++zj),zu)=(List.map ze (eK o x'),zf)/\zy))))))))/\((decide (zg x_3 < (↑zam:Int)))=false->(zl/\zn)/\(((decide ((↑(zas x_3):Int) > (1200:Int)))=true->(([],bC.no (2:Int))=zb))/\((decide ((↑(zas x_3):Int) > (1200:Int)))=false->(zl/\zn)/\((bytesOf (zar x_3),bC.nil)=zb)))))))))))))))))))))))))) (by kernel_rfl) ?_
 dsimp -iota -proj -eta only
 refine ⟨trivial,iB (fun h0=>(by rw [D6 (fun e=>by rw [bJ.2 e] at h0;cases h0)])) (fun h0 h1=>⟨(⟨0,by omega,⟨rfl,trivial⟩,rfl,trivial⟩),fun x_0 q_0=>iL (fun h2=>⟨?a,?b,?c,?d,fun h3 h4=>⟨?e,(⟨x_0 + 1,by omega,by omega,⟨by omega,trivial⟩,pJ (D0 (by omega)),(by trivial)⟩)⟩⟩) (fun h2 h3=>⟨(⟨0,by omega,⟨rfl,trivial⟩,Aq (by rw [D2,show x_0=o.1.length by omega]),trivial⟩),fun x_1 q_1=>iL (fun h4=>⟨?f,trivial,?g,?h,?i,fun h5 h6=>⟨?j,(⟨x_1 + 1,by omega,by omega,⟨by omega,trivial⟩,pJ (D1 (by omega)),(by trivial)⟩)⟩⟩) (fun h4 h5=>⟨(⟨0,by omega,⟨rfl,trivial⟩,Aq (by rw [D3,show x_1=o.2.1.length by omega]),trivial⟩),fun x_2 q_2=>iL (fun h6=>⟨?k,trivial,?l,?m,?n,trivial,?o,?p,?q,fun h7 h8=>⟨?r,(⟨x_2 + 1,by omega,by omega,⟨by omega,trivial⟩,pJ (xk (by omega)),(by trivial)⟩)⟩⟩) (fun h6 h7=>⟨(⟨0,by omega,⟨rfl,trivial⟩,Aq (by rw [D4,show x_2=o.2.2.1.length by omega]),trivial⟩),fun x_3 q_3=>iL (fun h8=>⟨?s,iQ (fun h9=>⟨trivial,?t,?u,trivial,?v,?w,?x,fun h10 h11=>⟨?y,(⟨x_3 + 1,by omega,by omega,⟨by omega,trivial⟩,pJ (BG (by omega) h9),(by trivial)⟩)⟩⟩) (fun h9=>iQ (fun h10=>⟨trivial,?z,trivial,?a0,?a1,trivial,?a2,?a3,?a4,?a5,?a6,fun h11 h12=>⟨?a7,(⟨x_3 + 1,by omega,by omega,⟨by omega,trivial⟩,pJ (u4 (by omega) h9 h10),(by trivial)⟩)⟩⟩) (fun h10=>⟨trivial,?a8,trivial,?a9,?aa,trivial,?ab,?ac,?ad,?ae,?af,fun h11 h12=>⟨?ag,(⟨x_3 + 1,by omega,by omega,⟨by omega,trivial⟩,pJ (u5 (by omega) h9 h10),(by trivial)⟩)⟩⟩))⟩) (fun h8=>⟨?ah,iL (fun h9=>(by rw [BH (bJ.1 h0) (show x_3=_ by omega) (by simp only [List.length_map] at h9;omega)])) (fun h9=>⟨?ai,(by rw [u6 (bJ.1 h0) (show x_3=_ by omega) (by simp only [List.length_map] at h9;omega)];exact congrArg (·,bC.nil) (Mj _))⟩)⟩)⟩)⟩)⟩)⟩)⟩
 case a|f|k|s=>omega
 case b|c=>have a:=xm (gC (bJ.1 h0)) (i:=x_0) (by omega);simp only [List.length_append,List.length_cons,List.length_nil,List.length_map,aJ];omega
 case d|i|q|x|a6|af=>exact ⟨rfl,rfl,by first | (have a:=Ap (gC (bJ.1 h0)) (i:=x_3) (by omega);simp only [List.length_append,List.length_cons,List.length_nil,List.length_map,aJ];omega) | (have a:=Ao (gC (bJ.1 h0)) (i:=x_2) (by omega);simp only [List.length_append,List.length_cons,List.length_nil,List.length_map,aJ];omega) | (have a:=xn (gC (bJ.1 h0)) (i:=x_1) (by omega);simp only [List.length_append,List.length_cons,List.length_nil,List.length_map,aJ];omega) | (have a:=xm (gC (bJ.1 h0)) (i:=x_0) (by omega);simp only [List.length_append,List.length_cons,List.length_nil,List.length_map,aJ];omega)⟩
 case e|j|r|y|a7|ag=>simp only [aE,aJ] at *;omega
 case g|h=>have a:=xn (gC (bJ.1 h0)) (i:=x_1) (by omega);simp only [List.length_append,List.length_cons,List.length_nil,List.length_map,aJ];omega
 case l|m|n|o|p=>have a:=Ao (gC (bJ.1 h0)) (i:=x_2) (by omega);simp only [List.length_append,List.length_cons,List.length_nil,List.length_map,aJ];omega
 case t|u|v|w|z|a0|a1|a2|a3|a4|a5|a8|a9|aa|ab|ac|ad|ae=>have a:=Ap (gC (bJ.1 h0)) (i:=x_3) (by omega);simp only [List.length_append,List.length_cons,List.length_nil,List.length_map,aJ];omega
 case ah|ai=>trivial
theorem Tryz.SC:bK Tryz.prog Tryz.B.eT Tryz.X 113 [aA] [.str, .err] (fun _=>True) (fun x y=>y=(fun o=>ku o) x):=
 bM (B:=(jV Tryz.B [41,64,91,85,104,110,123,129])) (X:=Tryz.X) (bT.hint (l:=[41,64,91,85,104,110,123,129]) Tryz.NM) Tryz.func113 (by kernel_rfl) (fun x=>IE x) (fun x hw hp=>SB x hw)
end Go.Proofs.YtgokjhhcfemnhabGreatDoor

namespace Go.Proofs.YtgokjhhcfemnhabGreatDoor
open Go.Vg Go.Mrl
noncomputable def Tryz.IF:List (FuncId × (Bool × bQ)):=[(61,(true,aL [.int .i64] [.str] (fun _=>True) (fun n=>Lib.itoa n))),
 (106,(true,aL [.str] [.int .i64, .err] (fun s=>s.length<=281474976710656) (fun s=>dP s))),
 (145,(true,aL [.str, .str] [.str, .bool] (fun _=>True) (fun x=>(Lib.trimPrefix x.1 x.2,Lib.hasPrefix x.1 x.2)))),
 (64,(true,aL [.str, .str] [.str] (fun _=>True) (fun x=>Lib.trimSuffix x.1 x.2))),
 (63,(true,aL [.str, .str] [.slice .str] (fun x=>x.1.length < 4294967281/\x.2.length=1) (fun x=>parts (K8 x.2) x.1))),
 (113,(true,aL [aA] [.str, .err] (fun _=>True) (fun o=>ku o))),
 (112,(false,bF Tryz.oM [.obj 0, .d .str, .obj 5] (fun a x=>a.1.length<=1000000/\x.2.1.length<=1000000/\x.2.2.1.length<=1000000/\x.2.2.2.1.length<=1000000/\x.2.2.2.2.1.length<=1000000) Tryz.AD))]
theorem Tryz.NN:bT Tryz.prog Tryz.B Tryz.X Tryz.IF:=
 aP (aC Tryz.oC) (aP (aC Tryz.rR) (aP (aC Tryz.mX) (aP (aC Tryz.l6) (aP (aC Tryz.rS) (aP (aC Tryz.SC) (aP (Tryz.SA) (bW Tryz.bX)))))))
def IG (s:List UInt8):cN:=[(200000,fun st=>{X:=Nat × D aA × Bool,inv:=fun x=>lA (parts 10 (Lib.trimSuffix s [10])) x.1 x.2.1 x.2.2,bA:=fun x=>List.length (parts 10 (Lib.trimSuffix s [10])) - x.1,aS:=fun x=>[(19,sI x.1)],aX:=[0,2,3,4,5,17,18],aU:=Tryz.oM,refs:=[(4,0),(5,5)],pd:=fun x=>O9 x.2})]
theorem Ql (s:List UInt8) (hw:eE [.str] s):(cM Tryz.B Tryz.IF Tryz.f74 (IG s) [.str] [aA, .err] (fun x y=>y=(fun s=>mP s) x) s).holds:=by
 refine holds_of (p:=
  let za:=([],[],[],[],())
  let zb:=mP s
  let zc:=Lib.trimSuffix s [(10:UInt8)]
  let zd:=parts (10:UInt8) zc
  let ze:=@List.nil (List UInt8) = @List.nil (List UInt8)
  let zf:=@List.nil Int = @List.nil Int
  let zg:=@List.nil (List UInt8 × Int × Bool × Unit) = @List.nil (List UInt8 × Int × Bool × Unit)
  let zh:=@List.nil (Int × Int × Int × List UInt8 × Bool × Unit) = @List.nil (Int × Int × Int × List UInt8 × Bool × Unit)
  let zi:=List UInt8
  let zj:=Nat × (List zi × List Int × List (zi × Int × Bool × Unit) × List (Int × Int × Int × zi × Bool × Unit) × Unit) × Bool
  let zk:=(ze/\zf/\zg/\zh/\True)/\zh/\zg/\zf/\ze/\True
  let zl:=!false
  let zm:=(zl && (zl && (zl && (zl && (zl && true)))))=true
  let zn:=fun (x_0:Nat × (List (List UInt8) × List Int × List (List UInt8 × Int × Bool × Unit) × List (Int × Int × Int × List UInt8 × Bool × Unit) × Unit) × Bool)=>(↑x_0.1:Int) < (↑(List.length zd):Int)
  let zo:=fun (x_0:Nat × (List (List UInt8) × List Int × List (List UInt8 × Int × Bool × Unit) × List (Int × Int × Int × List UInt8 × Bool × Unit) × Unit) × Bool)=>x_0.2.1.2.2.1
  let zp:=fun (x_0:Nat × (List (List UInt8) × List Int × List (List UInt8 × Int × Bool × Unit) × List (Int × Int × Int × List UInt8 × Bool × Unit) × Unit) × Bool)=>x_0.2.1.2.2.2.1
  let zq:=fun (x_0:Nat × (List (List UInt8) × List Int × List (List UInt8 × Int × Bool × Unit) × List (Int × Int × Int × List UInt8 × Bool × Unit) × Unit) × Bool)=>gO (RA ((),x_0.2.1.1,x_0.2.1.2.1,zo x_0,zp x_0,(x_0.2.2,()),())) x_0.2.2 (nth Ty.str zd x_0.1)
  let zr:=fun (x_0:Nat × (List (List UInt8) × List Int × List (List UInt8 × Int × Bool × Unit) × List (Int × Int × Int × List UInt8 × Bool × Unit) × Unit) × Bool)=>(zq x_0).1.2.2.2.1
  let zs:=(za,bC.no (4:Int))=zb
  ((List.length s<=aJ)->(((decide ((↑(List.length s):Int) > (1200:Int)))=true->((za,bC.no (2:Int))=zb))/\((decide ((↑(List.length s):Int) > (1200:Int)))=false->(True)/\(List.length zc < (4294967281:Nat)/\List.length [(10:UInt8)]=(1:Nat))/\((List.length zd<=aJ)->(((ze/\zf/\zg/\zh/\∃(x':zj),lA zd (Prod.fst x') (Prod.snd x').1 (Prod.snd x').2/\True/\((0:Int)=(↑(Prod.fst x'):Int)/\True)/\zk/\zm/\((),[],[],[],[],(false,()),())=O9 (Prod.snd x')))/\((∀x_0:Nat × (List (List UInt8) × List Int × List (List UInt8 × Int × Bool × Unit) × List (Int × Int × Int × List UInt8 × Bool × Unit) × Unit) × Bool,((lA zd x_0.1 x_0.2.1 x_0.2.2)->(((decide (zn x_0))=true->((0:Int)<=(↑x_0.1:Int)/\zn x_0)/\(x_0.2.1.1=x_0.2.1.1)/\(x_0.2.1.2.1=x_0.2.1.2.1)/\(zo x_0=zo x_0)/\(zp x_0=zp x_0)/\(List.length (nth Ty.str zd x_0.1)<=(1000000:Nat)/\List.length x_0.2.1.1<=(1000000:Nat)/\List.length x_0.2.1.2.1<=(1000000:Nat)/\List.length (zo x_0)<=(1000000:Nat)/\List.length (zp x_0)<=(1000000:Nat))/\((True)->((aE (↑x_0.1:Int))->((aE (1:Int))->(aE ((↑x_0.1:Int) + (1:Int)))/\((zq x_0).1.1=(zq x_0).1.1/\(zq x_0).1.2.1=(zq x_0).1.2.1/\(zq x_0).1.2.2.1=(zq x_0).1.2.2.1/\zr x_0=zr x_0/\∃(x':zj),lA zd (Prod.fst x') (Prod.snd x').1 (Prod.snd x').2/\List.length zd - Prod.fst x' < List.length zd - x_0.1/\((↑x_0.1:Int) + (1:Int)=(↑(Prod.fst x'):Int)/\True)/\zk/\zm/\((),(zq x_0).1.1,(zq x_0).1.2.1,(zq x_0).1.2.2.1,zr x_0,((zq x_0).2,()),())=O9 (Prod.snd x'))))))/\((decide (zn x_0))=false->(True)/\(((x_0.2.2)=true->(zs))/\((x_0.2.2)=false->(((!bC.isNil (ku x_0.2.1).2)=true->(zs))/\((!bC.isNil (ku x_0.2.1).2)=false->(((!(ku x_0.2.1).1 == s)=true->(zs))/\((!(ku x_0.2.1).1 == s)=false->((x_0.2.1,bC.nil)=zb)))))))))))))))))) (by kernel_rfl) ?_
 dsimp -iota -proj -eta only
 refine fun h0=>iL (fun h1=>(ML (by omega))) (fun h1=>⟨trivial,(by have:=yf s [10];exact ⟨by omega,rfl⟩),fun h2=>⟨(⟨rfl,rfl,rfl,rfl,(0,bO aA,false),lA.zero _,trivial,⟨rfl,trivial⟩,⟨⟨rfl,rfl,rfl,rfl,trivial⟩,rfl,rfl,rfl,rfl,trivial⟩,rfl,rfl⟩),fun x_0 q_0=>iL (fun h3=>⟨(by omega),rfl,rfl,rfl,rfl,?a,fun h4 h5 h6=>⟨(by simp only [aE,aJ] at *;omega),(by exact ⟨rfl,rfl,rfl,rfl,(x_0.1 + 1,gO x_0.2.1 x_0.2.2 (nth .str (parts 10 (Lib.trimSuffix s [10])) x_0.1)),q_0.next (by omega),by simp only;omega,⟨by simp only;omega,trivial⟩,(by trivial),rfl,rfl⟩)⟩⟩) (fun h3=>⟨trivial,⟨fun h4=>(xu q_0 (by omega) (by omega) (.inl h4)),fun h4=>iB (fun h5=>(xu q_0 (by omega) (by omega) (.inr (.inl h5)))) (fun h5=>⟨fun h6 => ?b,fun h6 => ?c⟩)⟩⟩)⟩⟩)
 case a=>
  have hf:=Pb s (by omega);have a0:=q_0.le;have a1:=q_0.l1;have a2:=q_0.l2;have a3:=q_0.l3;have a4:=q_0.l4
  exact ⟨Nat.le_trans (MM (by omega) _) (by decide),by omega,by omega,by omega,by omega⟩
 case b=>
  simp only [bl,reduceCtorEq] at h6
  exact xu q_0 (by omega) (by omega) (.inr (.inr h6))
 case c=>
  simp only [bl,reduceCtorEq] at h6
  exact RC (by omega) ‹bC.isNil _=true› h6
theorem Tryz.E3:bK Tryz.prog Tryz.B.eT Tryz.X 74 [.str] [aA, .err] (fun _=>True) (fun x y=>y=(fun s=>mP s) x):=
 bM (X:=Tryz.X) Tryz.NN Tryz.func74 (by kernel_rfl) (fun x=>IG x) (fun x hw hp=>Ql x hw)
end Go.Proofs.YtgokjhhcfemnhabGreatDoor

namespace Go.Proofs.YtgokjhhcfemnhabGreatDoor
open Go.Vg Go.Mrl
noncomputable def Tryz.Qm:List (FuncId × (Bool × bQ)):=[(70,(false,bF Tryz.aY [.obj 0, .d .str] (fun _ _=>True) Tryz.mW)),
 (74,(true,aL [.str] [aA, .err] (fun _=>True) (fun s=>mP s))),
 (141,(true,aL [.slice .str, .str] [.bool] (fun _=>True) (fun x=>x.1.any (· == x.2))))]
theorem Tryz.SD:bT Tryz.prog Tryz.B Tryz.X Tryz.Qm:=
 aP (Tryz.rQ) (aP (aC Tryz.E3) (aP (aC Tryz.xL) (bW Tryz.bX)))
def Tryz.Qn (s:List UInt8) (f:ja):cN:=[
 (0,fun st=>{X:=Nat × List (List UInt8) × List (D aA),inv:=fun y=>jO (bH f) s y.1 y.2.1 y.2.2,bA:=fun y=>7 - y.1,aS:=fun y=>[(9,sI y.1),(7, .s (.one (.app .str y.2.1 (aQ st 7)))),(8, .s (.one (.app aA y.2.2 (aQ st 8))))],aK:=fun y=>[(aQ st 7, .tok .str y.2.1),(aQ st 8, .tok aA y.2.2)],aX:=[0],eD:=[aQ st 7,aQ st 8]}),
 (2,fun st=>{X:=Nat,inv:=fun k=>k<=List.length (aZ (.slice .str) st 50),bA:=fun k=>List.length (aZ (.slice .str) st 50) - k,aS:=fun k=>[(52,sI k),(7, .s (.one (.app .str (eN (aZ (.slice .str) st 7) (List.take k (aZ (.slice .str) st 50))) (aQ st 7))))],aK:=fun k=>[(aQ st 7, .tok .str (eN (aZ (.slice .str) st 7) (List.take k (aZ (.slice .str) st 50))))],aX:=[0,4,5,6,8,9,10,12,13,18,19,20,21,24,25,26,27,28,29,30,31,32,33,34,35,36,37,38,39,40,41,42,43,44,45,46,47,48,49,50,51],eD:=[aQ st 7]})]
noncomputable def Tryz.Da:List (Alt Tryz.aY [.obj 0, .d .str]):=[{cG:=Tryz.aY,res:=[.d (.slice .str), .d (.slice aA), .d .err],out:=fun _ x=>x,ret:=fun a x=>((aR (bH x) a.1).1,(aR (bH x) a.1).2.1,aT (aR (bH x) a.1).2.2,())}]
theorem Kl (s:List UInt8) (f:ja) (hw:kn [.obj 0, .d .str] (s,())) (hp:(fun _ x=>x.2.1.1.length<=6) (s,()) f):(fD (jV Tryz.B [17]) Tryz.Qm Tryz.f108 (Tryz.Qn s f) Tryz.aY [.obj 0, .d .str] Tryz.Da (s,()) f).holds:=by
 refine holds_of (p:=
  let za:=List UInt8
  let zb:=Nat × List za × List (List za × List Int × List (za × Int × Bool × Unit) × List (Int × Int × Int × za × Bool × Unit) × Unit)
  let zc:=bH f
  let zd:=fun (x_0:Nat × List (List UInt8) × List (List (List UInt8) × List Int × List (List UInt8 × Int × Bool × Unit) × List (Int × Int × Int × List UInt8 × Bool × Unit) × Unit))=>(↑x_0.1:Int) < (↑(List.length x_0.2.1):Int)
  let ze:=fun (x_0:Nat × List (List UInt8) × List (List (List UInt8) × List Int × List (List UInt8 × Int × Bool × Unit) × List (Int × Int × Int × List UInt8 × Bool × Unit) × Unit))=>bH f (nth Ty.str x_0.2.1 x_0.1)
  let zf:=aR zc s
  let zg:=(zf.1,zf.2.1,aT zf.2.2,())
  let zh:=fun (x_0:Nat × List (List UInt8) × List (List (List UInt8) × List Int × List (List UInt8 × Int × Bool × Unit) × List (Int × Int × Int × List UInt8 × Bool × Unit) × Unit))=>(bP (ze x_0).1).1.1
  let zi:=fun (x_0:Nat × List (List UInt8) × List (List (List UInt8) × List Int × List (List UInt8 × Int × Bool × Unit) × List (Int × Int × Int × List UInt8 × Bool × Unit) × Unit))=>List.length (zh x_0)
  let zj:=fun (x_0:Nat × List (List UInt8) × List (List (List UInt8) × List Int × List (List UInt8 × Int × Bool × Unit) × List (Int × Int × Int × List UInt8 × Bool × Unit) × Unit)) (x_1:Nat)=>eN x_0.2.1 (List.take x_1 (zh x_0))
  let zk:=aE (1:Int)
  let zl:=fun (x_1:Nat)=>(↑x_1:Int) + (1:Int)
  let zm:=@List.nil (List UInt8) = @List.nil (List UInt8)
  let zn:=C.eZ (1:Nat)=C.eZ (1:Nat)/\f.1.1=f.1.1/\True
  let zo:=f.2.1=f.2.1
  let zp:=fun (x_0:Nat × List (List UInt8) × List (List (List UInt8) × List Int × List (List UInt8 × Int × Bool × Unit) × List (Int × Int × Int × List UInt8 × Bool × Unit) × Unit))=>x_0.2.2++[(bP (ze x_0).1).1]
  let zq:=@List.nil (List (List UInt8) × List Int × List (List UInt8 × Int × Bool × Unit) × List (Int × Int × Int × List UInt8 × Bool × Unit) × Unit) = @List.nil (List (List UInt8) × List Int × List (List UInt8 × Int × Bool × Unit) × List (Int × Int × Int × List UInt8 × Bool × Unit) × Unit)
  let zr:=fun (x_0:Nat × List (List UInt8) × List (List (List UInt8) × List Int × List (List UInt8 × Int × Bool × Unit) × List (Int × Int × Int × List UInt8 × Bool × Unit) × Unit))=>(zh x_0=zh x_0/\(bP (ze x_0).1).1.2.1=(bP (ze x_0).1).1.2.1/\(bP (ze x_0).1).1.2.2.1=(bP (ze x_0).1).1.2.2.1/\(bP (ze x_0).1).1.2.2.2.1=(bP (ze x_0).1).1.2.2.2.1/\True)/\@List.nil (Int × Int × Int × List UInt8 × Bool × Unit) = @List.nil (Int × Int × Int × List UInt8 × Bool × Unit)/\@List.nil (List UInt8 × Int × Bool × Unit) = @List.nil (List UInt8 × Int × Bool × Unit)/\@List.nil Int = @List.nil Int/\zm/\zn/\zo/\zp x_0=zp x_0/\zq/\zm/\True
  (∃(x:zb),jO zc s (Prod.fst x) (Prod.snd x).1 (Prod.snd x).2/\((0:Int)=(↑(Prod.fst x):Int)/\[s]=(Prod.snd x).1/\@List.nil (List (List UInt8) × List Int × List (List UInt8 × Int × Bool × Unit) × List (Int × Int × Int × List UInt8 × Bool × Unit) × Unit)=(Prod.snd x).2/\True)/\[s]=(Prod.snd x).1/\@List.nil (List (List UInt8) × List Int × List (List UInt8 × Int × Bool × Unit) × List (Int × Int × Int × List UInt8 × Bool × Unit) × Unit)=(Prod.snd x).2/\True)/\(∀x_0:Nat × List (List UInt8) × List (List (List UInt8) × List Int × List (List UInt8 × Int × Bool × Unit) × List (Int × Int × Int × List UInt8 × Bool × Unit) × Unit),((jO zc s x_0.1 x_0.2.1 x_0.2.2)->((List.length x_0.2.1<=aJ)->(((decide (zd x_0))=true->((0:Int)<=(↑x_0.1:Int)/\zd x_0)/\(True)/\((True)->(((!bC.isNil (aT (ze x_0).2.2))=true->(True/\f=f/\([],[],aT (ze x_0).2.2,())=zg))/\((!bC.isNil (aT (ze x_0).2.2))=false->(True)/\(((!bC.isNil (aT (bP (ze x_0).1).2))=true->(True/\f=f/\([],[],aT (bP (ze x_0).1).2,())=zg))/\((!bC.isNil (aT (bP (ze x_0).1).2))=false->(x_0.2.2=x_0.2.2/\List.length x_0.2.2 + List.length [(bP (ze x_0).1).1]<=(1000000000:Nat))/\((zi x_0<=aJ)->(∃(x:Nat),x<=zi x_0/\((0:Int)=(↑x:Int)/\x_0.2.1=eN x_0.2.1 (List.take x (zh x_0))/\True)/\x_0.2.1=eN x_0.2.1 (List.take x (zh x_0))/\True)/\(∀x_1:Nat,((x_1<=zi x_0)->(((decide ((↑x_1:Int) < (↑(zi x_0):Int)))=true->((0:Int)<=(↑x_1:Int)/\(↑x_1:Int) < (↑(zi x_0):Int))/\(True)/\(((!List.any (zj x_0 x_1) fun (x:za)=>x == nth Ty.str (zh x_0) x_1)=true->(zj x_0 x_1=zj x_0 x_1/\List.length (zj x_0 x_1) + List.length [nth Ty.str (zh x_0) x_1]<=(1000000000:Nat))/\((aE (↑x_1:Int))->((zk)->(aE (zl x_1))/\(∃(x':Nat),x'<=zi x_0/\zi x_0 - x' < zi x_0 - x_1/\(zl x_1=(↑x':Int)/\zj x_0 x_1++[nth Ty.str (zh x_0) x_1]=eN x_0.2.1 (List.take x' (zh x_0))/\True)/\zj x_0 x_1++[nth Ty.str (zh x_0) x_1]=eN x_0.2.1 (List.take x' (zh x_0))/\zr x_0))))/\((!List.any (zj x_0 x_1) fun (x:za)=>x == nth Ty.str (zh x_0) x_1)=false->((aE (↑x_1:Int))->((zk)->(aE (zl x_1))/\(∃(x':Nat),x'<=zi x_0/\zi x_0 - x' < zi x_0 - x_1/\(zl x_1=(↑x':Int)/\zj x_0 x_1=eN x_0.2.1 (List.take x' (zh x_0))/\True)/\zj x_0 x_1=eN x_0.2.1 (List.take x' (zh x_0))/\zr x_0))))))/\((decide ((↑x_1:Int) < (↑(zi x_0):Int)))=false->((aE (↑x_0.1:Int))->((zk)->(aE ((↑x_0.1:Int) + (1:Int)))/\(∃(x':zb),jO zc s (Prod.fst x') (Prod.snd x').1 (Prod.snd x').2/\(7:Nat) - Prod.fst x' < (7:Nat) - x_0.1/\((↑x_0.1:Int) + (1:Int)=(↑(Prod.fst x'):Int)/\zj x_0 x_1=(Prod.snd x').1/\zp x_0=(Prod.snd x').2/\True)/\zj x_0 x_1=(Prod.snd x').1/\zp x_0=(Prod.snd x').2/\zq/\zm/\zn/\zo/\True))))))))))))))/\((decide (zd x_0))=false->(True/\f=f/\(x_0.2.1,x_0.2.2,bC.nil,())=zg))))))) (by kernel_rfl) ?_
 dsimp -iota -proj -eta only
 refine ⟨(⟨(0,[s],[]),jO.zero _ _,⟨rfl,rfl,rfl,trivial⟩,(by trivial)⟩),fun x_0 q_0 h0=>iL (fun h1=>⟨?a,trivial,fun h2=>iB (fun h3=>(by rw [q_0.Ht (kT hp) (by omega) (fun e=>by rw [bJ.2 e] at h3;cases h3)];exact ⟨trivial,rfl,rfl⟩)) (fun h3=>⟨trivial,iB (fun h4=>(by rw [q_0.Ll (by omega) (bJ.1 h3) (fun e=>by rw [bJ.2 e] at h4;cases h4)];exact ⟨trivial,rfl,rfl⟩)) (fun h4=>⟨⟨rfl,q_0.UJ⟩,fun h5=>⟨(⟨0,Nat.zero_le _,⟨rfl,rfl,trivial⟩,rfl,trivial⟩),fun x_1 q_1=>iL (fun h6=>⟨?b,trivial,iB (fun h7=>⟨⟨rfl,q_0.Ph (kT hp) (q8 (bJ.1 h3) (bJ.1 h4)) _⟩,fun h8 h9=>⟨?c,(⟨x_1 + 1,by omega,by omega,⟨by omega,yh (by omega) (by assumption),trivial⟩,yh (by omega) (by assumption),(by trivial)⟩)⟩⟩) (fun h7 h8 h9=>⟨?d,(⟨x_1 + 1,by omega,by omega,⟨by omega,yi (by omega) (by assumption),trivial⟩,yi (by omega) (by assumption),(by trivial)⟩)⟩)⟩) (fun h6 h7 h8=>⟨?e,(by exact ⟨(x_0.1 + 1,_,_),q_0.next (kT hp) (by omega) (q8 (bJ.1 h3) (bJ.1 h4)),by have:=q_0.room (kT hp) (by omega) (q8 (bJ.1 h3) (bJ.1 h4));simp only;omega,⟨by simp only;omega,yj (by omega),rfl,trivial⟩,yj (by omega),rfl,(by trivial)⟩)⟩)⟩⟩)⟩)⟩) (fun h1=>(by rw [q_0.done (by omega)];exact ⟨trivial,rfl,rfl⟩))⟩
 case a|b=>omega
 case c|d|e=>simp only [aE,aJ] at *;omega
theorem Tryz.Km:dK Tryz.prog Tryz.B.eT Tryz.X 108 false (bF Tryz.aY [.obj 0, .d .str] (fun _ x=>x.2.1.1.length<=6) Tryz.Da):=
 cH (B:=(jV Tryz.B [17])) (X:=Tryz.X) (bT.hint (l:=[17]) Tryz.SD) Tryz.func108 (by kernel_rfl) (fun (a:CD [.obj 0, .d .str]) (x:PD Tryz.aY)=>Tryz.Qn a.1 x) (fun (a:CD [.obj 0, .d .str]) (x:PD Tryz.aY) hw hp=>Kl a.1 x hw hp)
end Go.Proofs.YtgokjhhcfemnhabGreatDoor

namespace Go.Proofs.YtgokjhhcfemnhabGreatDoor
open Go.Vg Go.Mrl
def Qo (w:List (List Int)) (l:List (D aH)):cN:=[
 (200000,fun st=>{X:=Nat,inv:=fun i=>i<=w.length,bA:=fun i=>w.length - i,aS:=fun i=>[(13,sI i)],aU:=[.ext 0 lY],refs:=[(6,0)],pd:=fun i=>(w.take i,()),aX:=[1,4,5,11,12]}),
 (2,fun st=>{X:=Nat,inv:=fun k=>k<=l.length/\∀j,j < k->oH w (nth aH l j),bA:=fun k=>l.length - k,aS:=fun k=>[(25,sI k)],aK:=fun k=>[(aQ st 6, .ext 0 lY (gy w (l.take k)))],aX:=[6,23,24],eD:=[aQ st 6]})]
theorem UZ (w:List (List Int)) (l:List (D aH)) (hw:eE [lY, .slice aH] (w,l)) (hp:(fun x=>x.1.length<=100000/\∀i,i < x.1.length->(nth fV x.1 i).length<=100000000) (w,l)):(cM (jV Tryz.B [6]) [] Tryz.f114 (Qo w l) [lY, .slice aH] [lY, .err] (fun x y=>y=(fun x=>iY x) x) (w,l)).holds:=by
 refine holds_of (p:=
  let za:=List.length w
  let zb:=@List.nil (List Int) = @List.nil (List Int)/\True
  let zc:=(!false && true)=true
  let zd:=fun (x_0:Nat)=>[nth (Ty.slice (Ty.int IntKind.i64)) w x_0]
  let ze:=fun (x_0:Nat)=>(↑x_0:Int) + (1:Int)
  let zf:=List.length l
  let zg:=fun (x_1:Nat)=>(nth aH l x_1).1
  let zh:=([],bC.no (1:Int))=iY (w,l)
  let zi:=fun (x_1:Nat)=>gy w (List.take x_1 l)
  let zj:=fun (x_1:Nat)=>(nth aH l x_1).2.1
  let zk:=fun (x_1:Nat)=>(0:Int)<=zg x_1/\zg x_1 < (↑(List.length (zi x_1)):Int)
  let zl:=fun (x_1:Nat)=>Int.toNat (zg x_1) < List.length (zi x_1)
  let zm:=fun (x_1:Nat)=>nth fV (zi x_1) (Int.toNat (zg x_1))
  ((za<=aJ)->(((∃(x':Nat),x'<=za/\True/\((0:Int)=(↑x':Int)/\True)/\zb/\zc/\([],())=(List.take x' w,())))/\((∀x_0:Nat,((x_0<=za)->(((decide ((↑x_0:Int) < (↑za:Int)))=true->((0:Int)<=(↑x_0:Int)/\(↑x_0:Int) < (↑za:Int))/\(List.length (nth (Ty.slice (Ty.int IntKind.i64)) w x_0)<=(1000000000:Nat))/\((0:Nat) < List.length (zd x_0)/\List.length (List.take x_0 w) + List.length (zd x_0)<=(1000000000:Nat))/\((aE (↑x_0:Int))->((aE (1:Int))->(aE (ze x_0))/\(∃(x':Nat),x'<=za/\za - x' < za - x_0/\(ze x_0=(↑x':Int)/\True)/\zb/\zc/\(List.take x_0 w++zd x_0,())=(List.take x' w,())))))/\((decide ((↑x_0:Int) < (↑za:Int)))=false->((zf<=aJ)->(∃(x:Nat),(x<=zf/\∀(j:Nat),j < x->oH w (nth aH l j))/\((0:Int)=(↑x:Int)/\True)/\List.take x_0 w=gy w (List.take x l)/\True)/\(∀x_1:Nat,((x_1<=zf/\∀(j:Nat),j < x_1->oH w (nth aH l j))->(((decide ((↑x_1:Int) < (↑zf:Int)))=true->((0:Int)<=(↑x_1:Int)/\(↑x_1:Int) < (↑zf:Int))/\(((decide (zg x_1 < (0:Int)))=true->(zh))/\((decide (zg x_1 < (0:Int)))=false->((List.length (zi x_1)<=aJ)->(((decide (zg x_1>=(↑(List.length (zi x_1)):Int)))=true->(zh))/\((decide (zg x_1>=(↑(List.length (zi x_1)):Int)))=false->(((decide (zj x_1 < (0:Int)))=true->(zh))/\((decide (zj x_1 < (0:Int)))=false->(zk x_1)/\(zl x_1)/\(zl x_1)/\((List.length (zm x_1)<=aJ)->(((decide (zj x_1>=(↑(List.length (zm x_1)):Int)))=true->(zh))/\((decide (zj x_1>=(↑(List.length (zm x_1)):Int)))=false->(zk x_1)/\(zl x_1)/\(zl x_1/\(0:Int)<=zj x_1/\zj x_1 < (↑(List.length (zm x_1)):Int))/\(zl x_1/\Int.toNat (zj x_1) < List.length (zm x_1))/\((aE (↑x_1:Int))->((aE (1:Int))->(aE (ze x_1))/\(∃(x':Nat),(x'<=zf/\∀(j:Nat),j < x'->oH w (nth aH l j))/\zf - x' < zf - x_1/\(ze x_1=(↑x':Int)/\True)/\List.set (zi x_1) (Int.toNat (zg x_1)) (List.set (zm x_1) (Int.toNat (zj x_1)) (nth aH l x_1).2.2.1)=gy w (List.take x' l)/\zb))))))))))))))/\((decide ((↑x_1:Int) < (↑zf:Int)))=false->((zi x_1,bC.nil)=iY (w,l))))))))))))))) (by kernel_rfl) ?_
 dsimp -iota -proj -eta only
 dsimp only at hp
 refine fun h0=>⟨(⟨0,by omega,trivial,⟨rfl,trivial⟩,⟨rfl,trivial⟩,rfl,rfl⟩),fun x_0 q_0=>iL (fun h1=>⟨?a,(by have:=hp.2 x_0 (by omega);show List.length (nth fV w x_0)<=1000000000;omega),(by have:=hp.1;simp only [List.length_singleton,List.length_take,aJ];omega),fun h2 h3=>⟨?b,(⟨x_0 + 1,by omega,by omega,⟨by omega,trivial⟩,⟨rfl,trivial⟩,rfl,by rw [iV (t:=fV) (by omega)]⟩)⟩⟩) (fun h1 h2=>⟨(by exact ⟨0,⟨by omega,fun j hj=>by omega⟩,⟨rfl,trivial⟩,by rw [List.take_of_length_le (by omega)];rfl,trivial⟩),fun x_1 q_1=>iL (fun h3=>⟨?c,iL (fun h4 => ?d) (fun h4 h5=>iE (fun h6 => ?e) (fun h6=>iL (fun h7 => ?f) (fun h7=>⟨?g,?h,?i,fun h8=>iE (fun h9 => ?j) (fun h9=>⟨?k,?l,?m,?n,fun h10 h11=>⟨?o,?p⟩⟩)⟩)))⟩) (fun h3=>(by rw [tJ fun i hi=>q_1.2 i (by omega),List.take_of_length_le (by omega)]))⟩)⟩
 case a|c=>omega
 case b|o=>simp only [aE,aJ] at *;omega
 case d|e|f|j=>
  have hr:=sq (l.take x_1) w (nth aH l x_1).1.toNat;have hll:=nP (l.take x_1) w
  exact (GV (i:=x_1) (by omega) (by unfold oH;dsimp only [D] at *;omega)).symm
 case g|h|i|k|l|m|n=>
  have hr:=sq (l.take x_1) w (nth aH l x_1).1.toNat;have hll:=nP (l.take x_1) w
  first | omega | (dsimp only [D] at *;omega)
 case p=>
  have hr:=sq (l.take x_1) w (nth aH l x_1).1.toNat;have hll:=nP (l.take x_1) w
  exact ⟨x_1 + 1,⟨by omega,jA q_1.2 (by unfold oH;dsimp only [D] at *;omega)⟩,by omega,⟨by omega,trivial⟩,DJ (by omega),(by trivial)⟩
theorem Tryz.U0:bK Tryz.prog Tryz.B.eT Tryz.X 114 [lY, .slice aH] [lY, .err] (fun x=>x.1.length<=100000/\∀i,i < x.1.length->(nth fV x.1 i).length<=100000000) (fun x y=>y=(fun x=>iY x) x):=
 bM (B:=(jV Tryz.B [6])) (X:=Tryz.X) (bT.hint (l:=[6]) (bW Tryz.bX)) Tryz.func114 (by kernel_rfl) (fun x=>Qo x.1 x.2) (fun x hw hp=>UZ x.1 x.2 hw hp)
end Go.Proofs.YtgokjhhcfemnhabGreatDoor

namespace Go.Proofs.YtgokjhhcfemnhabGreatDoor
open Go.Vg Go.Mrl
def IH (l:List (D aA)):cN:=[
 (0,fun st=>{X:=Nat,inv:=fun i=>i<=l.length,bA:=fun i=>l.length - i,aS:=fun i=>[(8,sI i),(3, .s (.one (.app (.int .i64) (cC (l.take i)) (aQ st 3))))],aK:=fun i=>[(aQ st 3, .tok (.int .i64) (cC (l.take i)))],aX:=[2,6,7],eD:=[aQ st 3]})]
theorem Qp (l:List (D aA)) (hw:eE [.slice aA] l) (hp:(fun l=>l.length<=1000) l):(cM Tryz.B [] Tryz.f110 (IH l) [.slice aA] [.slice (.int .i64)] (fun x y=>y=(fun l=>cC l) x) l).holds:=by
 refine holds_of (p:=
  let za:=List.length l
  let zb:=fun (x_0:Nat)=>List.length (nth aA l x_0).2.1
  let zc:=fun (x_0:Nat)=>cC (List.take x_0 l)
  let zd:=fun (x_0:Nat)=>zc x_0++[(↑(zb x_0):Int)]
  ((za<=aJ)->(∃(x:Nat),x<=za/\((0:Int)=(↑x:Int)/\@List.nil Int=cC (List.take x l)/\True)/\@List.nil Int=cC (List.take x l)/\True)/\(∀x_0:Nat,((x_0<=za)->(((decide ((↑x_0:Int) < (↑za:Int)))=true->((0:Int)<=(↑x_0:Int)/\(↑x_0:Int) < (↑za:Int))/\((zb x_0<=aJ)->(zc x_0=zc x_0/\List.length (zc x_0) + List.length [(↑(zb x_0):Int)]<=(1000000000:Nat))/\((aE (↑x_0:Int))->((aE (1:Int))->(aE ((↑x_0:Int) + (1:Int)))/\(∃(x':Nat),x'<=za/\za - x' < za - x_0/\((↑x_0:Int) + (1:Int)=(↑x':Int)/\zd x_0=cC (List.take x' l)/\True)/\zd x_0=cC (List.take x' l)/\@List.nil Int = @List.nil Int/\True)))))/\((decide ((↑x_0:Int) < (↑za:Int)))=false->(zc x_0=cC l))))))) (by kernel_rfl) ?_
 dsimp -iota -proj -eta only
 exact fun h0=>⟨(⟨0,by omega,⟨rfl,rfl,trivial⟩,rfl,trivial⟩),fun x_0 q_0=>iL (fun h1=>⟨(by omega),fun h2=>⟨(by exact ⟨rfl,by rw [BV,List.length_take];simp only [List.length_singleton];omega⟩),fun h3 h4=>⟨(by simp only [aE,aJ] at *;omega),(⟨x_0 + 1,by omega,by omega,⟨by omega,(pZ (by omega)).symm,trivial⟩,(pZ (by omega)).symm,(by trivial)⟩)⟩⟩⟩) (fun h1=>(by rw [List.take_of_length_le (by omega)]))⟩
theorem Tryz.Qq:bK Tryz.prog Tryz.B.eT Tryz.X 110 [.slice aA] [.slice (.int .i64)] (fun l=>l.length<=1000) (fun x y=>y=(fun l=>cC l) x):=
 bM (X:=Tryz.X) (bW Tryz.bX) Tryz.func110 (by kernel_rfl) (fun x=>IH x) (fun x hw hp=>Qp x hw hp)
def II (l:List (D aA)):cN:=[
 (0,fun st=>{X:=Nat,inv:=fun i=>i<=l.length,bA:=fun i=>l.length - i,aS:=fun i=>[(8,sI i),(3, .s (.one (.app fV (bU (l.take i)) (aQ st 3))))],aK:=fun i=>[(aQ st 3, .tok fV (bU (l.take i)))],aX:=[2,6,7],eD:=[aQ st 3]})]
theorem Qr (l:List (D aA)) (hw:eE [.slice aA] l) (hp:(fun l=>l.length<=1000) l):(cM Tryz.B [] Tryz.f115 (II l) [.slice aA] [lY] (fun x y=>y=(fun l=>bU l) x) l).holds:=by
 refine holds_of (p:=
  let za:=List.length l
  let zb:=fun (x_0:Nat)=>bU (List.take x_0 l)
  let zc:=fun (x_0:Nat)=>zb x_0++[(nth aA l x_0).2.1]
  ((za<=aJ)->(∃(x:Nat),x<=za/\((0:Int)=(↑x:Int)/\@List.nil (List Int)=bU (List.take x l)/\True)/\@List.nil (List Int)=bU (List.take x l)/\True)/\(∀x_0:Nat,((x_0<=za)->(((decide ((↑x_0:Int) < (↑za:Int)))=true->((0:Int)<=(↑x_0:Int)/\(↑x_0:Int) < (↑za:Int))/\(zb x_0=zb x_0/\List.length (zb x_0) + List.length [(nth aA l x_0).2.1]<=(1000000000:Nat))/\((aE (↑x_0:Int))->((aE (1:Int))->(aE ((↑x_0:Int) + (1:Int)))/\(∃(x':Nat),x'<=za/\za - x' < za - x_0/\((↑x_0:Int) + (1:Int)=(↑x':Int)/\zc x_0=bU (List.take x' l)/\True)/\zc x_0=bU (List.take x' l)/\@List.nil (List Int) = @List.nil (List Int)/\True))))/\((decide ((↑x_0:Int) < (↑za:Int)))=false->(zb x_0=bU l))))))) (by kernel_rfl) ?_
 dsimp -iota -proj -eta only
 exact fun h0=>⟨(⟨0,by omega,⟨rfl,rfl,trivial⟩,rfl,trivial⟩),fun x_0 q_0=>iL (fun h1=>⟨(by omega),(by exact ⟨rfl,by rw [lS,List.length_take];simp only [List.length_singleton];omega⟩),fun h2 h3=>⟨(by simp only [aE,aJ] at *;omega),(⟨x_0 + 1,by omega,by omega,⟨by omega,(yW (by omega)).symm,trivial⟩,(yW (by omega)).symm,(by trivial)⟩)⟩⟩) (fun h1=>(by rw [List.take_of_length_le (by omega)]))⟩
theorem Tryz.Qs:bK Tryz.prog Tryz.B.eT Tryz.X 115 [.slice aA] [lY] (fun l=>l.length<=1000) (fun x y=>y=(fun l=>bU l) x):=
 bM (X:=Tryz.X) (bW Tryz.bX) Tryz.func115 (by kernel_rfl) (fun x=>II x) (fun x hw hp=>Qr x hw hp)
noncomputable def Tryz.Qt:List (FuncId × (Bool × bQ)):=[(115,(true,aL [.slice aA] [lY] (fun l=>l.length<=1000) (fun l=>bU l))),
 (114,(true,aL [lY, .slice aH] [lY, .err] (fun x=>x.1.length<=100000/\∀i,i < x.1.length->(nth fV x.1 i).length<=100000000) (fun x=>iY x)))]
theorem Tryz.SE:bT Tryz.prog Tryz.B Tryz.X Tryz.Qt:=
 aP (aC Tryz.Qs) (aP (aC Tryz.U0) (bW Tryz.bX))
noncomputable def Qu (ns:List (List UInt8)) (bs:List Int) (os:List (D aA)) (ps:List (D aH)):cN:=[
 (0,fun st=>{X:=Nat,inv:=fun i=>i<=os.length,bA:=fun i=>os.length - i,aS:=fun i=>[(39,sI i),(12, .s (.one (.app bR (eC ns bs (iY (bU os,ps)).1 i) (aQ st 12))))],aK:=fun i=>[(aQ st 12, .tok bR (eC ns bs (iY (bU os,ps)).1 i))],aX:=[0,1,8,9,10,38],eD:=[aQ st 12]})]
theorem U1 (ns:List (List UInt8)) (bs:List Int) (os:List (D aA)) (ps:List (D aH)) (hw:eE [.slice .str, .slice (.int .i64), .slice aA, .slice aH] (ns,bs,os,ps)) (hp:(fun x=>x.2.2.1.length<=1000/\∀i,i < x.2.2.1.length->(nth aA x.2.2.1 i).2.1.length<=1000) (ns,bs,os,ps)):(cM Tryz.B Tryz.Qt Tryz.f75 (Qu ns bs os ps) [.slice .str, .slice (.int .i64), .slice aA, .slice aH] [.slice bR, .err] (fun x y=>y=(fun x=>ko x.1 x.2.1 x.2.2.1 x.2.2.2) x) (ns,bs,os,ps)).holds:=by
 refine holds_of (p:=
  let za:=List.length os
  let zb:=za<=aJ
  let zc:=(↑(List.length ns):Int)
  let zd:=(↑za:Int)
  let ze:=ko ns bs os ps
  let zf:=([],bC.no (3:Int))=ze
  let zg:=(↑(List.length bs):Int)
  let zh:=bU os
  let zi:=iY (zh,ps)
  let zj:=(iY (zh,ps)).1
  let zk:=fun (x_0:Nat)=>(↑x_0:Int)
  let zl:=fun (x_0:Nat)=>(0:Int)<=zk x_0
  let zm:=fun (x_0:Nat)=>eC ns bs zj x_0
  let zn:=fun (x_0:Nat)=>[(nth Ty.str ns x_0,nth (Ty.int IntKind.i64) bs x_0,nth (Ty.slice (Ty.int IntKind.i64)) zi.1 x_0,())]
  ((List.length ns<=aJ)->((zb)->(((zc != zd)=true->(zf))/\((zc != zd)=false->((List.length bs<=aJ)->((zb)->(((zg != zd)=true->(zf))/\((zg != zd)=false->(za<=(1000:Nat))/\(List.length zh<=(100000:Nat)/\∀(i:Nat),i < List.length zh->List.length (nth fV zh i)<=(100000000:Nat))/\(((!bC.isNil zi.2)=true->(([],zi.2)=ze))/\((!bC.isNil zi.2)=false->((zb)->(∃(x:Nat),x<=za/\((0:Int)=(↑x:Int)/\@List.nil (List UInt8 × Int × List Int × Unit)=eC ns bs zj x/\True)/\@List.nil (List UInt8 × Int × List Int × Unit)=eC ns bs zj x/\True)/\(∀x_0:Nat,((x_0<=za)->(((decide (zk x_0 < zd))=true->(zl x_0/\zk x_0 < zc)/\(zl x_0/\zk x_0 < zg)/\(zl x_0/\zk x_0 < (↑(List.length zi.1):Int))/\(zm x_0=zm x_0/\List.length (zm x_0) + List.length (zn x_0)<=(1000000000:Nat))/\((aE (zk x_0))->((aE (1:Int))->(aE (zk x_0 + (1:Int)))/\(∃(x':Nat),x'<=za/\za - x' < za - x_0/\(zk x_0 + (1:Int)=(↑x':Int)/\zm x_0++zn x_0=eC ns bs zj x'/\True)/\zm x_0++zn x_0=eC ns bs zj x'/\@List.nil (List UInt8 × Int × List Int × Unit) = @List.nil (List UInt8 × Int × List Int × Unit)/\True))))/\((decide (zk x_0 < zd))=false->((zm x_0,bC.nil)=ze))))))))))))))))) (by kernel_rfl) ?_
 dsimp -iota -proj -eta only
 dsimp only at hp
 refine fun h0 h1=>iN (fun h2=>((BW (.inl (by omega))).symm)) (fun h2 h3 h4=>iN (fun h5=>((BW (.inr (by omega))).symm)) (fun h5=>⟨?a,(TA hp),iB (fun h6=>((Hv (by omega) (by omega) h6).symm)) (fun h6 h7=>⟨(⟨0,by omega,⟨rfl,rfl,trivial⟩,rfl,trivial⟩),fun x_0 q_0=>iL (fun h8=>⟨?b,?c,(by rw [Rl (by assumption),lS];omega),(by exact ⟨rfl,by rw [nv];simp only [List.length_singleton];omega⟩),fun h9 h10=>⟨(by simp only [aE,aJ] at *;omega),(⟨x_0 + 1,by omega,by omega,⟨by omega,(p5 _ _ _ _).symm,trivial⟩,(p5 _ _ _ _).symm,(by trivial)⟩)⟩⟩) (fun h8=>(by rw [C2 (by omega) (by omega) (by assumption),show x_0=os.length by omega]))⟩)⟩))
 case a|b|c=>omega
theorem Tryz.U2:bK Tryz.prog Tryz.B.eT Tryz.X 75 [.slice .str, .slice (.int .i64), .slice aA, .slice aH] [.slice bR, .err] (fun x=>x.2.2.1.length<=1000/\∀i,i < x.2.2.1.length->(nth aA x.2.2.1 i).2.1.length<=1000) (fun x y=>y=(fun x=>ko x.1 x.2.1 x.2.2.1 x.2.2.2) x):=
 bM (X:=Tryz.X) Tryz.SE Tryz.func75 (by kernel_rfl) (fun x=>Qu x.1 x.2.1 x.2.2.1 x.2.2.2) (fun x hw hp=>U1 x.1 x.2.1 x.2.2.1 x.2.2.2 hw hp)
noncomputable def Tryz.E4:List (FuncId × (Bool × bQ)):=[(108,(false,bF Tryz.aY [.obj 0, .d .str] (fun _ x=>x.2.1.1.length<=6) Tryz.Da)),
 (110,(true,aL [.slice aA] [.slice (.int .i64)] (fun l=>l.length<=1000) (fun l=>cC l))),
 (109,(true,aL [.slice (.int .i64), .slice aW] [.slice (.int .i64), .err] (fun _=>True) (fun x=>cL x))),
 (111,(true,aL [.slice aA, .slice (.int .i64)] [.slice aH, .err] (fun x=>ij x.1) (fun x=>dW x)))]
theorem Tryz.Kn:bT Tryz.prog Tryz.B Tryz.X Tryz.E4:=
 aP (Tryz.Km) (aP (aC Tryz.Qq) (aP (aC Tryz.Sf) (aP (aC Tryz.UT) (bW Tryz.bX))))
noncomputable def Tryz.vD:List (Alt Tryz.aY [.obj 0, .d .str]):=[{cG:=Tryz.aY,res:=[.d (.slice .str), .d (.slice aA), .d (.slice (.int .i64)), .d (.slice aH), .d .err],out:=fun _ x=>x,ret:=fun a x=>((bD (bH x) a.1).1,(bD (bH x) a.1).2.1,(bD (bH x) a.1).2.2.1,(bD (bH x) a.1).2.2.2.1,aT (bD (bH x) a.1).2.2.2.2,())}]
theorem Qv (s:List UInt8) (f:ja) (hw:kn [.obj 0, .d .str] (s,())) (hp:(fun _ x=>x.2.1.1.length<=6) (s,()) f):(fD Tryz.B Tryz.E4 Tryz.f73 [] Tryz.aY [.obj 0, .d .str] Tryz.vD (s,()) f).holds:=by
 refine holds_of (p:=
  let za:=aR (bH f) s
  let zb:=aT za.2.2
  let zc:=f=f
  let zd:=bD (bH f) s
  let ze:=(zd.1,zd.2.1,zd.2.2.1,zd.2.2.2.1,aT zd.2.2.2.2,())
  let zf:=za.2.1
  let zg:=cL (cC zf,[])
  let zh:=dW (zf,zg.1)
  (List.length f.2.1.1<=(6:Nat))/\((True)->(((!bC.isNil zb)=true->(True/\zc/\([],[],[],[],zb,())=ze))/\((!bC.isNil zb)=false->(List.length zf<=(1000:Nat))/\(True)/\(((!bC.isNil zg.2)=true->(True/\zc/\([],[],[],[],zg.2,())=ze))/\((!bC.isNil zg.2)=false->(ij zf)/\(((!bC.isNil zh.2)=true->(True/\zc/\([],[],[],[],zh.2,())=ze))/\((!bC.isNil zh.2)=false->(True/\zc/\(za.1,zf,zg.1,zh.1,bC.nil,())=ze))))))))) (by kernel_rfl) ?_
 dsimp -iota -proj -eta only
 exact ⟨(by trivial),fun h0=>iB (fun h1=>⟨trivial,rfl,by rw [rL (mQ h1)]⟩) (fun h1=>⟨(Nat.le_trans (xA (kT hp) (bJ.1 (by assumption))) (by decide)),trivial,iB (fun h2=>⟨trivial,rfl,by rw [rM (bJ.1 (by assumption)) h2,vm (qN _)]⟩) (fun h2=>⟨(BX (kT hp) (bJ.1 (by assumption))),iB (fun h3=>⟨trivial,rfl,by rw [vp (bJ.1 (by assumption)) (by assumption) h3,RO]⟩) (fun h3=>(by exact ⟨trivial,rfl,by rw [s4 (bJ.1 (by assumption)) (by assumption) (by assumption)];rfl⟩))⟩)⟩)⟩
theorem Tryz.Qw:dK Tryz.prog Tryz.B.eT Tryz.X 73 false (bF Tryz.aY [.obj 0, .d .str] (fun _ x=>x.2.1.1.length<=6) Tryz.vD):=
 cH (X:=Tryz.X) Tryz.Kn Tryz.func73 (by kernel_rfl) (fun (a:CD [.obj 0, .d .str]) (x:PD Tryz.aY)=>[]) (fun (a:CD [.obj 0, .d .str]) (x:PD Tryz.aY) hw hp=>Qv a.1 x hw hp)
end Go.Proofs.YtgokjhhcfemnhabGreatDoor

namespace Go.Proofs.YtgokjhhcfemnhabGreatDoor
open Go.Vg Go.Mrl
noncomputable def Tryz.LD:List (FuncId × (Bool × bQ)):=[(73,(false,bF Tryz.aY [.obj 0, .d .str] (fun _ x=>x.2.1.1.length<=6) Tryz.vD)),
 (70,(false,bF Tryz.aY [.obj 0, .d .str] (fun _ _=>True) Tryz.mW))]
theorem Tryz.Qx:bT Tryz.prog Tryz.B Tryz.X Tryz.LD:=
 aP (Tryz.Qw) (aP (Tryz.rQ) (bW Tryz.bX))
def Tryz.LF (s:List UInt8) (f:ja):cN:=[
 (0,fun st=>{X:=Nat,inv:=fun i=>i<=List.length (aZ (.slice .str) st 6),bA:=fun i=>List.length (aZ (.slice .str) st 6) - i,aS:=fun i=>[(35,sI i)],aX:=[0,4,8,11,33,34],aK:=fun i=>[(aQ st 11, .cells 48 [.d .str s, .app aF (im (bH f) (aZ (.slice .str) st 6) (aZ (.slice (.int .i64)) st 8) i) (eL st (aQ st 11) 1), .d (.slice aH) (aZ (.slice aH) st 9)]),(eL st (aQ st 11) 1, .tok aF (im (bH f) (aZ (.slice .str) st 6) (aZ (.slice (.int .i64)) st 8) i))],eD:=[aQ st 11,eL st (aQ st 11) 1]})]
noncomputable def Tryz.AE:List (Alt Tryz.aY [.obj 0, .d .str]):=[{cG:=Tryz.aY,res:=[.d aI, .d .err],out:=fun _ x=>x,ret:=fun a x=>((jf (bH x) a.1).1,aT (jf (bH x) a.1).2,())}]
theorem TU (s:List UInt8) (f:ja) (hw:kn [.obj 0, .d .str] (s,())) (hp:(fun _ x=>x.2.1.1.length<=6) (s,()) f):(fD Tryz.B Tryz.LD Tryz.f36 (Tryz.LF s f) Tryz.aY [.obj 0, .d .str] Tryz.AE (s,()) f).holds:=by
 refine holds_of (p:=
  let za:=bH f
  let zb:=bD za s
  let zc:=aT zb.2.2.2.2
  let zd:=([],[],[],())
  let ze:=((jf za s).1,aT (jf za s).2,())
  let zf:=zb.1
  let zg:=List.length zf
  let zh:=zb.2.2.1
  let zi:=zb.2.2.2.1
  let zj:=zi=zi/\True
  let zk:=fun (x_0:Nat)=>aT (bH f (nth Ty.str zf x_0)).2.2
  let zl:=fun (x_0:Nat)=>im za zf zh x_0
  let zm:=fun (x_0:Nat)=>[(nth Ty.str zf x_0,(bH f (nth Ty.str zf x_0)).2.1,nth (Ty.int IntKind.i64) zh x_0,())]
  let zn:=@List.nil (Int × Int × Int × Unit) = @List.nil (Int × Int × Int × Unit)
  let zo:=@List.nil (List UInt8 × Int × Int × Unit) = @List.nil (List UInt8 × Int × Int × Unit)
  (List.length f.2.1.1<=(6:Nat))/\((True)->(((!bC.isNil zc)=true->(True/\f=f/\(zd,zc,())=ze))/\((!bC.isNil zc)=false->((zg<=aJ)->(∃(x:Nat),x<=zg/\((0:Int)=(↑x:Int)/\True)/\(s=s/\@List.nil (List UInt8 × Int × Int × Unit)=im za zf zh x/\zj)/\@List.nil (List UInt8 × Int × Int × Unit)=im za zf zh x/\True)/\(∀x_0:Nat,((x_0<=zg)->(((decide ((↑x_0:Int) < (↑zg:Int)))=true->((0:Int)<=(↑x_0:Int)/\(↑x_0:Int) < (↑zg:Int))/\(True)/\((True)->(((!bC.isNil (zk x_0))=true->(True/\f=f/\(zd,zk x_0,())=ze))/\((!bC.isNil (zk x_0))=false->((0:Int)<=(↑x_0:Int)/\(↑x_0:Int) < (↑(List.length zh):Int))/\(zl x_0=zl x_0/\List.length (zl x_0) + List.length (zm x_0)<=(1000000000:Nat))/\((aE (↑x_0:Int))->((aE (1:Int))->(aE ((↑x_0:Int) + (1:Int)))/\(∃(x':Nat),x'<=zg/\zg - x' < zg - x_0/\((↑x_0:Int) + (1:Int)=(↑x':Int)/\True)/\(s=s/\zl x_0++zm x_0=im za zf zh x'/\zj)/\zl x_0++zm x_0=im za zf zh x'/\zn/\zo/\(C.eZ (1:Nat)=C.eZ (1:Nat)/\f.1.1=f.1.1/\True)/\f.2.1=f.2.1/\(@List.nil UInt8 = @List.nil UInt8/\zo/\zn/\True)/\zn/\zo/\True)))))))/\((decide ((↑x_0:Int) < (↑zg:Int)))=false->(True/\f=f/\((s,zl x_0,zi,()),bC.nil,())=ze)))))))))) (by kernel_rfl) ?_
 dsimp -iota -proj -eta only
 exact ⟨(by trivial),fun h0=>iB (fun h1=>(by exact ⟨trivial,rfl,by rw [HA (mQ h1)];rfl⟩)) (fun h1 h2=>⟨(⟨0,Nat.zero_le _,⟨rfl,trivial⟩,⟨rfl,rfl,rfl,trivial⟩,rfl,(by trivial)⟩),fun x_0 q_0=>iL (fun h3=>⟨(by omega),trivial,fun h4=>iB (fun h5=>(absurd (Pl (kT hp) (bJ.1 h1) (by omega)) (mQ h5))) (fun h5=>⟨(by have:=(En (kT hp) (bJ.1 h1)).1;omega),(by exact ⟨rfl,by rw [s5];have:=(En (kT hp) (bJ.1 h1)).2;simp only [List.length_singleton];omega⟩),fun h6 h7=>⟨(by simp only [aE,aJ] at *;omega),(⟨x_0 + 1,by omega,by omega,⟨by omega,trivial⟩,⟨rfl,(xB _ _ _ _).symm,rfl,trivial⟩,(xB _ _ _ _).symm,(by trivial)⟩)⟩⟩)⟩) (fun h3=>(by exact ⟨trivial,rfl,by rw [Lp (bJ.1 h1),show x_0=List.length (bD (bH f) s).1 by omega];rfl⟩))⟩)⟩
theorem Tryz.TV:dK Tryz.prog Tryz.B.eT Tryz.X 36 false (bF Tryz.aY [.obj 0, .d .str] (fun _ x=>x.2.1.1.length<=6) Tryz.AE):=
 cH (X:=Tryz.X) Tryz.Qx Tryz.func36 (by kernel_rfl) (fun (a:CD [.obj 0, .d .str]) (x:PD Tryz.aY)=>Tryz.LF a.1 x) (fun (a:CD [.obj 0, .d .str]) (x:PD Tryz.aY) hw hp=>TU a.1 x hw hp)
noncomputable def Tryz.IJ:List (FuncId × (Bool × bQ)):=[(70,(false,bF Tryz.aY [.obj 0, .d .str] (fun _ _=>True) Tryz.mW))]
theorem Tryz.NO:bT Tryz.prog Tryz.B Tryz.X Tryz.IJ:=
 aP (Tryz.rQ) (bW Tryz.bX)
def Tryz.IK (e:D aI) (f:ja):cN:=[
 (0,fun st=>{X:=Nat,inv:=fun i=>i<=List.length e.2.1/\∀j,j < i->gF (bH f) (nth aF e.2.1 j)=true,bA:=fun i=>List.length e.2.1 - i,aS:=fun i=>[(13,sI i)],aX:=[1,2,11,12]})]
def Tryz.sG:List (Alt Tryz.aY [.d aI, .obj 0]):=[{cG:=Tryz.aY,res:=[.d .bool],out:=fun _ x=>x,ret:=fun a x=>(fX (bH x) a.1,())}]
theorem SF (e:D aI) (f:ja) (hw:kn [.d aI, .obj 0] (e,())):(fD Tryz.B Tryz.IJ Tryz.f40 (Tryz.IK e f) Tryz.aY [.d aI, .obj 0] Tryz.sG (e,()) f).holds:=by
 refine holds_of (p:=
  let za:=e.2.1
  let zb:=List.length za
  let zc:=bH f
  let zd:=fun (x_0:Nat)=>(bH f (nth aF za x_0).1).2
  let ze:=(fX zc e,())
  let zf:=True/\f=f/\(false,())=ze
  ((zb<=aJ)->(∃(x:Nat),(x<=zb/\∀(j:Nat),j < x->gF zc (nth aF za j)=true)/\((0:Int)=(↑x:Int)/\True)/\True)/\(∀x_0:Nat,((x_0<=zb/\∀(j:Nat),j < x_0->gF zc (nth aF za j)=true)->(((decide ((↑x_0:Int) < (↑zb:Int)))=true->((0:Int)<=(↑x_0:Int)/\(↑x_0:Int) < (↑zb:Int))/\(True)/\((True)->(((!bC.isNil (aT (zd x_0).2))=true->(zf))/\((!bC.isNil (aT (zd x_0).2))=false->((((zd x_0).1 != (nth aF za x_0).2.1)=true->(zf))/\(((zd x_0).1 != (nth aF za x_0).2.1)=false->((aE (↑x_0:Int))->((aE (1:Int))->(aE ((↑x_0:Int) + (1:Int)))/\(∃(x':Nat),(x'<=zb/\∀(j:Nat),j < x'->gF zc (nth aF za j)=true)/\zb - x' < zb - x_0/\((↑x_0:Int) + (1:Int)=(↑x':Int)/\True)/\(e.1=e.1/\za=za/\e.2.2.1=e.2.2.1/\True)/\(C.eZ (1:Nat)=C.eZ (1:Nat)/\f.1.1=f.1.1/\True)/\f.2.1=f.2.1/\True)))))))))/\((decide ((↑x_0:Int) < (↑zb:Int)))=false->((zb<=aJ)->(True/\f=f/\(decide ((↑zb:Int) > (0:Int)),())=ze)))))))) (by kernel_rfl) ?_
 dsimp -iota -proj -eta only
 exact fun h0=>⟨(⟨0,⟨Nat.zero_le _,fun j hj=>absurd hj (Nat.not_lt_zero _)⟩,⟨rfl,trivial⟩,trivial⟩),fun x_0 q_0=>iL (fun h1=>⟨(by omega),trivial,fun h2=>iB (fun h3=>⟨trivial,rfl,by rw [vt (i:=x_0) (by omega) (Pn h3)]⟩) (fun h3=>iN (fun h4=>⟨trivial,rfl,by rw [vt (i:=x_0) (by omega) (B0 h4)]⟩) (fun h4 h5 h6=>⟨(by simp only [aE,aJ] at *;omega),(⟨x_0 + 1,⟨by omega,jA q_0.2 (MX (by assumption) (by assumption))⟩,by omega,⟨by omega,trivial⟩,(by trivial)⟩)⟩))⟩) (fun h1 h2=>(by exact ⟨trivial,rfl,by rw [Ej fun i hi=>q_0.2 i (by omega)];simp⟩))⟩
theorem Tryz.IL:dK Tryz.prog Tryz.B.eT Tryz.X 40 false (bF Tryz.aY [.d aI, .obj 0] (fun _ _=>True) Tryz.sG):=
 cH (X:=Tryz.X) Tryz.NO Tryz.func40 (by kernel_rfl) (fun (a:CD [.d aI, .obj 0]) (x:PD Tryz.aY)=>Tryz.IK a.1 x) (fun (a:CD [.d aI, .obj 0]) (x:PD Tryz.aY) hw hp=>SF a.1 x hw)
noncomputable def Tryz.Qy:List (FuncId × (Bool × bQ)):=[(40,(false,bF Tryz.aY [.d aI, .obj 0] (fun _ _=>True) Tryz.sG)),
 (70,(false,bF Tryz.aY [.obj 0, .d .str] (fun _ _=>True) Tryz.mW)),
 (74,(true,aL [.str] [aA, .err] (fun _=>True) (fun s=>mP s))),
 (75,(true,aL [.slice .str, .slice (.int .i64), .slice aA, .slice aH] [.slice bR, .err] (fun x=>x.2.2.1.length<=1000/\∀i,i < x.2.2.1.length->(nth aA x.2.2.1 i).2.1.length<=1000) (fun x=>ko x.1 x.2.1 x.2.2.1 x.2.2.2)))]
theorem Tryz.SG:bT Tryz.prog Tryz.B Tryz.X Tryz.Qy:=
 aP (Tryz.IL) (aP (Tryz.rQ) (aP (aC Tryz.E3) (aP (aC Tryz.U2) (bW Tryz.bX))))
noncomputable def Tryz.Qz (e:D aI) (f:ja):cN:=[
 (0,fun st=>{X:=Nat,inv:=fun i=>i<=List.length e.2.1/\∀j,j < i->(bP (bH f (nth aF e.2.1 j).1).1).2=0,bA:=fun i=>List.length e.2.1 - i,aS:=fun i=>[(23,sI i),(6, .s (.one (.app .str (eV (List.take i e.2.1)) (aQ st 6)))),(7, .s (.one (.app (.int .i64) (eW (List.take i e.2.1)) (aQ st 7)))),(8, .s (.one (.app aA (cY (bH f) (List.take i e.2.1)) (aQ st 8))))],aK:=fun i=>[(aQ st 6, .tok .str (eV (List.take i e.2.1))),(aQ st 7, .tok (.int .i64) (eW (List.take i e.2.1))),(aQ st 8, .tok aA (cY (bH f) (List.take i e.2.1)))],aX:=[1,2,21,22],eD:=[aQ st 6,aQ st 7,aQ st 8]}),
 (300015,fun st=>{X:=Nat,inv:=fun i=>i=(aZ (.int .i64) st 23).toNat + 1,bA:=fun _=>0,aS:=fun i=>[(6, .s (.one (.app .str (eV (List.take i e.2.1)) (aQ st 6)))),(7, .s (.one (.app (.int .i64) (eW (List.take i e.2.1)) (aQ st 7)))),(8, .s (.one (.app aA (cY (bH f) (List.take i e.2.1)) (aQ st 8))))],aK:=fun i=>[(aQ st 6, .tok .str (eV (List.take i e.2.1))),(aQ st 7, .tok (.int .i64) (eW (List.take i e.2.1))),(aQ st 8, .tok aA (cY (bH f) (List.take i e.2.1)))],aX:=[1,2,4,5,10,11,13,14,21,22,23,24,25,26,27,28,29,30,31,32,33,34,35,36,37,38,39,40,41,42,43,44,45],eD:=[aQ st 6,aQ st 7,aQ st 8]})]
noncomputable def Tryz.Db:List (Alt Tryz.aY [.d aI, .obj 0]):=[{cG:=Tryz.aY,res:=[.d (.slice bR), .d .err],out:=fun _ x=>x,ret:=fun a x=>((jk (bH x) a.1).1,aT (jk (bH x) a.1).2,())}]
theorem U3 (e:D aI) (f:ja) (hw:kn [.d aI, .obj 0] (e,())) (hp:(fun a x=>a.1.2.1.length<=1000/\x.2.1.1.length<=6) (e,()) f):(fD Tryz.B Tryz.Qy Tryz.f38 (Tryz.Qz e f) Tryz.aY [.d aI, .obj 0] Tryz.Db (e,()) f).holds:=by
 refine holds_of (p:=
  let za:=bH f
  let zb:=f=f
  let zc:=((jk za e).1,aT (jk za e).2,())
  let zd:=e.2.1
  let ze:=List.length zd
  let zf:=fun (x_0:Nat)=>(nth aF zd x_0).1
  let zg:=fun (x_0:Nat)=>aT (bH f (zf x_0)).2.2
  let zh:=fun (x_0:Nat)=>aT (bP (bH f (zf x_0)).1).2
  let zi:=fun (x_0:Nat)=>eV (List.take x_0 zd)
  let zj:=fun (x_0:Nat)=>zi x_0=zi x_0/\List.length (zi x_0) + List.length [zf x_0]<=(1000000000:Nat)
  let zk:=fun (x_0:Nat)=>eW (List.take x_0 zd)
  let zl:=fun (x_0:Nat)=>(nth aF zd x_0).2.2.1
  let zm:=fun (x_0:Nat)=>cY za (List.take x_0 zd)
  let zn:=fun (x_0:Nat)=>(bP (bH f (zf x_0)).1).1
  let zo:=C.eZ (1:Nat)=C.eZ (1:Nat)/\f.1.1=f.1.1/\True
  let zp:=f.2.1=f.2.1
  let zq:=e.2.2.1
  let zr:=@List.nil (List UInt8 × Int × List Int × Unit) = @List.nil (List UInt8 × Int × List Int × Unit)/\(e.1=e.1/\zd=zd/\zq=zq/\True)/\True
  let zs:=fun (x_0:Nat)=>(zk x_0=zk x_0/\List.length (zk x_0) + List.length [zl x_0]<=(1000000000:Nat))/\(zm x_0=zm x_0/\List.length (zm x_0) + List.length [zn x_0]<=(1000000000:Nat))/\(∃(x':Nat),x'=x_0 + (1:Nat)/\(zi x_0++[zf x_0]=eV (List.take x' zd)/\zk x_0++[zl x_0]=eW (List.take x' zd)/\zm x_0++[zn x_0]=cY za (List.take x' zd)/\True)/\zi x_0++[zf x_0]=eV (List.take x' zd)/\zk x_0++[zl x_0]=eW (List.take x' zd)/\zm x_0++[zn x_0]=cY za (List.take x' zd)/\((zn x_0).1=(zn x_0).1/\(zn x_0).2.1=(zn x_0).2.1/\(zn x_0).2.2.1=(zn x_0).2.2.1/\(zn x_0).2.2.2.1=(zn x_0).2.2.2.1/\True)/\@List.nil (Int × Int × Int × List UInt8 × Bool × Unit) = @List.nil (Int × Int × Int × List UInt8 × Bool × Unit)/\@List.nil (List UInt8 × Int × Bool × Unit) = @List.nil (List UInt8 × Int × Bool × Unit)/\@List.nil Int = @List.nil Int/\@List.nil (List UInt8) = @List.nil (List UInt8)/\zo/\zp/\(zf x_0=zf x_0/\(nth aF zd x_0).2.1=(nth aF zd x_0).2.1/\zl x_0=zl x_0/\True)/\zr)
  let zt:=fun (x_0:Nat)=>(zj x_0)/\((((fun a0:Prop=>a0/\a0/\a0) ((zs x_0))))/\(((fun a0:Prop=>a0/\a0) ((zs x_0))))/\((zs x_0)))
  let zu:=fun (x_0:Nat)=>(zj x_0)/\(zs x_0)
  let zv:=fun (x_0:Nat)=>(((zj x_0)/\((fun a0:Prop=>a0/\a0/\a0) ((zs x_0))))/\((zj x_0)/\((fun a0:Prop=>a0/\a0) ((zs x_0))))/\((zu x_0)))
  let zw:=fun (x_0:Nat)=>(zj x_0)/\((((fun a0:Prop=>a0/\a0) ((zs x_0))))/\((zs x_0)))
  let zx:=fun (x_0:Nat)=>(((zj x_0)/\((fun a0:Prop=>a0/\a0) ((zs x_0))))/\((zu x_0)))
  let zy:=fun (x_0:Nat)=>((fun a0 a1 a2 a3 a4:Prop=>a0/\a1/\a2/\a3/\a4/\a4) ((zt x_0)) ((zv x_0)) ((zw x_0)) ((zx x_0)) ((zu x_0)))
  let zz:=fun (x_0:Nat)=>((fun a0 a1 a2:Prop=>a0/\a1/\a2/\a2) ((zw x_0)) ((zx x_0)) ((zu x_0)))
  let zaa:=fun (x_0:Nat)=>ko (zi x_0) (zk x_0) (zm x_0) zq
  (True)/\((True)->(((!fX za e)=true->(True/\zb/\([],bC.no (10:Int),())=zc))/\((!fX za e)=false->((ze<=aJ)->(∃(x:Nat),(x<=ze/\∀(j:Nat),j < x->(bP (bH f (nth aF zd j).1).1).2=(0:Int))/\((0:Int)=(↑x:Int)/\@List.nil (List UInt8)=eV (List.take x zd)/\@List.nil Int=eW (List.take x zd)/\@List.nil (List (List UInt8) × List Int × List (List UInt8 × Int × Bool × Unit) × List (Int × Int × Int × List UInt8 × Bool × Unit) × Unit)=cY za (List.take x zd)/\True)/\@List.nil (List UInt8)=eV (List.take x zd)/\@List.nil Int=eW (List.take x zd)/\@List.nil (List (List UInt8) × List Int × List (List UInt8 × Int × Bool × Unit) × List (Int × Int × Int × List UInt8 × Bool × Unit) × Unit)=cY za (List.take x zd)/\True)/\(∀x_0:Nat,((x_0<=ze/\∀(j:Nat),j < x_0->(bP (bH f (nth aF zd j).1).1).2=(0:Int))->(((decide ((↑x_0:Int) < (↑ze:Int)))=true->((0:Int)<=(↑x_0:Int)/\(↑x_0:Int) < (↑ze:Int))/\(True)/\((True)->(((!bC.isNil (zg x_0))=true->(True/\zb/\([],zg x_0,())=zc))/\((!bC.isNil (zg x_0))=false->(True)/\(((!bC.isNil (zh x_0))=true->(True/\zb/\([],zh x_0,())=zc))/\((!bC.isNil (zh x_0))=false->((((((fun a0 a1 a2 a3 a4:Prop=>a0/\a1/\a2/\a3/\a4/\a4/\a4) ((zt x_0)) ((zy x_0)) ((zw x_0)) ((zz x_0)) ((zu x_0))))/\((((zy x_0))/\((((zv x_0))/\((zx x_0))/\((zu x_0))))/\((zz x_0))/\((((zx x_0))/\((zu x_0))))/\(((fun a0:Prop=>a0/\a0) ((zu x_0))))/\((zu x_0))))/\(((fun a0 a1 a2:Prop=>a0/\a1/\a2/\a2/\a2) ((zw x_0)) ((zz x_0)) ((zu x_0))))/\((((zz x_0))/\((((zx x_0))/\((zu x_0))))/\(((fun a0:Prop=>a0/\a0) ((zu x_0))))/\((zu x_0))))/\(((fun a0:Prop=>a0/\a0/\a0) ((zu x_0))))/\(((fun a0:Prop=>a0/\a0) ((zu x_0))))/\((zu x_0))))/\((∀x_1:Nat,((x_1=x_0 + (1:Nat))->((aE (↑x_0:Int))->((aE (1:Int))->(aE ((↑x_0:Int) + (1:Int)))/\(∃(x':Nat),(x'<=ze/\∀(j:Nat),j < x'->(bP (bH f (nth aF zd j).1).1).2=(0:Int))/\ze - x' < ze - x_0/\((↑x_0:Int) + (1:Int)=(↑x':Int)/\zi x_1=eV (List.take x' zd)/\zk x_1=eW (List.take x' zd)/\zm x_1=cY za (List.take x' zd)/\True)/\zi x_1=eV (List.take x' zd)/\zk x_1=eW (List.take x' zd)/\zm x_1=cY za (List.take x' zd)/\zo/\zp/\zr)))))))))))))/\((decide ((↑x_0:Int) < (↑ze:Int)))=false->(List.length (zm x_0)<=(1000:Nat)/\∀(i:Nat),i < List.length (zm x_0)->List.length (nth aA (zm x_0) i).2.1<=(1000:Nat))/\(True/\zb/\((zaa x_0).1,(zaa x_0).2,())=zc)))))))))) (by kernel_rfl) ?_
 dsimp -iota -proj -eta only
 dsimp only at hp
 refine ⟨trivial,fun h0=>iB (fun h1=>(by exact ⟨trivial,rfl,by rw [Ek h1];rfl⟩)) (fun h1 h2=>⟨(⟨0,⟨Nat.zero_le _,fun j hj=>absurd hj (Nat.not_lt_zero _)⟩,⟨rfl,rfl,rfl,rfl,trivial⟩,(by trivial)⟩),fun x_0 q_0=>iL (fun h3=>⟨(by omega),trivial,fun h4=>iB (fun h5=>(absurd ((Pk h1).2 x_0 (by omega)).1 (mQ h5))) (fun h5=>⟨trivial,iB (fun h6=>⟨trivial,rfl,by rw [Lq h1 (Aw q_0.2 (by omega) (mQ h6)) (mQ h6)]⟩) (fun h6=>⟨⟨(show ∀{a0 a1 a2 a3 a4:Prop},a0->a1->a2->a3->a4->a0/\a1/\a2/\a3/\a4/\a4/\a4 from fun g0 g1 g2 g3 g4=>⟨g0,g1,g2,g3,g4,g4,g4⟩) (⟨?a,⟨(show ∀{a0:Prop},a0->a0/\a0/\a0 from fun g0=>⟨g0,g0,g0⟩) (⟨?b,?c,?d⟩),(show ∀{a0:Prop},a0->a0/\a0 from fun g0=>⟨g0,g0⟩) (⟨?e,?f,?g⟩),⟨?h,?i,?j⟩⟩⟩) ((show ∀{a0 a1 a2 a3 a4:Prop},a0->a1->a2->a3->a4->a0/\a1/\a2/\a3/\a4/\a4 from fun g0 g1 g2 g3 g4=>⟨g0,g1,g2,g3,g4,g4⟩) (⟨?k,⟨(show ∀{a0:Prop},a0->a0/\a0/\a0 from fun g0=>⟨g0,g0,g0⟩) (⟨?l,?m,?n⟩),(show ∀{a0:Prop},a0->a0/\a0 from fun g0=>⟨g0,g0⟩) (⟨?o,?p,?q⟩),⟨?r,?s,?t⟩⟩⟩) (⟨⟨?u,(show ∀{a0:Prop},a0->a0/\a0/\a0 from fun g0=>⟨g0,g0,g0⟩) (⟨?v,?w,?x⟩)⟩,⟨?y,(show ∀{a0:Prop},a0->a0/\a0 from fun g0=>⟨g0,g0⟩) (⟨?z,?a0,?a1⟩)⟩,⟨?a2,?a3,?a4,?a5⟩⟩) (⟨?a6,⟨(show ∀{a0:Prop},a0->a0/\a0 from fun g0=>⟨g0,g0⟩) (⟨?a7,?a8,?a9⟩),⟨?aa,?ab,?ac⟩⟩⟩) (⟨⟨?ad,(show ∀{a0:Prop},a0->a0/\a0 from fun g0=>⟨g0,g0⟩) (⟨?ae,?af,?ag⟩)⟩,⟨?ah,?ai,?aj,?ak⟩⟩) (⟨?al,?am,?an,?ao⟩)) (⟨?ap,⟨(show ∀{a0:Prop},a0->a0/\a0 from fun g0=>⟨g0,g0⟩) (⟨?aq,?ar,?au⟩),⟨?av,?aw,?ax⟩⟩⟩) ((show ∀{a0 a1 a2:Prop},a0->a1->a2->a0/\a1/\a2/\a2 from fun g0 g1 g2=>⟨g0,g1,g2,g2⟩) (⟨?ay,⟨(show ∀{a0:Prop},a0->a0/\a0 from fun g0=>⟨g0,g0⟩) (⟨?az,?b0,?b1⟩),⟨?b2,?b3,?b4⟩⟩⟩) (⟨⟨?b5,(show ∀{a0:Prop},a0->a0/\a0 from fun g0=>⟨g0,g0⟩) (⟨?b6,?b7,?b8⟩)⟩,⟨?b9,?ba,?bb,?bc⟩⟩) (⟨?bd,?be,?bf,?bg⟩)) (⟨?bh,?bi,?bj,?bk⟩),⟨(show ∀{a0 a1 a2 a3 a4:Prop},a0->a1->a2->a3->a4->a0/\a1/\a2/\a3/\a4/\a4 from fun g0 g1 g2 g3 g4=>⟨g0,g1,g2,g3,g4,g4⟩) (⟨?bl,⟨(show ∀{a0:Prop},a0->a0/\a0/\a0 from fun g0=>⟨g0,g0,g0⟩) (⟨?bm,?bn,?bo⟩),(show ∀{a0:Prop},a0->a0/\a0 from fun g0=>⟨g0,g0⟩) (⟨?bp,?bq,?br⟩),⟨?bs,?bt,?bu⟩⟩⟩) (⟨⟨?bv,(show ∀{a0:Prop},a0->a0/\a0/\a0 from fun g0=>⟨g0,g0,g0⟩) (⟨?bw,?bx,?bz⟩)⟩,⟨?c0,(show ∀{a0:Prop},a0->a0/\a0 from fun g0=>⟨g0,g0⟩) (⟨?c1,?c2,?c3⟩)⟩,⟨?c4,?c5,?c6,?c7⟩⟩) (⟨?c8,⟨(show ∀{a0:Prop},a0->a0/\a0 from fun g0=>⟨g0,g0⟩) (⟨?c9,?ca,?cb⟩),⟨?cc,?cd,?ce⟩⟩⟩) (⟨⟨?cf,(show ∀{a0:Prop},a0->a0/\a0 from fun g0=>⟨g0,g0⟩) (⟨?cg,?ch,?ci⟩)⟩,⟨?cj,?ck,?cl,?cm⟩⟩) (⟨?cn,?co,?cp,?cq⟩),⟨⟨⟨?cr,(show ∀{a0:Prop},a0->a0/\a0/\a0 from fun g0=>⟨g0,g0,g0⟩) (⟨?cs,?ct,?cu⟩)⟩,⟨?cv,(show ∀{a0:Prop},a0->a0/\a0 from fun g0=>⟨g0,g0⟩) (⟨?cw,?cx,?cy⟩)⟩,⟨?cz,?d0,?d1,?d2⟩⟩,⟨⟨?d3,(show ∀{a0:Prop},a0->a0/\a0 from fun g0=>⟨g0,g0⟩) (⟨?d4,?d5,?d6⟩)⟩,⟨?d7,?d8,?d9,?da⟩⟩,⟨?db,?dc,?dd,?de⟩⟩,(show ∀{a0 a1 a2:Prop},a0->a1->a2->a0/\a1/\a2/\a2 from fun g0 g1 g2=>⟨g0,g1,g2,g2⟩) (⟨?df,⟨(show ∀{a0:Prop},a0->a0/\a0 from fun g0=>⟨g0,g0⟩) (⟨?dg,?dh,?di⟩),⟨?dj,?dk,?dl⟩⟩⟩) (⟨⟨?dm,(show ∀{a0:Prop},a0->a0/\a0 from fun g0=>⟨g0,g0⟩) (⟨?dn,?dp,?dq⟩)⟩,⟨?dr,?ds,?dt,?du⟩⟩) (⟨?dv,?dw,?dx,?dy⟩),⟨⟨⟨?dz,(show ∀{a0:Prop},a0->a0/\a0 from fun g0=>⟨g0,g0⟩) (⟨?e0,?e1,?e2⟩)⟩,⟨?e3,?e4,?e5,?e6⟩⟩,⟨?e7,?e8,?e9,?ea⟩⟩,(show ∀{a0:Prop},a0->a0/\a0 from fun g0=>⟨g0,g0⟩) (⟨?eb,?ec,?ed,?ee⟩),⟨?ef,?eg,?eh,?ei⟩⟩,(show ∀{a0 a1 a2:Prop},a0->a1->a2->a0/\a1/\a2/\a2/\a2 from fun g0 g1 g2=>⟨g0,g1,g2,g2,g2⟩) (⟨?ej,⟨(show ∀{a0:Prop},a0->a0/\a0 from fun g0=>⟨g0,g0⟩) (⟨?ek,?el,?em⟩),⟨?en,?eo,?ep⟩⟩⟩) ((show ∀{a0 a1 a2:Prop},a0->a1->a2->a0/\a1/\a2/\a2 from fun g0 g1 g2=>⟨g0,g1,g2,g2⟩) (⟨?eq,⟨(show ∀{a0:Prop},a0->a0/\a0 from fun g0=>⟨g0,g0⟩) (⟨?er,?es,?et⟩),⟨?eu,?ev,?ew⟩⟩⟩) (⟨⟨?ex,(show ∀{a0:Prop},a0->a0/\a0 from fun g0=>⟨g0,g0⟩) (⟨?ey,?ez,?f0⟩)⟩,⟨?f1,?f2,?f3,?f4⟩⟩) (⟨?f5,?f6,?f7,?f8⟩)) (⟨?f9,?fa,?fb,?fc⟩),⟨(show ∀{a0 a1 a2:Prop},a0->a1->a2->a0/\a1/\a2/\a2 from fun g0 g1 g2=>⟨g0,g1,g2,g2⟩) (⟨?fd,⟨(show ∀{a0:Prop},a0->a0/\a0 from fun g0=>⟨g0,g0⟩) (⟨?fe,?ff,?fg⟩),⟨?fh,?fi,?fj⟩⟩⟩) (⟨⟨?fk,(show ∀{a0:Prop},a0->a0/\a0 from fun g0=>⟨g0,g0⟩) (⟨?fl,?fm,?fn⟩)⟩,⟨?fo,?fp,?fq,?fr⟩⟩) (⟨?fs,?ft,?fu,?fv⟩),⟨⟨⟨?fw,(show ∀{a0:Prop},a0->a0/\a0 from fun g0=>⟨g0,g0⟩) (⟨?fx,?fy,?fz⟩)⟩,⟨?g0,?g1,?g2,?g3⟩⟩,⟨?g4,?g5,?g6,?g7⟩⟩,(show ∀{a0:Prop},a0->a0/\a0 from fun g0=>⟨g0,g0⟩) (⟨?g8,?g9,?ga,?gb⟩),⟨?gc,?gd,?ge,?gf⟩⟩,(show ∀{a0:Prop},a0->a0/\a0/\a0 from fun g0=>⟨g0,g0,g0⟩) (⟨?gg,?gh,?gi,?gj⟩),(show ∀{a0:Prop},a0->a0/\a0 from fun g0=>⟨g0,g0⟩) (⟨?gk,?gl,?gm,?gn⟩),⟨?go,?gp,?gq,?gr⟩⟩,fun x_1 q_1 h7 h8=>⟨(by simp only [aE,aJ] at *;omega),?gs⟩⟩)⟩)⟩) (fun h3=>⟨(by rw [lf (by omega)];exact Pm hp.1 fun j hj=>q_0.2 j (by omega)),(by rw [lf (by omega)];exact ⟨trivial,rfl,RQ h1 (qP fun j hj=>q_0.2 j (by omega))⟩)⟩)⟩)⟩
 case a|b|c|e|f|h|i|k|l|m|o|p|r|s|u|v|w|y|z|a0|a2|a3|a4|a6|a7|a8|aa|ab|ad|ae|af|ah|ai|aj|al|am|an|ap|aq|ar|av|aw|ay|az|b0|b2|b3|b5|b6|b7|b9|ba|bb|bd|be|bf|bh|bi|bj|bl|bm|bn|bp|bq|bs|bt|bv|bw|bx|c0|c1|c2|c4|c5|c6|c8|c9|ca|cc|cd|cf|cg|ch|cj|ck|cl|cn|co|cp|cr|cs|ct|cv|cw|cx|cz|d0|d1|d3|d4|d5|d7|d8|d9|db|dc|dd|df|dg|dh|dj|dk|dm|dn|dp|dr|ds|dt|dv|dw|dx|dz|e0|e1|e3|e4|e5|e7|e8|e9|eb|ec|ed|ef|eg|eh|ej|ek|el|en|eo|eq|er|es|eu|ev|ex|ey|ez|f1|f2|f3|f5|f6|f7|f9|fa|fb|fd|fe|ff|fh|fi|fk|fl|fm|fo|fp|fq|fs|ft|fu|fw|fx|fy|g0|g1|g2|g4|g5|g6|g8|g9|ga|gc|gd|ge|gg|gh|gi|gk|gl|gm|go|gp|gq=>exact ⟨rfl,by simp only [eV,eW,cY,List.length_map,List.length_take,List.length_singleton];have:=hp.1;omega⟩
 case d|g|j|n|q|t|x|a1|a5|a9|ac|ag|ak|ao|au|ax|b1|b4|b8|bc|bg|bk|bo|br|bu|bz|c3|c7|cb|ce|ci|cm|cq|cu|cy|d2|d6|da|de|di|dl|dq|du|dy|e2|e6|ea|ee|ei|em|ep|et|ew|f0|f4|f8|fc|fg|fj|fn|fr|fv|fz|g3|g7|gb|gf|gj|gn|gr=>exact ⟨x_0 + 1,rfl,⟨yY (by omega),yZ (by omega),BZ (by omega),trivial⟩,yY (by omega),yZ (by omega),BZ (by omega),(by trivial)⟩
 case gs=>
  subst q_1
  exact ⟨x_0 + 1,⟨by omega,jA q_0.2 (bJ.1 (by assumption))⟩,by omega,⟨by omega,rfl,rfl,rfl,trivial⟩,rfl,rfl,rfl,(by trivial)⟩
theorem Tryz.U4:dK Tryz.prog Tryz.B.eT Tryz.X 38 false (bF Tryz.aY [.d aI, .obj 0] (fun a x=>a.1.2.1.length<=1000/\x.2.1.1.length<=6) Tryz.Db):=
 cH (X:=Tryz.X) Tryz.SG Tryz.func38 (by kernel_rfl) (fun (a:CD [.d aI, .obj 0]) (x:PD Tryz.aY)=>Tryz.Qz a.1 x) (fun (a:CD [.d aI, .obj 0]) (x:PD Tryz.aY) hw hp=>U3 a.1 x hw hp)
end Go.Proofs.YtgokjhhcfemnhabGreatDoor

namespace Go.Proofs.YtgokjhhcfemnhabGreatDoor
open Go.Vg Go.Mrl
noncomputable def Tryz.E5:List (FuncId × (Bool × bQ)):=[(69,(true,aL [.slice aH, .slice aH] [.bool] (fun _=>True) (fun x=>oa x.1 x.2)))]
theorem Tryz.Ko:bT Tryz.prog Tryz.B Tryz.X Tryz.E5:=
 aP (aC Tryz.C6) (bW Tryz.bX)
def E6 (a:D aI) (b:D aI):cN:=[
 (0,fun st=>{X:=Nat,inv:=fun i=>i<=List.length a.2.1,bA:=fun i=>List.length a.2.1 - i,aS:=fun i=>[(5,sI i)],aX:=[2,3]})]
theorem IM (a:D aI) (b:D aI) (hw:eE [aI,aI] (a,b)):(cM Tryz.B Tryz.E5 Tryz.f34 (E6 a b) [aI,aI] [.bool] (fun x y=>x.1=x.2->y=true) (a,b)).holds:=by
 refine holds_of (p:=
  let za:=a=b->false=true
  let zb:=a.2.1
  let zc:=List.length zb
  let zd:=b.2.1
  let ze:=(↑(List.length zd):Int)
  let zf:=b.2.2.1
  let zg:=a.2.2.1
  (((!a.1 == b.1)=true->(za))/\((!a.1 == b.1)=false->((zc<=aJ)->((List.length zd<=aJ)->((((↑zc:Int) != ze)=true->(za))/\(((↑zc:Int) != ze)=false->(∃(x:Nat),x<=zc/\((0:Int)=(↑x:Int)/\True)/\True)/\(∀x_0:Nat,((x_0<=zc)->((zc<=aJ)->(((decide ((↑x_0:Int) < (↑zc:Int)))=true->((0:Int)<=(↑x_0:Int)/\(↑x_0:Int) < (↑zc:Int))/\((0:Int)<=(↑x_0:Int)/\(↑x_0:Int) < ze)/\(((!((nth aF zb x_0).1 == (nth aF zd x_0).1 && (decide ((nth aF zb x_0).2.1=(nth aF zd x_0).2.1) && (decide ((nth aF zb x_0).2.2.1=(nth aF zd x_0).2.2.1) && true))))=true->(za))/\((!((nth aF zb x_0).1 == (nth aF zd x_0).1 && (decide ((nth aF zb x_0).2.1=(nth aF zd x_0).2.1) && (decide ((nth aF zb x_0).2.2.1=(nth aF zd x_0).2.2.1) && true))))=false->((aE (↑x_0:Int))->((aE (1:Int))->(aE ((↑x_0:Int) + (1:Int)))/\(∃(x':Nat),x'<=zc/\zc - x' < zc - x_0/\((↑x_0:Int) + (1:Int)=(↑x':Int)/\True)/\(b.1=b.1/\zd=zd/\zf=zf/\True)/\(a.1=a.1/\zb=zb/\zg=zg/\True)/\True))))))/\((decide ((↑x_0:Int) < (↑zc:Int)))=false->(True)/\(a=b->oa zg zf=true))))))))))))) (by kernel_rfl) ?_
 dsimp -iota -proj -eta only
 refine ⟨fun h0 => ?a,fun h0 h1 h2=>iN (fun h3 => ?b) (fun h3=>⟨?c,fun x_0 q_0 h4=>iL (fun h5=>⟨?d,?e,⟨fun h6 => ?f,fun h6 h7 h8=>⟨?g,?h⟩⟩⟩) (fun h5=>⟨trivial,?i⟩)⟩)⟩
 case a=>
  simp only [bl,reduceCtorEq] at h0
  intro e;subst e;exact absurd rfl h0
 case b=>
  simp only [bl,reduceCtorEq] at h0
  intro e;subst e;exact absurd rfl h3
 case c=>
  simp only [bl,reduceCtorEq] at h0
  exact ⟨0,by omega,⟨rfl,trivial⟩,trivial⟩
 case d|e=>
  simp only [bl,reduceCtorEq] at h0
  omega
 case f=>
  simp only [bl,reduceCtorEq] at h0 h6
  intro e;subst e;simp at h6
 case g=>
  simp only [bl,reduceCtorEq] at h0 h6
  simp only [aE,aJ] at *;omega
 case h=>
  simp only [bl,reduceCtorEq] at h0 h6
  exact ⟨x_0 + 1,by omega,by omega,⟨by omega,trivial⟩,(by trivial)⟩
 case i=>
  simp only [bl,reduceCtorEq] at h0
  intro e;subst e;exact decide_eq_true rfl
theorem Tryz.IN:bK Tryz.prog Tryz.B.eT Tryz.X 34 [aI,aI] [.bool] (fun _=>True) (fun x y=>x.1=x.2->y=true):=
 bM (X:=Tryz.X) Tryz.Ko Tryz.func34 (by kernel_rfl) (fun x=>E6 x.1 x.2) (fun x hw hp=>IM x.1 x.2 hw)
end Go.Proofs.YtgokjhhcfemnhabGreatDoor

namespace Go.Proofs.YtgokjhhcfemnhabGreatDoor
open Go.Vg Go.Mrl
noncomputable def Tryz.E7:List (FuncId × (Bool × bQ)):=[(45,(true,aL [.slice (.int .i64), .slice (.int .i64)] [.bool] (fun _=>True) (fun x=>lP x.1 x.2)))]
theorem Tryz.Kp:bT Tryz.prog Tryz.B Tryz.X Tryz.E7:=
 aP (aC Tryz.tX) (bW Tryz.bX)
def E8 (a:List (D bR)) (b:List (D bR)):cN:=[
 (0,fun st=>{X:=Nat,inv:=fun i=>i<=a.length,bA:=fun i=>a.length - i,aS:=fun i=>[(5,sI i)],aX:=[0,1]})]
theorem IP (a:List (D bR)) (b:List (D bR)) (hw:eE [.slice bR, .slice bR] (a,b)):(cM Tryz.B Tryz.E7 Tryz.f22 (E8 a b) [.slice bR, .slice bR] [.bool] (fun x y=>x.1=x.2->y=true) (a,b)).holds:=by
 refine holds_of (p:=
  let za:=List.length a
  let zb:=(↑(List.length b):Int)
  let zc:=a=b->false=true
  let zd:=fun (x_0:Nat)=>(0:Int)<=(↑x_0:Int)/\(↑x_0:Int) < (↑za:Int)
  let ze:=fun (x_0:Nat)=>(0:Int)<=(↑x_0:Int)/\(↑x_0:Int) < zb
  ((za<=aJ)->((List.length b<=aJ)->((((↑za:Int) != zb)=true->(zc))/\(((↑za:Int) != zb)=false->(∃(x:Nat),x<=za/\((0:Int)=(↑x:Int)/\True)/\True)/\(∀x_0:Nat,((x_0<=za)->((za<=aJ)->(((decide ((↑x_0:Int) < (↑za:Int)))=true->(zd x_0)/\(ze x_0)/\(True)/\(zd x_0)/\(ze x_0)/\(((!(nth bR a x_0).1 == (nth bR b x_0).1)=true->(zc))/\((!(nth bR a x_0).1 == (nth bR b x_0).1)=false->(zd x_0)/\(ze x_0)/\((((nth bR a x_0).2.1 != (nth bR b x_0).2.1)=true->(zc))/\(((nth bR a x_0).2.1 != (nth bR b x_0).2.1)=false->(((!lP (nth bR a x_0).2.2.1 (nth bR b x_0).2.2.1)=true->(zc))/\((!lP (nth bR a x_0).2.2.1 (nth bR b x_0).2.2.1)=false->((aE (↑x_0:Int))->((aE (1:Int))->(aE ((↑x_0:Int) + (1:Int)))/\(∃(x':Nat),x'<=za/\za - x' < za - x_0/\((↑x_0:Int) + (1:Int)=(↑x':Int)/\True)/\True))))))))))/\((decide ((↑x_0:Int) < (↑za:Int)))=false->(a=b->true=true))))))))))) (by kernel_rfl) ?_
 dsimp -iota -proj -eta only
 refine fun h0 h1=>iN (fun h2=>(by intro e;subst e;exact absurd rfl h2)) (fun h2=>⟨(⟨0,by omega,⟨rfl,trivial⟩,trivial⟩),fun x_0 q_0 h3=>iL (fun h4=>⟨?a,?b,trivial,?c,?d,⟨fun h5 => ?e,fun h5=>⟨?f,?g,iN (fun h6 => ?h) (fun h6=>iB (fun h7 => ?i) (fun h7 h8 h9=>⟨?j,?k⟩))⟩⟩⟩) (fun h4=>(by simp_all))⟩)
 case a|b|c|d=>omega
 case e=>
  simp only [bl,reduceCtorEq] at h5
  intro e;subst e;exact absurd rfl h5
 case f|g=>
  simp only [bl,reduceCtorEq] at h5
  omega
 case h=>
  simp only [bl,reduceCtorEq] at h5
  intro e;subst e;exact absurd rfl h6
 case i=>
  simp only [bl,reduceCtorEq] at h5
  intro e;subst e;simp [lP] at h7
 case j=>
  simp only [bl,reduceCtorEq] at h5
  simp only [aE,aJ] at *;omega
 case k=>
  simp only [bl,reduceCtorEq] at h5
  exact ⟨x_0 + 1,by omega,by omega,⟨by omega,trivial⟩,(by trivial)⟩
theorem Tryz.IQ:bK Tryz.prog Tryz.B.eT Tryz.X 22 [.slice bR, .slice bR] [.bool] (fun _=>True) (fun x y=>x.1=x.2->y=true):=
 bM (X:=Tryz.X) Tryz.Kp Tryz.func22 (by kernel_rfl) (fun x=>E8 x.1 x.2) (fun x hw hp=>IP x.1 x.2 hw)
end Go.Proofs.YtgokjhhcfemnhabGreatDoor

namespace Go.Proofs.YtgokjhhcfemnhabGreatDoor
open Go.Vg Go.Mrl
def E9 (e:D aI):cN:=[
 (0,fun st=>{X:=Nat,inv:=fun i=>i<=e.2.1.length/\∀j,j < i->(nth aF e.2.1 j).1.length<=20,bA:=fun i=>e.2.1.length - i,aS:=fun i=>[(3,sI i)],aX:=[1]})]
theorem FD (e:D aI) (hw:eE [aI] e):(cM Tryz.B [] Tryz.f27 (E9 e) [aI] [.bool] (fun e y=>y=true->nR e) e).holds:=by
 refine holds_of (p:=
  let za:=false=true->nR e
  let zb:=e.2.1
  let zc:=List.length zb
  let zd:=e.2.2.1
  let ze:=fun (x_0:Nat)=>List.length (nth aF zb x_0).1
  ((List.length e.1<=aJ)->(((decide ((↑(List.length e.1):Int) > (20:Int)))=true->(za))/\((decide ((↑(List.length e.1):Int) > (20:Int)))=false->((zc<=aJ)->(((decide ((↑zc:Int) > (8:Int)))=true->(za))/\((decide ((↑zc:Int) > (8:Int)))=false->((List.length zd<=aJ)->(((decide ((↑(List.length zd):Int) > (40:Int)))=true->(za))/\((decide ((↑(List.length zd):Int) > (40:Int)))=false->(∃(x:Nat),(x<=zc/\∀(j:Nat),j < x->List.length (nth aF zb j).1<=(20:Nat))/\((0:Int)=(↑x:Int)/\True)/\True)/\(∀x_0:Nat,((x_0<=zc/\∀(j:Nat),j < x_0->List.length (nth aF zb j).1<=(20:Nat))->((zc<=aJ)->(((decide ((↑x_0:Int) < (↑zc:Int)))=true->((0:Int)<=(↑x_0:Int)/\(↑x_0:Int) < (↑zc:Int))/\((ze x_0<=aJ)->(((decide ((↑(ze x_0):Int) > (20:Int)))=true->(za))/\((decide ((↑(ze x_0):Int) > (20:Int)))=false->((aE (↑x_0:Int))->((aE (1:Int))->(aE ((↑x_0:Int) + (1:Int)))/\(∃(x':Nat),(x'<=zc/\∀(j:Nat),j < x'->List.length (nth aF zb j).1<=(20:Nat))/\zc - x' < zc - x_0/\((↑x_0:Int) + (1:Int)=(↑x':Int)/\True)/\(e.1=e.1/\zb=zb/\zd=zd/\True)/\True)))))))/\((decide ((↑x_0:Int) < (↑zc:Int)))=false->(true=true->nR e)))))))))))))))) (by kernel_rfl) ?_
 dsimp -iota -proj -eta only
 refine fun h0=>iL (fun h1 => ?a) (fun h1 h2=>iL (fun h3 => ?b) (fun h3 h4=>iL (fun h5 => ?c) (fun h5=>⟨?d,fun x_0 q_0 h6=>iL (fun h7=>⟨(by omega),fun h8=>iL (fun h9 => ?e) (fun h9 h10 h11=>⟨(by simp only [aE,aJ] at *;omega),(⟨x_0 + 1,⟨by omega,jA q_0.2 (by omega)⟩,by omega,⟨by omega,trivial⟩,(by trivial)⟩)⟩)⟩) (fun h7=>(fun _=>⟨by omega,by omega,by omega,fun i hi=>q_0.2 i (by omega)⟩))⟩)))
 case a|b|c|e=>simp_all
 case d=>refine ⟨0,?_⟩;(repeat' (first | exact trivial | rfl | omega | assumption | apply And.intro))
theorem Tryz.qy:bK Tryz.prog Tryz.B.eT Tryz.X 27 [aI] [.bool] (fun _=>True) (fun e y=>y=true->nR e):=
 bM (X:=Tryz.X) (bW Tryz.bX) Tryz.func27 (by kernel_rfl) (fun x=>E9 x) (fun x hw hp=>FD x hw)
noncomputable def Tryz.IS:List (FuncId × (Bool × bQ)):=[(27,(true,km [aI] [.bool] (fun _=>True) (fun e y=>y=true->nR e)))]
theorem Tryz.NP:bT Tryz.prog Tryz.B Tryz.X Tryz.IS:=
 aP (gu Tryz.qy) (bW Tryz.bX)
def Fa (l:List (D bV)) (m:Int):cN:=[
 (0,fun st=>{X:=Nat × Int,inv:=fun x=>x.1<=l.length/\(0<=x.2/\x.2<=20000)/\∀j,j < x.1->wX (nth bV l j),bA:=fun x=>l.length - x.1,aS:=fun x=>[(6,sI x.1),(5,sI x.2)],aX:=[0]})]
theorem IT (l:List (D bV)) (m:Int) (hw:eE [.slice bV, .int .i64] (l,m)):(cM (Mh Tryz.B) Tryz.IS Tryz.f7 (Fa l m) [.slice bV, .int .i64] [.bool] (fun x y=>y=true->oI x.1 x.2) (l,m)).holds:=by
 refine holds_of (p:=
  let za:=List.length l
  let zb:=false=true->oI l m
  let zc:=fun (x_0:Nat × Int)=>(↑x_0.1:Int) < (↑za:Int)
  let zd:=fun (x_0:Nat × Int)=>(0:Int)<=(↑x_0.1:Int)/\zc x_0
  let ze:=fun (x_0:Nat × Int)=>List.length (nth bV l x_0.1).2.2.1
  let zf:=fun (x_0:Nat × Int)=>List.length (nth bV l x_0.1).2.1
  ((za<=aJ)->(((decide ((↑za:Int) > m))=true->(zb))/\((decide ((↑za:Int) > m))=false->(∃(x:Nat × Int),(x.1<=za/\((0:Int)<=x.2/\x.2<=(20000:Int))/\∀(j:Nat),j < x.1->wX (nth bV l j))/\((0:Int)=(↑x.1:Int)/\(0:Int)=x.2/\True)/\True)/\(∀x_0:Nat × Int,((x_0.1<=za/\((0:Int)<=x_0.2/\x_0.2<=(20000:Int))/\∀(j:Nat),j < x_0.1->wX (nth bV l j))->((za<=aJ)->(((decide (zc x_0))=true->(zd x_0)/\((ze x_0<=aJ)->(∀x_1:Int,((x_1=IntKind.wrap IntKind.i64 (x_0.2 + (↑(ze x_0):Int)))->(zd x_0)/\((zf x_0<=aJ)->(((decide ((↑(zf x_0):Int) > (100:Int)))=true->(zb))/\((decide ((↑(zf x_0):Int) > (100:Int)))=false->(zd x_0)/\((ze x_0<=aJ)->(((decide ((↑(ze x_0):Int) > (1300:Int)))=true->(zb))/\((decide ((↑(ze x_0):Int) > (1300:Int)))=false->(((decide (x_1 > (20000:Int)))=true->(zb))/\((decide (x_1 > (20000:Int)))=false->(zd x_0)/\(True)/\(∀x_2:Bool,((x_2=true->nR (nth bV l x_0.1).2.2.2.2.2.1)->(((!x_2)=true->(zb))/\((!x_2)=false->(∀x_3:Int,((x_3=IntKind.wrap IntKind.i64 ((↑x_0.1:Int) + (1:Int)))->(∃(x':Nat × Int),(x'.1<=za/\((0:Int)<=x'.2/\x'.2<=(20000:Int))/\∀(j:Nat),j < x'.1->wX (nth bV l j))/\za - x'.1 < za - x_0.1/\(x_3=(↑x'.1:Int)/\x_1=x'.2/\True)/\True)))))))))))))))))))/\((decide (zc x_0))=false->(true=true->oI l m)))))))))) (by kernel_rfl) ?_
 dsimp -iota -proj -eta only
 refine fun h0=>iL (fun h1 => ?a) (fun h1=>⟨(by exact ⟨(0,0),⟨by omega,by simp,fun j hj=>by simp only at hj;omega⟩,⟨rfl,rfl,trivial⟩,trivial⟩),fun x_0 q_0 h2=>iL (fun h3=>⟨?b,fun h4 x_1 q_1=>⟨?c,fun h5=>iL (fun h6 => ?d) (fun h6=>⟨?e,fun h7=>iL (fun h8 => ?f) (fun h8=>iL (fun h9 => ?g) (fun h9=>⟨?h,trivial,fun x_2 q_2=>iB (fun h10 => ?i) (fun h10 x_3 q_3 => ?j)⟩))⟩)⟩⟩) (fun h3=>(fun _=>⟨by omega,fun i hi=>q_0.2.2 i (by omega)⟩))⟩)
 case a|d|f|g|i=>simp_all
 case b|c|e|h=>omega
 case j=>
  have hw2:IntKind.wrap IntKind.i64 (x_0.2 + (List.length (nth bV l x_0.1).2.2.1:Int))=x_0.2 + (List.length (nth bV l x_0.1).2.2.1:Int):=tM (by omega) (by omega)
  have hw3:IntKind.wrap IntKind.i64 ((x_0.1:Int) + 1)=(x_0.1:Int) + 1:=tM (by omega) (by have:(aJ:Int)=9223372036854775807:=rfl;omega)
  exact ⟨(x_0.1 + 1,_),⟨by omega,by simp only;omega,jA q_0.2.2 ⟨by omega,by omega,by simp_all⟩⟩,by simp only;omega,⟨by simp only;omega,rfl,trivial⟩,(by trivial)⟩
theorem Tryz.xR:bK Tryz.prog Tryz.B.eT Tryz.X 7 [.slice bV, .int .i64] [.bool] (fun _=>True) (fun x y=>y=true->oI x.1 x.2):=
 bM (B:=(Mh Tryz.B)) (X:=Tryz.X) (bT.wrap Tryz.NP) Tryz.func7 (by kernel_rfl) (fun x=>Fa x.1 x.2) (fun x hw hp=>IT x.1 x.2 hw)
end Go.Proofs.YtgokjhhcfemnhabGreatDoor

