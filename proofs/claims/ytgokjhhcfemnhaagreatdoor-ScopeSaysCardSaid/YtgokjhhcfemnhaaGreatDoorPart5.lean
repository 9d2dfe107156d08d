/- A part of the proof that the law ScopeSaysCard holds of the given program: facts that are used there. -/
import Derived.Test.YtgokjhhcfemnhaaGreatDoorPart4
set_option linter.unusedSimpArgs false
set_option linter.unusedVariables false
set_option maxRecDepth 100000
set_option maxHeartbeats 4000000
namespace Go.Proofs.YtgokjhhcfemnhaaGreatDoor
open Go.Vg Go.Mrl
noncomputable def Tryz.FR:List (FuncId × (Bool × bQ)):=[(101,(true,aM [.str] [.slice .str] (fun s=>s.length<=1000000) (fun s=>parts 32 s))),
 (100,(true,aM [.str] [.slice .str, .bool] (fun s=>s.length<=1000000) (fun s=>(gx s,qN s)))),
 (102,(true,aM [.str] [.int .i64, .bool] (fun _=>True) (fun s=>(nw s,lr s)))),
 (103,(true,aM [aA] [.int .i64] (fun _=>True) (fun o=>bA o))),
 (104,(true,aM [aA] [.str, .int .i64] (fun o=>bA o=0) (fun o=>fN o)))]
theorem Tryz.Hl:bZ Tryz.prog Tryz.B Tryz.X Tryz.FR:=
 aO (aG Tryz.FO) (aO (aG Tryz.FQ) (aO (aG Tryz.D3) (aO (aG Tryz.FB) (aO (aG Tryz.FM) (cm Tryz.cn)))))
def FT (s:List UInt8):cu:=[
 (0,fun st=>{X:=Nat × D aA,inv:=fun x=>fT (gx s) x.1 x.2,aY:=fun x=>(gx s).length - x.1,aQ:=fun x=>[(7,sI x.1)],aT:=[0,2,4,6],aE:=fun x=>[(bD st 6, .cells 88 [.app .str x.2.1 (jb st (bD st 6) 0), .app (.int .i64) x.2.2.1 (jb st (bD st 6) 1), .app aD x.2.2.2.1 (jb st (bD st 6) 2), .app aL x.2.2.2.2.1 (jb st (bD st 6) 3)]),(jb st (bD st 6) 0, .tok .str x.2.1),(jb st (bD st 6) 1, .tok (.int .i64) x.2.2.1),(jb st (bD st 6) 2, .tok aD x.2.2.2.1),(jb st (bD st 6) 3, .tok aL x.2.2.2.2.1)],fg:=[bD st 6,jb st (bD st 6) 0,jb st (bD st 6) 1,jb st (bD st 6) 2,jb st (bD st 6) 3]}),
 (300010,fun st=>{X:=List (List UInt8),inv:=fun w=>w=parts 32 (nth .str (gx s) (Int.toNat (bO (.int .i64) st 7))),aY:=fun _=>0,aQ:=fun w=>[(8,sD (.slice .str) w)],aT:=[0,2,3,4,6,7,29,30,31,32]}),
 (400013,fun st=>{X:=List (List UInt8),inv:=fun w=>∀o:D aA,fu o (nth .str (gx s) (Int.toNat (bO (.int .i64) st 7)))=dS o (nth .str (bO (.slice .str) st 8) 0 == ir) w,aY:=fun _=>0,aQ:=fun w=>[(8,sD (.slice .str) w)],aT:=[0,2,3,4,6,7,9,29,30,31,32,35,36,37,38,39,40,41,42,43,44]}),
 (2,fun st=>{X:=Nat,inv:=fun k=>1<=k/\k<=3/\(k=1\/k<=List.length (bO (.slice .str) st 8)),aY:=fun k=>3 - k,aQ:=fun k=>[(11,sI k),(10, .s (.one (.app (.int .i64) (cy (bO (.slice .str) st 8) k) (bD st 10))))],aE:=fun k=>[(bD st 10, .tok (.int .i64) (cy (bO (.slice .str) st 8) k))],aT:=[0,2,3,4,6,7,8,9,29,30,31,32,35,36,37,38,39,40,41,42,43,44,45,46],fg:=[bD st 10]}),
 (300016,fun st=>{X:=Bool,inv:=fun c=>c=true ↔ ((bO (.int .i64) st 11) < List.length (bO (.slice .str) st 8)/\(bO (.int .i64) st 11) < 3),aY:=fun _=>0,aQ:=fun c=>[(54,sB c)],aT:=[0,2,3,4,6,7,8,9,10,11,29,30,31,32,35,36,37,38,39,40,41,42,43,44,45,46]}),
 (300023,fun st=>{X:=Bool,inv:=fun c=>c=true ↔ (List.length (bO (.slice .str) st 8)=2/\nth .str (bO (.slice .str) st 8) 0=dn),aY:=fun _=>0,aQ:=fun c=>[(72,sB c)],aT:=[0,2,3,4,6,7,8,9,10,11,12,13,29,30,31,32,35,36,37,38,39,40,41,42,43,44,45,46,47,48,49,50,51,52,53,54,55,56,57,58,59,60,61,62,63,64,65,66,67,68,69,70]}),
 (300025,fun st=>{X:=Bool,inv:=fun c=>c=true ↔ (List.length (bO (.slice .str) st 8)=2/\nth .str (bO (.slice .str) st 8) 0=c8),aY:=fun _=>0,aQ:=fun c=>[(90,sB c)],aT:=[0,2,3,4,6,7,8,9,10,11,12,13,29,30,31,32,35,36,37,38,39,40,41,42,43,44,45,46,47,48,49,50,51,52,53,54,55,56,57,58,59,60,61,62,63,64,65,66,67,68,69,70,72,73,74,75,76,77,78,79,80,81,82,83,84,85,86,87,88,89]}),
 (300027,fun st=>{X:=Bool,inv:=fun c=>c=true ↔ (List.length (bO (.slice .str) st 8)=3/\nth .str (bO (.slice .str) st 8) 0=cI),aY:=fun _=>0,aQ:=fun c=>[(108,sB c)],aT:=[0,2,3,4,6,7,8,9,10,11,12,13,29,30,31,32,35,36,37,38,39,40,41,42,43,44,45,46,47,48,49,50,51,52,53,54,55,56,57,58,59,60,61,62,63,64,65,66,67,68,69,70,72,73,74,75,76,77,78,79,80,81,82,83,84,85,86,87,88,89,90,91,92,93,94,95,96,97,98,99,100,101,102,103,104,105,106,107]}),
 (300029,fun st=>{X:=Bool,inv:=fun c=>c=true ↔ (List.length (bO (.slice .str) st 8)=3/\nth .str (bO (.slice .str) st 8) 0=ey),aY:=fun _=>0,aQ:=fun c=>[(131,sB c)],aT:=[0,2,3,4,6,7,8,9,10,11,12,13,29,30,31,32,35,36,37,38,39,40,41,42,43,44,45,46,47,48,49,50,51,52,53,54,55,56,57,58,59,60,61,62,63,64,65,66,67,68,69,70,72,73,74,75,76,77,78,79,80,81,82,83,84,85,86,87,88,89,90,91,92,93,94,95,96,97,98,99,100,101,102,103,104,105,106,107,108,109,110,111,112,113,114,115,116,117,118,119,120,121,122,123,124,125,126,127,128,129,130]}),
 (300031,fun st=>{X:=Bool,inv:=fun c=>c=true ↔ (List.length (bO (.slice .str) st 8)=4/\nth .str (bO (.slice .str) st 8) 0=dw),aY:=fun _=>0,aQ:=fun c=>[(154,sB c)],aT:=[0,2,3,4,6,7,8,9,10,11,12,13,29,30,31,32,35,36,37,38,39,40,41,42,43,44,45,46,47,48,49,50,51,52,53,54,55,56,57,58,59,60,61,62,63,64,65,66,67,68,69,70,72,73,74,75,76,77,78,79,80,81,82,83,84,85,86,87,88,89,90,91,92,93,94,95,96,97,98,99,100,101,102,103,104,105,106,107,108,109,110,111,112,113,114,115,116,117,118,119,120,121,122,123,124,125,126,127,128,129,130,131,132,133,134,135,136,137,138,139,140,141,142,143,144,145,146,147,148,149,150,151,152,153]}),
 (300033,fun st=>{X:=Bool,inv:=fun c=>c=true ↔ (List.length (bO (.slice .str) st 8)=4/\nth .str (bO (.slice .str) st 8) 0=dW),aY:=fun _=>0,aQ:=fun c=>[(180,sB c)],aT:=[0,2,3,4,6,7,8,9,10,11,12,13,29,30,31,32,35,36,37,38,39,40,41,42,43,44,45,46,47,48,49,50,51,52,53,54,55,56,57,58,59,60,61,62,63,64,65,66,67,68,69,70,72,73,74,75,76,77,78,79,80,81,82,83,84,85,86,87,88,89,90,91,92,93,94,95,96,97,98,99,100,101,102,103,104,105,106,107,108,109,110,111,112,113,114,115,116,117,118,119,120,121,122,123,124,125,126,127,128,129,130,131,132,133,134,135,136,137,138,139,140,141,142,143,144,145,146,147,148,149,150,151,152,153,154,155,156,157,158,159,160,161,162,163,164,165,166,167,168,169,170,171,172,173,174,175,176,177,178,179]})]
theorem An (s:List UInt8) (hw:ec [.str] s):(cD Tryz.B Tryz.FR Tryz.f70 (FT s) [.str] [aA, .int .i64] (fun x y=>y=(fun s=>bJ s) x) s).holds:=by
 refine holds_of (p:=
  let za:=List.length s
  let zb:=([],[],[],[],())
  let zc:=(zb,(4:Int))=bJ s
  let zd:=List UInt8
  let ze:=List zd
  let zf:=ze × List Int × List (zd × Int × Bool × Unit) × List (Int × Int × Int × zd × Bool × Unit) × Unit
  let zg:=Nat × zf
  let zh:=gx s
  let zi:=fun (x_0:Nat × List (List UInt8) × List Int × List (List UInt8 × Int × Bool × Unit) × List (Int × Int × Int × List UInt8 × Bool × Unit) × Unit)=>(↑x_0.1:Int) < (↑(List.length zh):Int)
  let zj:=fun (x_0:Nat × List (List UInt8) × List Int × List (List UInt8 × Int × Bool × Unit) × List (Int × Int × Int × List UInt8 × Bool × Unit) × Unit)=>nth Ty.str zh x_0.1
  let zk:=fun (x_0:Nat × List (List UInt8) × List Int × List (List UInt8 × Int × Bool × Unit) × List (Int × Int × Int × List UInt8 × Bool × Unit) × Unit)=>parts (32:UInt8) (zj x_0)
  let zl:=fun (x_0:Nat × List (List UInt8) × List Int × List (List UInt8 × Int × Bool × Unit) × List (Int × Int × Int × List UInt8 × Bool × Unit) × Unit)=>x_0.2.1=x_0.2.1
  let zm:=fun (x_0:Nat × List (List UInt8) × List Int × List (List UInt8 × Int × Bool × Unit) × List (Int × Int × Int × List UInt8 × Bool × Unit) × Unit)=>x_0.2.2.1
  let zn:=fun (x_0:Nat × List (List UInt8) × List Int × List (List UInt8 × Int × Bool × Unit) × List (Int × Int × Int × List UInt8 × Bool × Unit) × Unit)=>x_0.2.2.2.1
  let zo:=fun (x_0:Nat × List (List UInt8) × List Int × List (List UInt8 × Int × Bool × Unit) × List (Int × Int × Int × List UInt8 × Bool × Unit) × Unit)=>x_0.2.2.2.2.1
  let zp:=fun (x_0:Nat × List (List UInt8) × List Int × List (List UInt8 × Int × Bool × Unit) × List (Int × Int × Int × List UInt8 × Bool × Unit) × Unit)=>zo x_0=zo x_0
  let zq:=@List.nil (Int × Int × Int × List UInt8 × Bool × Unit) = @List.nil (Int × Int × Int × List UInt8 × Bool × Unit)
  let zr:=@List.nil (List UInt8 × Int × Bool × Unit) = @List.nil (List UInt8 × Int × Bool × Unit)
  let zs:=@List.nil Int = @List.nil Int
  let zt:=@List.nil (List UInt8) = @List.nil (List UInt8)
  let zu:=zq/\zr/\zs/\zt/\(zt/\zs/\zr/\zq/\True)/\zq/\zr/\zs/\zt/\True
  let zv:=fun (x_0:Nat × List (List UInt8) × List Int × List (List UInt8 × Int × Bool × Unit) × List (Int × Int × Int × List UInt8 × Bool × Unit) × Unit)=>(zl x_0/\zm x_0=zm x_0/\zn x_0=zn x_0/\zp x_0/\True)/\zl x_0/\zm x_0=zm x_0/\zn x_0=zn x_0/\zp x_0/\zu
  let zw:=(0:Int)<=(0:Int)
  let zx:=fun (x_1:List (List UInt8))=>List.length x_1
  let zy:=fun (x_1:List (List UInt8))=>(↑(zx x_1):Int)
  let zz:=fun (x_1:List (List UInt8))=>zw/\(0:Int) < zy x_1
  let zaa:=fun (x_1:List (List UInt8))=>nth Ty.str x_1 (0:Nat)
  let zab:=fun (x_1:List (List UInt8))=>zaa x_1 == [(119:UInt8),101,97,107]
  let zac:=(0:Int)<=(1:Int)
  let zad:=fun (x_2:List (List UInt8))=>zx x_2<=aH
  let zae:=fun (x_3:Nat) (x_2:List (List UInt8))=>(↑x_3:Int) < zy x_2/\(↑x_3:Int) < (3:Int)
  let zaf:=fun (x_2:List (List UInt8)) (x_3:Nat)=>cy x_2 x_3=cy x_2 x_3
  let zag:=fun (x_2:List (List UInt8)) (x_3:Nat) (x_0:Nat × List (List UInt8) × List Int × List (List UInt8 × Int × Bool × Unit) × List (Int × Int × Int × List UInt8 × Bool × Unit) × Unit)=>zaf x_2 x_3/\zv x_0
  let zah:=aJ (1:Int)
  let zai:=fun (x_3:Nat)=>(↑x_3:Int) + (1:Int)
  let zaj:=fun (x_2:List (List UInt8))=>zx x_2=(2:Nat)/\zaa x_2=dn
  let zak:=fun (x_0:Nat × List (List UInt8) × List Int × List (List UInt8 × Int × Bool × Unit) × List (Int × Int × Int × List UInt8 × Bool × Unit) × Unit)=>aJ (↑x_0.1:Int)
  let zal:=fun (x_0:Nat × List (List UInt8) × List Int × List (List UInt8 × Int × Bool × Unit) × List (Int × Int × Int × List UInt8 × Bool × Unit) × Unit)=>(↑x_0.1:Int) + (1:Int)
  let zam:=fun (x_0:Nat × List (List UInt8) × List Int × List (List UInt8 × Int × Bool × Unit) × List (Int × Int × Int × List UInt8 × Bool × Unit) × Unit)=>aJ (zal x_0)
  let zan:=List.length zh
  let zao:=fun (x_0:Nat × List (List UInt8) × List Int × List (List UInt8 × Int × Bool × Unit) × List (Int × Int × Int × List UInt8 × Bool × Unit) × Unit)=>zan - x_0.1
  let zap:=fun (x_2:List (List UInt8))=>zx x_2=(2:Nat)/\zaa x_2=c8
  let zaq:=fun (x_2:List (List UInt8)) (x_3:Nat)=>zw/\(0:Int) < (↑(List.length (cy x_2 x_3)):Int)
  let zar:=fun (x_2:List (List UInt8)) (x_3:Nat)=>nth (Ty.int IntKind.i64) (cy x_2 x_3) (0:Nat)
  let zas:=fun (x_2:List (List UInt8))=>zx x_2=(3:Nat)/\zaa x_2=cI
  let zat:=fun (x_2:List (List UInt8)) (x_3:Nat)=>zac/\(1:Int) < (↑(List.length (cy x_2 x_3)):Int)
  let zau:=fun (x_2:List (List UInt8)) (x_3:Nat)=>nth (Ty.int IntKind.i64) (cy x_2 x_3) (1:Nat)
  let zav:=fun (x_2:List (List UInt8))=>zx x_2=(3:Nat)/\zaa x_2=ey
  let zaw:=fun (x_2:List (List UInt8)) (x_3:Nat) (x_1:List (List UInt8))=>[(zar x_2 x_3,(1:Int),zau x_2 x_3,@List.nil UInt8,zab x_1,())]
  let zax:=fun (x_2:List (List UInt8))=>zx x_2=(4:Nat)/\zaa x_2=dw
  let zay:=fun (x_2:List (List UInt8))=>(0:Int)<=(3:Int)/\(3:Int) < zy x_2
  let zaz:=fun (x_2:List (List UInt8)) (x_3:Nat) (x_1:List (List UInt8))=>[(zar x_2 x_3,(2:Int),zau x_2 x_3,nth Ty.str x_2 (3:Nat),zab x_1,())]
  let zba:=fun (x_2:List (List UInt8))=>zx x_2=(4:Nat)/\zaa x_2=dW
  let zbb:=fun (x_2:List (List UInt8)) (x_3:Nat) (x_1:List (List UInt8))=>[(zar x_2 x_3,(3:Int),zau x_2 x_3,nth Ty.str x_2 (3:Nat),zab x_1,())]
  ((za<=aH)->(((decide ((↑za:Int) > (1200:Int)))=true->((zb,(2:Int))=bJ s))/\((decide ((↑za:Int) > (1200:Int)))=false->(za<=(1000000:Nat))/\(((!qN s)=true->(zc))/\((!qN s)=false->(∃(x:zg),fT zh (Prod.fst x) (Prod.snd x)/\((0:Int)=(↑(Prod.fst x):Int)/\True)/\(@List.nil (List UInt8)=(Prod.snd x).1/\@List.nil Int=(Prod.snd x).2.1/\@List.nil (List UInt8 × Int × Bool × Unit)=(Prod.snd x).2.2.1/\@List.nil (Int × Int × Int × List UInt8 × Bool × Unit)=(Prod.snd x).2.2.2.1/\True)/\@List.nil (List UInt8)=(Prod.snd x).1/\@List.nil Int=(Prod.snd x).2.1/\@List.nil (List UInt8 × Int × Bool × Unit)=(Prod.snd x).2.2.1/\@List.nil (Int × Int × Int × List UInt8 × Bool × Unit)=(Prod.snd x).2.2.2.1/\True)/\(∀x_0:Nat × List (List UInt8) × List Int × List (List UInt8 × Int × Bool × Unit) × List (Int × Int × Int × List UInt8 × Bool × Unit) × Unit,((fT zh x_0.1 x_0.2)->((List.length zh<=aH)->(((decide (zi x_0))=true->((((0:Int)<=(↑x_0.1:Int)/\zi x_0)/\(List.length (zj x_0)<=(1000000:Nat))/\(∃(x':ze),x'=zk x_0/\(zk x_0=x'/\True)/\zv x_0))/\((∀x_1:List (List UInt8),((x_1=zk x_0)->(zz x_1)/\(((((zab x_1)=true->(zac/\(1:Int)<=zy x_1/\zy x_1<=zy x_1)/\(∃(x':ze),(∀(o:zf),fu o (zj x_0)=dS o (zaa x_1 == ir) x')/\(List.drop (1:Nat) (List.take (zx x_1) x_1)=x'/\True)/\zv x_0))/\((zab x_1)=false->(∃(x':ze),(∀(o:zf),fu o (zj x_0)=dS o (zaa x_1 == ir) x')/\(x_1=x'/\True)/\zv x_0))))/\((∀x_2:List (List UInt8),((∀(o:zf),fu o (zj x_0)=dS o (zaa x_1 == ir) x_2)->(∃(x:Nat),((1:Nat)<=x/\x<=(3:Nat)/\(x=(1:Nat)\/x<=zx x_2))/\((1:Int)=(↑x:Int)/\@List.nil Int=cy x_2 x/\True)/\@List.nil Int=cy x_2 x/\True)/\(∀x_3:Nat,(((1:Nat)<=x_3/\x_3<=(3:Nat)/\(x_3=(1:Nat)\/x_3<=zx x_2))->((((zad x_2)->(((decide ((↑x_3:Int) < zy x_2))=true->(∃(x':Bool),(x'=true ↔ zae x_3 x_2)/\(decide ((↑x_3:Int) < (3:Int))=x'/\True)/\zag x_2 x_3 x_0))/\((decide ((↑x_3:Int) < zy x_2))=false->(∃(x':Bool),(x'=true ↔ zae x_3 x_2)/\(false=x'/\True)/\zag x_2 x_3 x_0)))))/\((∀x_4:Bool,((x_4=true ↔ zae x_3 x_2)->(((x_4)=true->((0:Int)<=(↑x_3:Int)/\(↑x_3:Int) < zy x_2)/\(True)/\(((!lr (nth Ty.str x_2 x_3))=true->(zaf x_2 x_3/\List.length (cy x_2 x_3) + List.length [(-1099511627776:Int)]<=(1000000000:Nat))/\((aJ (↑x_3:Int))->((zah)->(aJ (zai x_3))/\(∃(x':Nat),((1:Nat)<=x'/\x'<=(3:Nat)/\(x'=(1:Nat)\/x'<=zx x_2))/\(3:Nat) - x' < (3:Nat) - x_3/\(zai x_3=(↑x':Int)/\cy x_2 x_3++[(-1099511627776:Int)]=cy x_2 x'/\True)/\cy x_2 x_3++[(-1099511627776:Int)]=cy x_2 x'/\zv x_0))))/\((!lr (nth Ty.str x_2 x_3))=false->(zaf x_2 x_3/\List.length (cy x_2 x_3) + List.length [nw (nth Ty.str x_2 x_3)]<=(1000000000:Nat))/\((aJ (↑x_3:Int))->((zah)->(aJ (zai x_3))/\(∃(x':Nat),((1:Nat)<=x'/\x'<=(3:Nat)/\(x'=(1:Nat)\/x'<=zx x_2))/\(3:Nat) - x' < (3:Nat) - x_3/\(zai x_3=(↑x':Int)/\cy x_2 x_3++[nw (nth Ty.str x_2 x_3)]=cy x_2 x'/\True)/\cy x_2 x_3++[nw (nth Ty.str x_2 x_3)]=cy x_2 x'/\zv x_0))))))/\((x_4)=false->((((zad x_2)->(((zy x_2 == (2:Int))=true->(zz x_2)/\(∃(x':Bool),(x'=true ↔ zaj x_2)/\((zaa x_2 == [(110:UInt8),101,101,100])=x'/\True)/\zag x_2 x_3 x_0))/\((zy x_2 == (2:Int))=false->(∃(x':Bool),(x'=true ↔ zaj x_2)/\(false=x'/\True)/\zag x_2 x_3 x_0)))))/\((∀x_5:Bool,((x_5=true ↔ zaj x_2)->(((x_5)=true->(zac/\(1:Int) < zy x_2)/\(zl x_0/\List.length x_0.2.1 + List.length [nth Ty.str x_2 (1:Nat)]<=(1000000000:Nat))/\((zak x_0)->((zah)->(zam x_0)/\(∃(x':zg),fT zh (Prod.fst x') (Prod.snd x')/\zan - Prod.fst x' < zao x_0/\(zal x_0=(↑(Prod.fst x'):Int)/\True)/\(x_0.2.1++[nth Ty.str x_2 (1:Nat)]=(Prod.snd x').1/\zm x_0=(Prod.snd x').2.1/\zn x_0=(Prod.snd x').2.2.1/\zo x_0=(Prod.snd x').2.2.2.1/\True)/\x_0.2.1++[nth Ty.str x_2 (1:Nat)]=(Prod.snd x').1/\zm x_0=(Prod.snd x').2.1/\zn x_0=(Prod.snd x').2.2.1/\zo x_0=(Prod.snd x').2.2.2.1/\zu))))/\((x_5)=false->((((zad x_2)->(((zy x_2 == (2:Int))=true->(zz x_2)/\(∃(x':Bool),(x'=true ↔ zap x_2)/\((zaa x_2 == [(119:UInt8),111,114,100])=x'/\True)/\zag x_2 x_3 x_0))/\((zy x_2 == (2:Int))=false->(∃(x':Bool),(x'=true ↔ zap x_2)/\(false=x'/\True)/\zag x_2 x_3 x_0)))))/\((∀x_6:Bool,((x_6=true ↔ zap x_2)->(((x_6)=true->(zaq x_2 x_3)/\(zm x_0=zm x_0/\List.length (zm x_0) + List.length [zar x_2 x_3]<=(1000000000:Nat))/\((zak x_0)->((zah)->(zam x_0)/\(∃(x':zg),fT zh (Prod.fst x') (Prod.snd x')/\zan - Prod.fst x' < zao x_0/\(zal x_0=(↑(Prod.fst x'):Int)/\True)/\(x_0.2.1=(Prod.snd x').1/\zm x_0++[zar x_2 x_3]=(Prod.snd x').2.1/\zn x_0=(Prod.snd x').2.2.1/\zo x_0=(Prod.snd x').2.2.2.1/\True)/\x_0.2.1=(Prod.snd x').1/\zm x_0++[zar x_2 x_3]=(Prod.snd x').2.1/\zn x_0=(Prod.snd x').2.2.1/\zo x_0=(Prod.snd x').2.2.2.1/\zu))))/\((x_6)=false->((((zad x_2)->(((zy x_2 == (3:Int))=true->(zz x_2)/\(∃(x':Bool),(x'=true ↔ zas x_2)/\((zaa x_2 == [(115:UInt8),121,109,98,111,108])=x'/\True)/\zag x_2 x_3 x_0))/\((zy x_2 == (3:Int))=false->(∃(x':Bool),(x'=true ↔ zas x_2)/\(false=x'/\True)/\zag x_2 x_3 x_0)))))/\((∀x_7:Bool,((x_7=true ↔ zas x_2)->(((x_7)=true->(zac/\(1:Int) < zy x_2)/\(zat x_2 x_3)/\(zn x_0=zn x_0/\List.length (zn x_0) + List.length [(nth Ty.str x_2 (1:Nat),zau x_2 x_3,zab x_1,())]<=(1000000000:Nat))/\((zak x_0)->((zah)->(zam x_0)/\(∃(x':zg),fT zh (Prod.fst x') (Prod.snd x')/\zan - Prod.fst x' < zao x_0/\(zal x_0=(↑(Prod.fst x'):Int)/\True)/\(x_0.2.1=(Prod.snd x').1/\zm x_0=(Prod.snd x').2.1/\zn x_0++[(nth Ty.str x_2 (1:Nat),zau x_2 x_3,zab x_1,())]=(Prod.snd x').2.2.1/\zo x_0=(Prod.snd x').2.2.2.1/\True)/\x_0.2.1=(Prod.snd x').1/\zm x_0=(Prod.snd x').2.1/\zn x_0++[(nth Ty.str x_2 (1:Nat),zau x_2 x_3,zab x_1,())]=(Prod.snd x').2.2.1/\zo x_0=(Prod.snd x').2.2.2.1/\zu))))/\((x_7)=false->((((zad x_2)->(((zy x_2 == (3:Int))=true->(zz x_2)/\(∃(x':Bool),(x'=true ↔ zav x_2)/\((zaa x_2 == [(98:UInt8),97,115,101])=x'/\True)/\zag x_2 x_3 x_0))/\((zy x_2 == (3:Int))=false->(∃(x':Bool),(x'=true ↔ zav x_2)/\(false=x'/\True)/\zag x_2 x_3 x_0)))))/\((∀x_8:Bool,((x_8=true ↔ zav x_2)->(((x_8)=true->(zaq x_2 x_3)/\(zat x_2 x_3)/\(zp x_0/\List.length (zo x_0) + List.length (zaw x_2 x_3 x_1)<=(1000000000:Nat))/\((zak x_0)->((zah)->(zam x_0)/\(∃(x':zg),fT zh (Prod.fst x') (Prod.snd x')/\zan - Prod.fst x' < zao x_0/\(zal x_0=(↑(Prod.fst x'):Int)/\True)/\(x_0.2.1=(Prod.snd x').1/\zm x_0=(Prod.snd x').2.1/\zn x_0=(Prod.snd x').2.2.1/\zo x_0++zaw x_2 x_3 x_1=(Prod.snd x').2.2.2.1/\True)/\x_0.2.1=(Prod.snd x').1/\zm x_0=(Prod.snd x').2.1/\zn x_0=(Prod.snd x').2.2.1/\zo x_0++zaw x_2 x_3 x_1=(Prod.snd x').2.2.2.1/\zu))))/\((x_8)=false->((((zad x_2)->(((zy x_2 == (4:Int))=true->(zz x_2)/\(∃(x':Bool),(x'=true ↔ zax x_2)/\((zaa x_2 == [(119:UInt8),104,111,108,101])=x'/\True)/\zag x_2 x_3 x_0))/\((zy x_2 == (4:Int))=false->(∃(x':Bool),(x'=true ↔ zax x_2)/\(false=x'/\True)/\zag x_2 x_3 x_0)))))/\((∀x_9:Bool,((x_9=true ↔ zax x_2)->(((x_9)=true->(zaq x_2 x_3)/\(zat x_2 x_3)/\(zay x_2)/\(zp x_0/\List.length (zo x_0) + List.length (zaz x_2 x_3 x_1)<=(1000000000:Nat))/\((zak x_0)->((zah)->(zam x_0)/\(∃(x':zg),fT zh (Prod.fst x') (Prod.snd x')/\zan - Prod.fst x' < zao x_0/\(zal x_0=(↑(Prod.fst x'):Int)/\True)/\(x_0.2.1=(Prod.snd x').1/\zm x_0=(Prod.snd x').2.1/\zn x_0=(Prod.snd x').2.2.1/\zo x_0++zaz x_2 x_3 x_1=(Prod.snd x').2.2.2.1/\True)/\x_0.2.1=(Prod.snd x').1/\zm x_0=(Prod.snd x').2.1/\zn x_0=(Prod.snd x').2.2.1/\zo x_0++zaz x_2 x_3 x_1=(Prod.snd x').2.2.2.1/\zu))))/\((x_9)=false->((((zad x_2)->(((zy x_2 == (4:Int))=true->(zz x_2)/\(∃(x':Bool),(x'=true ↔ zba x_2)/\((zaa x_2 == [(110:UInt8),101,97,114])=x'/\True)/\zag x_2 x_3 x_0))/\((zy x_2 == (4:Int))=false->(∃(x':Bool),(x'=true ↔ zba x_2)/\(false=x'/\True)/\zag x_2 x_3 x_0)))))/\((∀x_10:Bool,((x_10=true ↔ zba x_2)->(((x_10)=true->(zaq x_2 x_3)/\(zat x_2 x_3)/\(zay x_2)/\(zp x_0/\List.length (zo x_0) + List.length (zbb x_2 x_3 x_1)<=(1000000000:Nat))/\((zak x_0)->((zah)->(zam x_0)/\(∃(x':zg),fT zh (Prod.fst x') (Prod.snd x')/\zan - Prod.fst x' < zao x_0/\(zal x_0=(↑(Prod.fst x'):Int)/\True)/\(x_0.2.1=(Prod.snd x').1/\zm x_0=(Prod.snd x').2.1/\zn x_0=(Prod.snd x').2.2.1/\zo x_0++zbb x_2 x_3 x_1=(Prod.snd x').2.2.2.1/\True)/\x_0.2.1=(Prod.snd x').1/\zm x_0=(Prod.snd x').2.1/\zn x_0=(Prod.snd x').2.2.1/\zo x_0++zbb x_2 x_3 x_1=(Prod.snd x').2.2.2.1/\zu))))/\((x_10)=false->(zc))))))))))))))))))))))))))))))))))))))))))))))))))))))/\((decide (zi x_0))=false->(True)/\(((decide (bA x_0.2 > (0:Int)))=true->(zc))/\((decide (bA x_0.2 > (0:Int)))=false->(bA x_0.2=(0:Int))/\(((decide ((fN x_0.2).2 > (0:Int)))=true->(zc))/\((decide ((fN x_0.2).2 > (0:Int)))=false->(((!(fN x_0.2).1 == s)=true->(zc))/\((!(fN x_0.2).1 == s)=false->((x_0.2,(0:Int))=bJ s)))))))))))))))))) (by kernel_rfl) ?_
 dsimp -iota -proj -eta only
 refine fun h0=>iL (fun h1=>(Fh (by omega))) (fun h1=>⟨(by omega),⟨fun h2 => ?a,fun h2=>⟨?b,fun x_0 q_0 h3=>iL (fun h4=>⟨⟨?c,?d,?e⟩,fun x_1 q_1=>⟨?f,⟨iQ (fun h5=>⟨?g,?h⟩) (fun h5 => ?i),fun x_2 q_2=>⟨?j,fun x_3 q_3=>⟨fun h5=>iL (fun h6 => ?k) (fun h6 => ?l),fun x_4 q_4=>⟨fun h5=>⟨?m,trivial,⟨fun h6=>⟨?n,fun h7 h8=>⟨?o,?p⟩⟩,fun h6=>⟨?q,fun h7 h8=>⟨?r,?s⟩⟩⟩⟩,fun h5=>⟨fun h6=>iQ (fun h7=>⟨?t,?u⟩) (fun h7 => ?v),fun x_5 q_5=>⟨fun h6=>⟨?w,?x,fun h7 h8=>⟨?y,?z⟩⟩,fun h6=>⟨fun h7=>iQ (fun h8=>⟨?a0,?a1⟩) (fun h8 => ?a2),fun x_6 q_6=>⟨fun h7=>⟨?a3,?a4,fun h8 h9=>⟨?a5,?a6⟩⟩,fun h7=>⟨fun h8=>iQ (fun h9=>⟨?a7,?a8⟩) (fun h9 => ?a9),fun x_7 q_7=>⟨fun h8=>⟨?aa,?ab,?ac,fun h9 h10=>⟨?ad,?ae⟩⟩,fun h8=>⟨fun h9=>iQ (fun h10=>⟨?af,?ag⟩) (fun h10 => ?ah),fun x_8 q_8=>⟨fun h9=>⟨?ai,?aj,?ak,fun h10 h11=>⟨?al,?am⟩⟩,fun h9=>⟨fun h10=>iQ (fun h11=>⟨?an,?ao⟩) (fun h11 => ?ap),fun x_9 q_9=>⟨fun h10=>⟨?aq,?ar,?au,?av,fun h11 h12=>⟨?aw,?ax⟩⟩,fun h10=>⟨fun h11=>iQ (fun h12=>⟨?ay,?az⟩) (fun h12 => ?b0),fun x_10 q_10=>⟨fun h11=>⟨?b1,?b2,?b3,?b4,fun h12 h13=>⟨?b5,?b6⟩⟩,fun h11 => ?b7⟩⟩⟩⟩⟩⟩⟩⟩⟩⟩⟩⟩⟩⟩⟩⟩⟩⟩) (fun h4=>⟨trivial,iL (fun h5 => ?b8) (fun h5=>⟨?b9,iL (fun h6 => ?ba) (fun h6=>⟨fun h7 => ?bb,fun h7 => ?bc⟩)⟩)⟩)⟩⟩⟩)
 case a=>
  simp only [bl,reduceCtorEq] at h2
  exact DF (by omega) h2
 case b=>
  simp only [bl,reduceCtorEq] at h2
  exact ⟨(0,bL aA),fT.zero _,⟨rfl,trivial⟩,(by trivial)⟩
 case c|t|a0|a7|af|an|ay=>
  simp only [bl,reduceCtorEq] at h2
  omega
 case d=>
  simp only [bl,reduceCtorEq] at h2
  have:=DG (s:=s) (by omega) x_0.1;omega
 case e=>
  simp only [bl,reduceCtorEq] at h2
  exact ⟨_,rfl,⟨rfl,trivial⟩,(by trivial)⟩
 case f|g=>
  simp only [bl,reduceCtorEq] at h2
  have:=Ji q_1;omega
 case h=>
  simp only [bl,reduceCtorEq] at h2
  exact ⟨_,fun _=>Fg q_1 h5 rfl,⟨by rw [List.take_length],trivial⟩,(by trivial)⟩
 case i=>
  simp only [bl,reduceCtorEq] at h2
  exact ⟨_,fun _=>GU q_1 h5,⟨rfl,trivial⟩,(by trivial)⟩
 case j=>
  simp only [bl,reduceCtorEq] at h2
  exact ⟨1,⟨by omega,by omega, .inl rfl⟩,⟨rfl,rfl,trivial⟩,(by trivial)⟩
 case k=>
  simp only [bl,reduceCtorEq] at h2
  exact ⟨_,eT h6,⟨rfl,trivial⟩,(by trivial)⟩
 case l=>
  simp only [bl,reduceCtorEq] at h2
  exact ⟨_,eF h6,⟨rfl,trivial⟩,(by trivial)⟩
 case m|w|aa|au|b3=>
  simp only [bl,reduceCtorEq] at h2
  simp_all
 case n|q=>
  simp only [bl,reduceCtorEq] at h2 h6
  have a1:=q_0.l1;have a2:=q_0.l2;have a3:=q_0.l3;have a4:=q_0.l4;have a5:=q_0.le;have a6:=zT (s:=s) (by omega);exact ⟨rfl,by simp only [List.length_singleton];first | omega | (rw [qT];omega)⟩
 case o|r=>
  simp only [bl,reduceCtorEq] at h2 h6
  simp only [aJ,aH] at *;omega
 case p=>
  simp only [bl,reduceCtorEq] at h2 h6
  have hc:=q_4.1 (by assumption);exact ⟨x_3 + 1,⟨by omega,by omega, .inr (by omega)⟩,by omega,⟨by omega,wS (by omega) h6,trivial⟩,wS (by omega) h6,(by trivial)⟩
 case s=>
  simp only [bl,reduceCtorEq] at h2 h6
  have hc:=q_4.1 (by assumption);exact ⟨x_3 + 1,⟨by omega,by omega, .inr (by omega)⟩,by omega,⟨by omega,zR (by omega) h6,trivial⟩,zR (by omega) h6,(by trivial)⟩
 case u=>
  simp only [bl,reduceCtorEq] at h2
  exact ⟨_,jT h7 rfl,⟨rfl,trivial⟩,(by trivial)⟩
 case v=>
  simp only [bl,reduceCtorEq] at h2
  exact ⟨_,jF h7 rfl,⟨rfl,trivial⟩,(by trivial)⟩
 case x|a4|ac|ak|av|b4=>
  simp only [bl,reduceCtorEq] at h2
  have a1:=q_0.l1;have a2:=q_0.l2;have a3:=q_0.l3;have a4:=q_0.l4;have a5:=q_0.le;have a6:=zT (s:=s) (by omega);exact ⟨rfl,by simp only [List.length_singleton];first | omega | (rw [qT];omega)⟩
 case y|a5|ad|al|aw|b5=>
  simp only [bl,reduceCtorEq] at h2
  simp only [aJ,aH] at *;omega
 case z=>
  simp only [bl,reduceCtorEq] at h2
  (have hk:=pj q_3 (dx q_4 (by assumption)));(first | have hc:=q_10.1 (by assumption) | have hc:=q_9.1 (by assumption) | have hc:=q_8.1 (by assumption) | have hc:=q_7.1 (by assumption) | have hc:=q_6.1 (by assumption) | have hc:=q_5.1 (by assumption));exact ⟨(x_0.1 + 1,_),q_0.next (by omega) ((q_2 _).trans (Bb (q_5.1 (by assumption)))) (js.mj _ _),by simp only;omega,⟨by simp only;omega,trivial⟩,(by trivial)⟩
 case a1=>
  simp only [bl,reduceCtorEq] at h2
  exact ⟨_,jT h8 rfl,⟨rfl,trivial⟩,(by trivial)⟩
 case a2=>
  simp only [bl,reduceCtorEq] at h2
  exact ⟨_,jF h8 rfl,⟨rfl,trivial⟩,(by trivial)⟩
 case a3|ab|ai|aj|aq|ar|b1|b2=>
  simp only [bl,reduceCtorEq] at h2
  (have hk:=pj q_3 (dx q_4 (by assumption)));(first | have hc:=q_10.1 (by assumption) | have hc:=q_9.1 (by assumption) | have hc:=q_8.1 (by assumption) | have hc:=q_7.1 (by assumption) | have hc:=q_6.1 (by assumption) | have hc:=q_5.1 (by assumption));rw [qT];omega
 case a6=>
  simp only [bl,reduceCtorEq] at h2
  (have hk:=pj q_3 (dx q_4 (by assumption)));(first | have hc:=q_10.1 (by assumption) | have hc:=q_9.1 (by assumption) | have hc:=q_8.1 (by assumption) | have hc:=q_7.1 (by assumption) | have hc:=q_6.1 (by assumption) | have hc:=q_5.1 (by assumption));exact ⟨(x_0.1 + 1,_),q_0.next (by omega) ((q_2 _).trans (Bc (k:=x_3) (dx q_5 (by assumption)) (q_6.1 (by assumption)) (by omega))) (js.word _ _),by simp only;omega,⟨by simp only;omega,trivial⟩,(by trivial)⟩
 case a8=>
  simp only [bl,reduceCtorEq] at h2
  exact ⟨_,jT h9 rfl,⟨rfl,trivial⟩,(by trivial)⟩
 case a9=>
  simp only [bl,reduceCtorEq] at h2
  exact ⟨_,jF h9 rfl,⟨rfl,trivial⟩,(by trivial)⟩
 case ae=>
  simp only [bl,reduceCtorEq] at h2
  (have hk:=pj q_3 (dx q_4 (by assumption)));(first | have hc:=q_10.1 (by assumption) | have hc:=q_9.1 (by assumption) | have hc:=q_8.1 (by assumption) | have hc:=q_7.1 (by assumption) | have hc:=q_6.1 (by assumption) | have hc:=q_5.1 (by assumption));exact ⟨(x_0.1 + 1,_),q_0.next (by omega) ((q_2 _).trans (DC (k:=x_3) (q_7.1 (by assumption)) (by omega))) (js.sym _ _),by simp only;omega,⟨by simp only;omega,trivial⟩,(by trivial)⟩
 case ag=>
  simp only [bl,reduceCtorEq] at h2
  exact ⟨_,jT h10 rfl,⟨rfl,trivial⟩,(by trivial)⟩
 case ah=>
  simp only [bl,reduceCtorEq] at h2
  exact ⟨_,jF h10 rfl,⟨rfl,trivial⟩,(by trivial)⟩
 case am=>
  simp only [bl,reduceCtorEq] at h2
  (have hk:=pj q_3 (dx q_4 (by assumption)));(first | have hc:=q_10.1 (by assumption) | have hc:=q_9.1 (by assumption) | have hc:=q_8.1 (by assumption) | have hc:=q_7.1 (by assumption) | have hc:=q_6.1 (by assumption) | have hc:=q_5.1 (by assumption));exact ⟨(x_0.1 + 1,_),q_0.next (by omega) ((q_2 _).trans (Bd (k:=x_3) (dx q_7 (by assumption)) (q_8.1 (by assumption)) (by omega))) (js.tie _ _),by simp only;omega,⟨by simp only;omega,trivial⟩,(by trivial)⟩
 case ao=>
  simp only [bl,reduceCtorEq] at h2
  exact ⟨_,jT h11 rfl,⟨rfl,trivial⟩,(by trivial)⟩
 case ap=>
  simp only [bl,reduceCtorEq] at h2
  exact ⟨_,jF h11 rfl,⟨rfl,trivial⟩,(by trivial)⟩
 case ax=>
  simp only [bl,reduceCtorEq] at h2
  (have hk:=pj q_3 (dx q_4 (by assumption)));(first | have hc:=q_10.1 (by assumption) | have hc:=q_9.1 (by assumption) | have hc:=q_8.1 (by assumption) | have hc:=q_7.1 (by assumption) | have hc:=q_6.1 (by assumption) | have hc:=q_5.1 (by assumption));exact ⟨(x_0.1 + 1,_),q_0.next (by omega) ((q_2 _).trans (zS (k:=x_3) (q_9.1 (by assumption)) (by omega))) (js.tie _ _),by simp only;omega,⟨by simp only;omega,trivial⟩,(by trivial)⟩
 case az=>
  simp only [bl,reduceCtorEq] at h2
  exact ⟨_,jT h12 rfl,⟨rfl,trivial⟩,(by trivial)⟩
 case b0=>
  simp only [bl,reduceCtorEq] at h2
  exact ⟨_,jF h12 rfl,⟨rfl,trivial⟩,(by trivial)⟩
 case b6=>
  simp only [bl,reduceCtorEq] at h2
  (have hk:=pj q_3 (dx q_4 (by assumption)));(first | have hc:=q_10.1 (by assumption) | have hc:=q_9.1 (by assumption) | have hc:=q_8.1 (by assumption) | have hc:=q_7.1 (by assumption) | have hc:=q_6.1 (by assumption) | have hc:=q_5.1 (by assumption));exact ⟨(x_0.1 + 1,_),q_0.next (by omega) ((q_2 _).trans (Be (k:=x_3) (dx q_9 (by assumption)) (q_10.1 (by assumption)) (by omega))) (js.tie _ _),by simp only;omega,⟨by simp only;omega,trivial⟩,(by trivial)⟩
 case b7=>
  simp only [bl,reduceCtorEq] at h2
  exact DD (by omega) q_0 (by omega) ((q_2 _).trans (Bf (dx q_5 (by assumption)) (dx q_6 (by assumption)) (dx q_7 (by assumption)) (dx q_8 (by assumption)) (dx q_9 (by assumption)) (dx q_10 (by assumption))))
 case b8=>
  simp only [bl,reduceCtorEq] at h2
  exact qU (by omega) q_0 (by omega) (.inl h5)
 case b9=>
  simp only [bl,reduceCtorEq] at h2
  exact Int.le_antisymm h5 (pG _)
 case ba=>
  simp only [bl,reduceCtorEq] at h2
  exact qU (by omega) q_0 (by omega) (.inr (.inl h6))
 case bb=>
  simp only [bl,reduceCtorEq] at h2 h7
  exact qU (by omega) q_0 (by omega) (.inr (.inr h7))
 case bc=>
  simp only [bl,reduceCtorEq] at h2 h7
  exact DE (by omega) (by assumption) (by assumption) h7
theorem Tryz.Ao:bI Tryz.prog Tryz.B.eT Tryz.X 70 [.str] [aA, .int .i64] (fun _=>True) (fun x y=>y=(fun s=>bJ s) x):=
 bU (X:=Tryz.X) Tryz.Hl Tryz.func70 (by kernel_rfl) (fun x=>FT x) (fun x hw hp=>An x hw)
end Go.Proofs.YtgokjhhcfemnhaaGreatDoor

namespace Go.Proofs.YtgokjhhcfemnhaaGreatDoor
open Go.Vg Go.Mrl
noncomputable def Tryz.xe:List (FuncId × (Bool × bQ)):=[(65,(false,bG Tryz.aZ [.obj 0, .d .str] (fun _ _=>True) Tryz.lk)),
 (70,(true,aM [.str] [aA, .int .i64] (fun _=>True) (fun s=>bJ s)))]
theorem Tryz.Bx:bZ Tryz.prog Tryz.B Tryz.X Tryz.xe:=
 aO (Tryz.tc) (aO (aG Tryz.Ao) (cm Tryz.cn))
def Tryz.xf (s:List UInt8) (f:RS):cu:=[
 (0,fun st=>{X:=Nat × List (List UInt8) × List (D aA),inv:=fun y=>e8 (bX f.1) s y.1 y.2.1 y.2.2,aY:=fun y=>7 - y.1,aQ:=fun y=>[(9,sI y.1),(7, .s (.one (.app .str y.2.1 (bD st 7)))),(8, .s (.one (.app aA y.2.2 (bD st 8))))],aE:=fun y=>[(bD st 7, .tok .str y.2.1),(bD st 8, .tok aA y.2.2)],aT:=[0],fg:=[bD st 7,bD st 8]}),
 (2,fun st=>{X:=Nat,inv:=fun k=>k<=List.length (bO aA st 41).1,aY:=fun k=>List.length (bO aA st 41).1 - k,aQ:=fun k=>[(14,sI k),(7, .s (.one (.app .str (cC (bO (.slice .str) st 7) (List.take k (bO aA st 41).1)) (bD st 7))))],aE:=fun k=>[(bD st 7, .tok .str (cC (bO (.slice .str) st 7) (List.take k (bO aA st 41).1)))],aT:=[0,4,5,6,8,9,10,12,13,19,20,21,22,25,26,27,28,29,30,31,32,33,34,35,36,37,38,39,40,41,42,43,44,45,46,47,48,49],fg:=[bD st 7]}),
 (4,fun st=>{X:=Nat,inv:=fun j=>j<=List.length (bO (.slice .str) st 7),aY:=fun j=>List.length (bO (.slice .str) st 7) - j,aQ:=fun j=>[(16,sI j),(15,sB (List.any (List.take j (bO (.slice .str) st 7)) fun x=>x == (nth .str (bO aA st 41).1 (Int.toNat (bO (.int .i64) st 14)))))],aT:=[0,4,5,6,7,8,9,10,12,13,14,19,20,21,22,25,26,27,28,29,30,31,32,33,34,35,36,37,38,39,40,41,42,43,44,45,46,47,48,49,50,51,52,53,54]})]
noncomputable def Tryz.pw:List (Alt Tryz.aZ [.obj 0, .d .str]):=[{bE:=Tryz.aZ,res:=[.d (.slice .str), .d (.slice aA), .d (.int .i64)],out:=fun _ x=>x,ret:=fun a x=>((ck (bX x.1.1) a.1).1,(ck (bX x.1.1) a.1).2.1,(ck (bX x.1.1) a.1).2.2,())}]
theorem By (s:List UInt8) (f:RS) (hw:hP [.obj 0, .d .str] (s,())) (hp:(fun _ x=>x.1.1.length<=6) (s,()) (f,())):(dR (lG Tryz.B [18]) Tryz.xe Tryz.f26 (Tryz.xf s f) Tryz.aZ [.obj 0, .d .str] Tryz.pw (s,()) (f,())).holds:=by
 refine holds_of (p:=
  let za:=List UInt8
  let zb:=Nat × List za × List (List za × List Int × List (za × Int × Bool × Unit) × List (Int × Int × Int × za × Bool × Unit) × Unit)
  let zc:=bX f.1
  let zd:=fun (x_0:Nat × List (List UInt8) × List (List (List UInt8) × List Int × List (List UInt8 × Int × Bool × Unit) × List (Int × Int × Int × List UInt8 × Bool × Unit) × Unit))=>(↑x_0.1:Int) < (↑(List.length x_0.2.1):Int)
  let ze:=fun (x_0:Nat × List (List UInt8) × List (List (List UInt8) × List Int × List (List UInt8 × Int × Bool × Unit) × List (Int × Int × Int × List UInt8 × Bool × Unit) × Unit))=>bX f.1 (nth Ty.str x_0.2.1 x_0.1)
  let zf:=(f,())=(f,())
  let zg:=ck (bX f.1) s
  let zh:=(zg.1,zg.2.1,zg.2.2,())
  let zi:=fun (x_0:Nat × List (List UInt8) × List (List (List UInt8) × List Int × List (List UInt8 × Int × Bool × Unit) × List (Int × Int × Int × List UInt8 × Bool × Unit) × Unit))=>(bJ (ze x_0).1).1.1
  let zj:=fun (x_0:Nat × List (List UInt8) × List (List (List UInt8) × List Int × List (List UInt8 × Int × Bool × Unit) × List (Int × Int × Int × List UInt8 × Bool × Unit) × Unit))=>List.length (zi x_0)
  let zk:=fun (x_0:Nat × List (List UInt8) × List (List (List UInt8) × List Int × List (List UInt8 × Int × Bool × Unit) × List (Int × Int × Int × List UInt8 × Bool × Unit) × Unit)) (x_1:Nat)=>cC x_0.2.1 (List.take x_1 (zi x_0))
  let zl:=fun (x_0:Nat × List (List UInt8) × List (List (List UInt8) × List Int × List (List UInt8 × Int × Bool × Unit) × List (Int × Int × Int × List UInt8 × Bool × Unit) × Unit)) (x_1:Nat)=>List.length (zk x_0 x_1)
  let zm:=fun (x_0:Nat × List (List UInt8) × List (List (List UInt8) × List Int × List (List UInt8 × Int × Bool × Unit) × List (Int × Int × Int × List UInt8 × Bool × Unit) × Unit)) (x_1:Nat) (x:List UInt8)=>x == nth Ty.str (zi x_0) x_1
  let zn:=fun (x_2:Nat)=>aJ (↑x_2:Int)
  let zo:=aJ (1:Int)
  let zp:=fun (x_2:Nat)=>(↑x_2:Int) + (1:Int)
  let zq:=@List.nil (List UInt8) = @List.nil (List UInt8)
  let zr:=f.1=f.1/\f.2.1=f.2.1/\True
  let zs:=fun (x_0:Nat × List (List UInt8) × List (List (List UInt8) × List Int × List (List UInt8 × Int × Bool × Unit) × List (Int × Int × Int × List UInt8 × Bool × Unit) × Unit))=>x_0.2.2++[(bJ (ze x_0).1).1]
  let zt:=@List.nil (List (List UInt8) × List Int × List (List UInt8 × Int × Bool × Unit) × List (Int × Int × Int × List UInt8 × Bool × Unit) × Unit) = @List.nil (List (List UInt8) × List Int × List (List UInt8 × Int × Bool × Unit) × List (Int × Int × Int × List UInt8 × Bool × Unit) × Unit)
  let zu:=fun (x_0:Nat × List (List UInt8) × List (List (List UInt8) × List Int × List (List UInt8 × Int × Bool × Unit) × List (Int × Int × Int × List UInt8 × Bool × Unit) × Unit))=>(zi x_0=zi x_0/\(bJ (ze x_0).1).1.2.1=(bJ (ze x_0).1).1.2.1/\(bJ (ze x_0).1).1.2.2.1=(bJ (ze x_0).1).1.2.2.1/\(bJ (ze x_0).1).1.2.2.2.1=(bJ (ze x_0).1).1.2.2.2.1/\True)/\@List.nil (Int × Int × Int × List UInt8 × Bool × Unit) = @List.nil (Int × Int × Int × List UInt8 × Bool × Unit)/\@List.nil (List UInt8 × Int × Bool × Unit) = @List.nil (List UInt8 × Int × Bool × Unit)/\@List.nil Int = @List.nil Int/\zq/\zr/\zs x_0=zs x_0/\zt/\zq/\True
  let zv:=fun (x_1:Nat) (x_0:Nat × List (List UInt8) × List (List (List UInt8) × List Int × List (List UInt8 × Int × Bool × Unit) × List (Int × Int × Int × List UInt8 × Bool × Unit) × Unit))=>(0:Int)<=(↑x_1:Int)/\(↑x_1:Int) < (↑(zj x_0):Int)
  (∃(x:zb),e8 zc s (Prod.fst x) (Prod.snd x).1 (Prod.snd x).2/\((0:Int)=(↑(Prod.fst x):Int)/\[s]=(Prod.snd x).1/\@List.nil (List (List UInt8) × List Int × List (List UInt8 × Int × Bool × Unit) × List (Int × Int × Int × List UInt8 × Bool × Unit) × Unit)=(Prod.snd x).2/\True)/\[s]=(Prod.snd x).1/\@List.nil (List (List UInt8) × List Int × List (List UInt8 × Int × Bool × Unit) × List (Int × Int × Int × List UInt8 × Bool × Unit) × Unit)=(Prod.snd x).2/\True)/\(∀x_0:Nat × List (List UInt8) × List (List (List UInt8) × List Int × List (List UInt8 × Int × Bool × Unit) × List (Int × Int × Int × List UInt8 × Bool × Unit) × Unit),((e8 zc s x_0.1 x_0.2.1 x_0.2.2)->((List.length x_0.2.1<=aH)->(((decide (zd x_0))=true->((0:Int)<=(↑x_0.1:Int)/\zd x_0)/\(True)/\((True)->(((decide ((ze x_0).2.2 > (0:Int)))=true->(True/\zf/\([],[],(ze x_0).2.2,())=zh))/\((decide ((ze x_0).2.2 > (0:Int)))=false->(True)/\(((decide ((bJ (ze x_0).1).2 > (0:Int)))=true->(True/\zf/\([],[],(bJ (ze x_0).1).2,())=zh))/\((decide ((bJ (ze x_0).1).2 > (0:Int)))=false->(x_0.2.2=x_0.2.2/\List.length x_0.2.2 + List.length [(bJ (ze x_0).1).1]<=(1000000000:Nat))/\(∃(x:Nat),x<=zj x_0/\((0:Int)=(↑x:Int)/\x_0.2.1=cC x_0.2.1 (List.take x (zi x_0))/\True)/\x_0.2.1=cC x_0.2.1 (List.take x (zi x_0))/\True)/\(∀x_1:Nat,((x_1<=zj x_0)->((zj x_0<=aH)->(((decide ((↑x_1:Int) < (↑(zj x_0):Int)))=true->(∃(x:Nat),x<=zl x_0 x_1/\((0:Int)=(↑x:Int)/\false=List.any (List.take x (zk x_0 x_1)) (zm x_0 x_1)/\True)/\True)/\(∀x_2:Nat,((x_2<=zl x_0 x_1)->((zl x_0 x_1<=aH)->(((decide ((↑x_2:Int) < (↑(zl x_0 x_1):Int)))=true->(((List.any (List.take x_2 (zk x_0 x_1)) (zm x_0 x_1))=true->((zn x_2)->((zo)->(aJ (zp x_2))/\(∃(x':Nat),x'<=zl x_0 x_1/\zl x_0 x_1 - x' < zl x_0 x_1 - x_2/\(zp x_2=(↑x':Int)/\true=List.any (List.take x' (zk x_0 x_1)) (zm x_0 x_1)/\True)/\zk x_0 x_1=zk x_0 x_1/\zu x_0))))/\((List.any (List.take x_2 (zk x_0 x_1)) (zm x_0 x_1))=false->((0:Int)<=(↑x_2:Int)/\(↑x_2:Int) < (↑(zl x_0 x_1):Int))/\(zv x_1 x_0)/\((zn x_2)->((zo)->(aJ (zp x_2))/\(∃(x':Nat),x'<=zl x_0 x_1/\zl x_0 x_1 - x' < zl x_0 x_1 - x_2/\(zp x_2=(↑x':Int)/\(nth Ty.str (zk x_0 x_1) x_2 == nth Ty.str (zi x_0) x_1)=List.any (List.take x' (zk x_0 x_1)) (zm x_0 x_1)/\True)/\zk x_0 x_1=zk x_0 x_1/\zu x_0))))))/\((decide ((↑x_2:Int) < (↑(zl x_0 x_1):Int)))=false->(((!List.any (List.take x_2 (zk x_0 x_1)) (zm x_0 x_1))=true->(zv x_1 x_0)/\(zk x_0 x_1=zk x_0 x_1/\zl x_0 x_1 + List.length [nth Ty.str (zi x_0) x_1]<=(1000000000:Nat))/\((zn x_1)->((zo)->(aJ (zp x_1))/\(∃(x':Nat),x'<=zj x_0/\zj x_0 - x' < zj x_0 - x_1/\(zp x_1=(↑x':Int)/\zk x_0 x_1++[nth Ty.str (zi x_0) x_1]=cC x_0.2.1 (List.take x' (zi x_0))/\True)/\zk x_0 x_1++[nth Ty.str (zi x_0) x_1]=cC x_0.2.1 (List.take x' (zi x_0))/\zu x_0))))/\((!List.any (List.take x_2 (zk x_0 x_1)) (zm x_0 x_1))=false->((zn x_1)->((zo)->(aJ (zp x_1))/\(∃(x':Nat),x'<=zj x_0/\zj x_0 - x' < zj x_0 - x_1/\(zp x_1=(↑x':Int)/\zk x_0 x_1=cC x_0.2.1 (List.take x' (zi x_0))/\True)/\zk x_0 x_1=cC x_0.2.1 (List.take x' (zi x_0))/\zu x_0)))))))))))/\((decide ((↑x_1:Int) < (↑(zj x_0):Int)))=false->((aJ (↑x_0.1:Int))->((zo)->(aJ ((↑x_0.1:Int) + (1:Int)))/\(∃(x':zb),e8 zc s (Prod.fst x') (Prod.snd x').1 (Prod.snd x').2/\(7:Nat) - Prod.fst x' < (7:Nat) - x_0.1/\((↑x_0.1:Int) + (1:Int)=(↑(Prod.fst x'):Int)/\zk x_0 x_1=(Prod.snd x').1/\zs x_0=(Prod.snd x').2/\True)/\zk x_0 x_1=(Prod.snd x').1/\zs x_0=(Prod.snd x').2/\zt/\zq/\zr/\True))))))))))))))/\((decide (zd x_0))=false->(True/\zf/\(x_0.2.1,x_0.2.2,(0:Int),())=zh))))))) (by kernel_rfl) ?_
 dsimp -iota -proj -eta only
 dsimp only at hp
 refine ⟨(⟨(0,[s],[]),e8.zero _ _,⟨rfl,rfl,rfl,trivial⟩,(by trivial)⟩),fun x_0 q_0 h0=>iL (fun h1=>⟨?a,trivial,fun h2=>iL (fun h3=>(by rw [q_0.zP (gy hp) (by omega) (by omega)];exact ⟨trivial,rfl,rfl⟩)) (fun h3=>⟨trivial,iL (fun h4=>(by rw [q_0.Cg (by omega) (mZ (gy hp) (by omega)) (by omega)];exact ⟨trivial,rfl,rfl⟩)) (fun h4=>⟨⟨rfl,q_0.Jh⟩,?b,fun x_1 q_1 h5=>iL (fun h6=>⟨?c,fun x_2 q_2 h7=>iL (fun h8=>⟨fun h9 h10 h11=>⟨?d,(⟨x_2 + 1,by omega,by omega,⟨by omega,GQ (by assumption),trivial⟩,(by trivial)⟩)⟩,fun h9=>⟨?e,?f,fun h10 h11=>⟨?g,(⟨x_2 + 1,by omega,by omega,⟨by omega,GR (by omega) (by assumption),trivial⟩,(by trivial)⟩)⟩⟩⟩) (fun h8=>⟨fun h9=>⟨?h,?i,fun h10 h11=>⟨?j,?k⟩⟩,fun h9 h10 h11=>⟨?l,?m⟩⟩)⟩) (fun h6 h7 h8=>⟨?n,(by exact ⟨(x_0.1 + 1,_,_),q_0.next (gy hp) (by omega) (lP (mZ (gy hp) (by omega)) (vq (by omega))),by have:=q_0.room (gy hp) (by omega) (lP (mZ (gy hp) (by omega)) (vq (by omega)));simp only;omega,⟨by simp only;omega,ry (by omega),rfl,trivial⟩,ry (by omega),rfl,(by trivial)⟩)⟩)⟩)⟩)⟩) (fun h1=>(by rw [q_0.done (by omega)];exact ⟨trivial,rfl,rfl⟩))⟩
 case a|e|f=>omega
 case b|c=>exact ⟨0,Nat.zero_le _,⟨rfl,rfl,trivial⟩,(by trivial)⟩
 case d|g|n=>simp only [aJ,aH] at *;omega
 case h=>
  simp only [bl,reduceCtorEq] at h9
  omega
 case i=>
  simp only [bl,reduceCtorEq] at h9
  exact ⟨rfl,q_0.Fe (gy hp) (lP (mZ (gy hp) (by omega)) (vq (by omega))) _⟩
 case j|l=>
  simp only [bl,reduceCtorEq] at h9
  simp only [aJ,aH] at *;omega
 case k=>
  simp only [bl,reduceCtorEq] at h9
  exact ⟨x_1 + 1,by omega,by omega,⟨by omega,ru (by omega) (rA (j:=x_2) (by omega) (by assumption)),trivial⟩,ru (by omega) (rA (j:=x_2) (by omega) (by assumption)),(by trivial)⟩
 case m=>
  simp only [bl,reduceCtorEq] at h9
  exact ⟨x_1 + 1,by omega,by omega,⟨by omega,rv (by omega) (rA (j:=x_2) (by omega) (by assumption)),trivial⟩,rv (by omega) (rA (j:=x_2) (by omega) (by assumption)),(by trivial)⟩
theorem Tryz.Bz:cG Tryz.prog Tryz.B.eT Tryz.X 26 false (bG Tryz.aZ [.obj 0, .d .str] (fun _ x=>x.1.1.length<=6) Tryz.pw):=
 ch (B:=(lG Tryz.B [18])) (X:=Tryz.X) (bZ.hint (l:=[18]) Tryz.Bx) Tryz.func26 (by kernel_rfl) (fun (a:CD [.obj 0, .d .str]) (x:PD Tryz.aZ)=>Tryz.xf a.1 x.1) (fun (a:CD [.obj 0, .d .str]) (x:PD Tryz.aZ) hw hp=>By a.1 x.1 hw hp)
end Go.Proofs.YtgokjhhcfemnhaaGreatDoor

namespace Go.Proofs.YtgokjhhcfemnhaaGreatDoor
open Go.Vg Go.Mrl
def Ap (a:List Int) (b:List Int):cu:=[(0,fun st=>{X:=Nat,inv:=fun i=>i<=a.length/\∀j,j < i->nth (.int .i64) a j=nth (.int .i64) b j,aY:=fun i=>a.length - i,aQ:=fun i=>[(5,sI i)],aT:=[0,1]})]
theorem vw (a:List Int) (b:List Int) (hw:ec [.slice (.int .i64), .slice (.int .i64)] (a,b)):(cD Tryz.B [] Tryz.f75 (Ap a b) [.slice (.int .i64), .slice (.int .i64)] [.bool] (fun x y=>y=(fun x=>fX x.1 x.2) x) (a,b)).holds:=by
 refine holds_of (p:=
  let za:=List.length a
  let zb:=(↑(List.length b):Int)
  let zc:=false=fX a b
  let zd:=Ty.int IntKind.i64
  ((za<=aH)->((List.length b<=aH)->((((↑za:Int) != zb)=true->(zc))/\(((↑za:Int) != zb)=false->(∃(x:Nat),(x<=za/\∀(j:Nat),j < x->nth zd a j=nth zd b j)/\((0:Int)=(↑x:Int)/\True)/\True)/\(∀x_0:Nat,((x_0<=za/\∀(j:Nat),j < x_0->nth zd a j=nth zd b j)->((za<=aH)->(((decide ((↑x_0:Int) < (↑za:Int)))=true->((0:Int)<=(↑x_0:Int)/\(↑x_0:Int) < (↑za:Int))/\((0:Int)<=(↑x_0:Int)/\(↑x_0:Int) < zb)/\(((nth zd a x_0 != nth zd b x_0)=true->(zc))/\((nth zd a x_0 != nth zd b x_0)=false->((aJ (↑x_0:Int))->((aJ (1:Int))->(aJ ((↑x_0:Int) + (1:Int)))/\(∃(x':Nat),(x'<=za/\∀(j:Nat),j < x'->nth zd a j=nth zd b j)/\za - x' < za - x_0/\((↑x_0:Int) + (1:Int)=(↑x':Int)/\True)/\True))))))/\((decide ((↑x_0:Int) < (↑za:Int)))=false->(true=fX a b))))))))))) (by kernel_rfl) ?_
 dsimp -iota -proj -eta only
 refine fun h0 h1=>iN (fun h2=>(EL (by assumption))) (fun h2=>⟨(⟨0,⟨by omega,fun j hj=>by omega⟩,⟨rfl,trivial⟩,trivial⟩),fun x_0 q_0 h3=>iL (fun h4=>⟨?a,?b,iN (fun h5=>(Gx (i:=x_0) (by assumption))) (fun h5 h6 h7=>⟨(by simp only [aJ,aH] at *;omega),(⟨x_0 + 1,⟨by omega,ql q_0.2 (by assumption)⟩,by omega,⟨by omega,trivial⟩,(by trivial)⟩)⟩)⟩) (fun h4=>(Dc (by assumption) (fun i hi=>q_0.2 i (by omega))))⟩)
 case a|b=>omega
theorem Tryz.od:bI Tryz.prog Tryz.B.eT Tryz.X 75 [.slice (.int .i64), .slice (.int .i64)] [.bool] (fun _=>True) (fun x y=>y=(fun x=>fX x.1 x.2) x):=
 bU (X:=Tryz.X) (cm Tryz.cn) Tryz.func75 (by kernel_rfl) (fun x=>Ap x.1 x.2) (fun x hw hp=>vw x.1 x.2 hw)
def Aq (a:List (List UInt8)) (b:List (List UInt8)):cu:=[(0,fun st=>{X:=Nat,inv:=fun i=>i<=a.length/\∀j,j < i->nth .str a j=nth .str b j,aY:=fun i=>a.length - i,aQ:=fun i=>[(5,sI i)],aT:=[0,1]})]
theorem Ar (a:List (List UInt8)) (b:List (List UInt8)) (hw:ec [.slice .str, .slice .str] (a,b)):(cD Tryz.B [] Tryz.f19 (Aq a b) [.slice .str, .slice .str] [.bool] (fun x y=>y=(fun x=>cZ x.1 x.2) x) (a,b)).holds:=by
 refine holds_of (p:=
  let za:=List.length a
  let zb:=(↑(List.length b):Int)
  let zc:=false=cZ a b
  ((za<=aH)->((List.length b<=aH)->((((↑za:Int) != zb)=true->(zc))/\(((↑za:Int) != zb)=false->(∃(x:Nat),(x<=za/\∀(j:Nat),j < x->nth Ty.str a j=nth Ty.str b j)/\((0:Int)=(↑x:Int)/\True)/\True)/\(∀x_0:Nat,((x_0<=za/\∀(j:Nat),j < x_0->nth Ty.str a j=nth Ty.str b j)->((za<=aH)->(((decide ((↑x_0:Int) < (↑za:Int)))=true->((0:Int)<=(↑x_0:Int)/\(↑x_0:Int) < (↑za:Int))/\((0:Int)<=(↑x_0:Int)/\(↑x_0:Int) < zb)/\(((!nth Ty.str a x_0 == nth Ty.str b x_0)=true->(zc))/\((!nth Ty.str a x_0 == nth Ty.str b x_0)=false->((aJ (↑x_0:Int))->((aJ (1:Int))->(aJ ((↑x_0:Int) + (1:Int)))/\(∃(x':Nat),(x'<=za/\∀(j:Nat),j < x'->nth Ty.str a j=nth Ty.str b j)/\za - x' < za - x_0/\((↑x_0:Int) + (1:Int)=(↑x':Int)/\True)/\True))))))/\((decide ((↑x_0:Int) < (↑za:Int)))=false->(true=cZ a b))))))))))) (by kernel_rfl) ?_
 dsimp -iota -proj -eta only
 refine fun h0 h1=>iN (fun h2=>(EM (by assumption))) (fun h2=>⟨(⟨0,⟨by omega,fun j hj=>by omega⟩,⟨rfl,trivial⟩,trivial⟩),fun x_0 q_0 h3=>iL (fun h4=>⟨?a,?b,⟨fun h5 => ?c,fun h5 h6 h7=>⟨?d,?e⟩⟩⟩) (fun h4=>(Dd (by assumption) (fun i hi=>q_0.2 i (by omega))))⟩)
 case a|b=>omega
 case c=>
  simp only [bl,reduceCtorEq] at h5
  exact Gy (i:=x_0) (by assumption)
 case d=>
  simp only [bl,reduceCtorEq] at h5
  simp only [aJ,aH] at *;omega
 case e=>
  simp only [bl,reduceCtorEq] at h5
  exact ⟨x_0 + 1,⟨by omega,ql q_0.2 (by assumption)⟩,by omega,⟨by omega,trivial⟩,(by trivial)⟩
theorem Tryz.kb:bI Tryz.prog Tryz.B.eT Tryz.X 19 [.slice .str, .slice .str] [.bool] (fun _=>True) (fun x y=>y=(fun x=>cZ x.1 x.2) x):=
 bU (X:=Tryz.X) (cm Tryz.cn) Tryz.func19 (by kernel_rfl) (fun x=>Aq x.1 x.2) (fun x hw hp=>Ar x.1 x.2 hw)
end Go.Proofs.YtgokjhhcfemnhaaGreatDoor

namespace Go.Proofs.YtgokjhhcfemnhaaGreatDoor
open Go.Vg Go.Mrl
noncomputable def Tryz.As:List (FuncId × (Bool × bQ)):=[(75,(true,aM [.slice (.int .i64), .slice (.int .i64)] [.bool] (fun _=>True) (fun x=>fX x.1 x.2))),
 (19,(true,aM [.slice .str, .slice .str] [.bool] (fun _=>True) (fun x=>cZ x.1 x.2)))]
theorem Tryz.D4:bZ Tryz.prog Tryz.B Tryz.X Tryz.As:=
 aO (aG Tryz.od) (aO (aG Tryz.kb) (cm Tryz.cn))
def At (a:D aA) (b:D aA):cu:=[
 (0,fun st=>{X:=Nat,inv:=fun i=>i<=a.2.2.1.length/\∀j,j < i->nth aD a.2.2.1 j=nth aD b.2.2.1 j,aY:=fun i=>a.2.2.1.length - i,aQ:=fun i=>[(7,sI i)],aT:=[2,3]}),
 (2,fun st=>{X:=Nat,inv:=fun i=>i<=a.2.2.2.1.length/\∀j,j < i->nth aL a.2.2.2.1 j=nth aL b.2.2.2.1 j,aY:=fun i=>a.2.2.2.1.length - i,aQ:=fun i=>[(8,sI i)],aT:=[2,3]})]
theorem xE (a:D aA) (b:D aA) (hw:ec [aA,aA] (a,b)):(cD Tryz.B Tryz.As Tryz.f71 (At a b) [aA,aA] [.bool] (fun x y=>y=(fun x=>fw x.1 x.2) x) (a,b)).holds:=by
 refine holds_of (p:=
  let za:=false=fw a b
  let zb:=a.2.2.1
  let zc:=List.length zb
  let zd:=b.2.2.1
  let ze:=(↑(List.length zd):Int)
  let zf:=a.2.2.2.1
  let zg:=List.length zf
  let zh:=b.2.2.2.1
  let zi:=(↑(List.length zh):Int)
  let zj:=fun (x_0:Nat)=>(↑x_0:Int)
  let zk:=fun (x_0:Nat)=>(0:Int)<=zj x_0
  let zl:=(b.1=b.1/\b.2.1=b.2.1/\zd=zd/\zh=zh/\True)/\(a.1=a.1/\a.2.1=a.2.1/\zb=zb/\zf=zf/\True)/\True
  (True)/\(True)/\(((!cZ a.1 b.1)=true->(za))/\((!cZ a.1 b.1)=false->(((!fX a.2.1 b.2.1)=true->(za))/\((!fX a.2.1 b.2.1)=false->((zc<=aH)->((List.length zd<=aH)->((((↑zc:Int) != ze)=true->(za))/\(((↑zc:Int) != ze)=false->((zg<=aH)->((List.length zh<=aH)->((((↑zg:Int) != zi)=true->(za))/\(((↑zg:Int) != zi)=false->(∃(x:Nat),(x<=zc/\∀(j:Nat),j < x->nth aD zb j=nth aD zd j)/\((0:Int)=(↑x:Int)/\True)/\True)/\(∀x_0:Nat,((x_0<=zc/\∀(j:Nat),j < x_0->nth aD zb j=nth aD zd j)->((zc<=aH)->(((decide (zj x_0 < (↑zc:Int)))=true->(zk x_0/\zj x_0 < (↑zc:Int))/\(zk x_0/\zj x_0 < ze)/\(((!((nth aD zb x_0).1 == (nth aD zd x_0).1 && (decide ((nth aD zb x_0).2.1=(nth aD zd x_0).2.1) && ((nth aD zb x_0).2.2.1 == (nth aD zd x_0).2.2.1 && true))))=true->(za))/\((!((nth aD zb x_0).1 == (nth aD zd x_0).1 && (decide ((nth aD zb x_0).2.1=(nth aD zd x_0).2.1) && ((nth aD zb x_0).2.2.1 == (nth aD zd x_0).2.2.1 && true))))=false->((aJ (zj x_0))->((aJ (1:Int))->(aJ (zj x_0 + (1:Int)))/\(∃(x':Nat),(x'<=zc/\∀(j:Nat),j < x'->nth aD zb j=nth aD zd j)/\zc - x' < zc - x_0/\(zj x_0 + (1:Int)=(↑x':Int)/\True)/\zl))))))/\((decide (zj x_0 < (↑zc:Int)))=false->(∃(x:Nat),(x<=zg/\∀(j:Nat),j < x->nth aL zf j=nth aL zh j)/\((0:Int)=(↑x:Int)/\True)/\True)/\(∀x_1:Nat,((x_1<=zg/\∀(j:Nat),j < x_1->nth aL zf j=nth aL zh j)->((zg<=aH)->(((decide (zj x_1 < (↑zg:Int)))=true->(zk x_1/\zj x_1 < (↑zg:Int))/\(zk x_1/\zj x_1 < zi)/\(((!(decide ((nth aL zf x_1).1=(nth aL zh x_1).1) && (decide ((nth aL zf x_1).2.1=(nth aL zh x_1).2.1) && (decide ((nth aL zf x_1).2.2.1=(nth aL zh x_1).2.2.1) && ((nth aL zf x_1).2.2.2.1 == (nth aL zh x_1).2.2.2.1 && ((nth aL zf x_1).2.2.2.2.1 == (nth aL zh x_1).2.2.2.2.1 && true))))))=true->(za))/\((!(decide ((nth aL zf x_1).1=(nth aL zh x_1).1) && (decide ((nth aL zf x_1).2.1=(nth aL zh x_1).2.1) && (decide ((nth aL zf x_1).2.2.1=(nth aL zh x_1).2.2.1) && ((nth aL zf x_1).2.2.2.1 == (nth aL zh x_1).2.2.2.1 && ((nth aL zf x_1).2.2.2.2.1 == (nth aL zh x_1).2.2.2.2.1 && true))))))=false->((aJ (zj x_1))->((aJ (1:Int))->(aJ (zj x_1 + (1:Int)))/\(∃(x':Nat),(x'<=zg/\∀(j:Nat),j < x'->nth aL zf j=nth aL zh j)/\zg - x' < zg - x_1/\(zj x_1 + (1:Int)=(↑x':Int)/\True)/\zl))))))/\((decide (zj x_1 < (↑zg:Int)))=false->(true=fw a b)))))))))))))))))))))))) (by kernel_rfl) ?_
 dsimp -iota -proj -eta only
 refine ⟨trivial,trivial,⟨fun h0 => ?a,fun h0=>⟨fun h1 => ?b,fun h1 h2 h3=>iN (fun h4 => ?c) (fun h4 h5 h6=>iN (fun h7 => ?d) (fun h7=>⟨?e,fun x_0 q_0 h8=>iL (fun h9=>⟨?f,?g,⟨fun h10 => ?h,fun h10 h11 h12=>⟨?i,?j⟩⟩⟩) (fun h9=>⟨?k,fun x_1 q_1 h10=>iL (fun h11=>⟨?l,?m,⟨fun h12 => ?n,fun h12 h13 h14=>⟨?o,?p⟩⟩⟩) (fun h11 => ?q)⟩)⟩))⟩⟩⟩
 case a=>
  simp only [bl,reduceCtorEq] at h0
  exact Ie (by assumption)
 case b=>
  simp only [bl,reduceCtorEq] at h0 h1
  exact Ig (by assumption)
 case c=>
  simp only [bl,reduceCtorEq] at h0 h1
  exact GV h4
 case d=>
  simp only [bl,reduceCtorEq] at h0 h1
  exact GW h7
 case e|k=>
  simp only [bl,reduceCtorEq] at h0 h1
  exact ⟨0,⟨by omega,fun j hj=>by omega⟩,⟨rfl,trivial⟩,trivial⟩
 case f|g|l|m=>
  simp only [bl,reduceCtorEq] at h0 h1
  omega
 case h=>
  simp only [bl,reduceCtorEq] at h0 h1 h10
  exact Ih (i:=x_0) (fun e=>by rw [e] at h10;simp at h10)
 case i=>
  simp only [bl,reduceCtorEq] at h0 h1 h10
  simp only [aJ,aH] at *;omega
 case j=>
  simp only [bl,reduceCtorEq] at h0 h1 h10
  have h:=h10;simp at h;exact ⟨x_0 + 1,⟨by omega,iq q_0.2 (Prod.ext h.1 (Prod.ext h.2.1 (Prod.ext h.2.2 rfl)))⟩,by omega,⟨by omega,trivial⟩,(by trivial)⟩
 case n=>
  simp only [bl,reduceCtorEq] at h0 h1 h12
  exact Ii (i:=x_1) (fun e=>by rw [e] at h12;simp at h12)
 case o=>
  simp only [bl,reduceCtorEq] at h0 h1 h12
  simp only [aJ,aH] at *;omega
 case p=>
  simp only [bl,reduceCtorEq] at h0 h1 h12
  have h:=h12;simp at h;exact ⟨x_1 + 1,⟨by omega,iq q_1.2 (Prod.ext h.1 (Prod.ext h.2.1 (Prod.ext h.2.2.1 (Prod.ext h.2.2.2.1 (Prod.ext h.2.2.2.2 rfl)))))⟩,by omega,⟨by omega,trivial⟩,(by trivial)⟩
 case q=>
  simp only [bl,reduceCtorEq] at h0 h1
  exact DH (by assumption) (by assumption) (by assumption) (by assumption) (fun i hi=>q_0.2 i (by omega)) (fun i hi=>q_1.2 i (by omega))
theorem Tryz.xF:bI Tryz.prog Tryz.B.eT Tryz.X 71 [aA,aA] [.bool] (fun _=>True) (fun x y=>y=(fun x=>fw x.1 x.2) x):=
 bU (X:=Tryz.X) Tryz.D4 Tryz.func71 (by kernel_rfl) (fun x=>At x.1 x.2) (fun x hw hp=>xE x.1 x.2 hw)
end Go.Proofs.YtgokjhhcfemnhaaGreatDoor

namespace Go.Proofs.YtgokjhhcfemnhaaGreatDoor
open Go.Vg Go.Mrl
noncomputable def Tryz.xg:List (FuncId × (Bool × bQ)):=[(71,(true,aM [aA,aA] [.bool] (fun _=>True) (fun x=>fw x.1 x.2)))]
theorem Tryz.BA:bZ Tryz.prog Tryz.B Tryz.X Tryz.xg:=
 aO (aG Tryz.xF) (cm Tryz.cn)
def xh (a:List (D aA)) (b:List (D aA)):cu:=[
 (0,fun st=>{X:=Nat,inv:=fun i=>i<=a.length,aY:=fun i=>a.length - i,aQ:=fun i=>[(5,sI i)],aT:=[0,1]})]
theorem vy (a:List (D aA)) (b:List (D aA)) (hw:ec [.slice aA, .slice aA] (a,b)):(cD Tryz.B Tryz.xg Tryz.f29 (xh a b) [.slice aA, .slice aA] [.bool] (fun x y=>x.1=x.2->y=true) (a,b)).holds:=by
 refine holds_of (p:=
  let za:=List.length a
  let zb:=(↑(List.length b):Int)
  let zc:=a=b->false=true
  ((za<=aH)->((List.length b<=aH)->((((↑za:Int) != zb)=true->(zc))/\(((↑za:Int) != zb)=false->(∃(x:Nat),x<=za/\((0:Int)=(↑x:Int)/\True)/\True)/\(∀x_0:Nat,((x_0<=za)->((za<=aH)->(((decide ((↑x_0:Int) < (↑za:Int)))=true->((0:Int)<=(↑x_0:Int)/\(↑x_0:Int) < (↑za:Int))/\((0:Int)<=(↑x_0:Int)/\(↑x_0:Int) < zb)/\(True)/\(((!fw (nth aA a x_0) (nth aA b x_0))=true->(zc))/\((!fw (nth aA a x_0) (nth aA b x_0))=false->((aJ (↑x_0:Int))->((aJ (1:Int))->(aJ ((↑x_0:Int) + (1:Int)))/\(∃(x':Nat),x'<=za/\za - x' < za - x_0/\((↑x_0:Int) + (1:Int)=(↑x':Int)/\True)/\True))))))/\((decide ((↑x_0:Int) < (↑za:Int)))=false->(a=b->true=true))))))))))) (by kernel_rfl) ?_
 dsimp -iota -proj -eta only
 refine fun h0 h1=>iN (fun h2=>(by intro e;subst e;exact absurd rfl h2)) (fun h2=>⟨?a,fun x_0 q_0 h3=>iL (fun h4=>⟨?b,?c,trivial,⟨fun h5 => ?d,fun h5 h6 h7=>⟨?e,?f⟩⟩⟩) (fun h4=>(fun _=>rfl))⟩)
 case a=>refine ⟨0,?_⟩;(repeat' (first | exact trivial | rfl | omega | assumption | apply And.intro))
 case b|c=>omega
 case d=>
  simp only [bl,reduceCtorEq] at h5
  intro e;subst e;rw [uL] at h5;cases h5
 case e=>
  simp only [bl,reduceCtorEq] at h5
  simp only [aJ,aH] at *;omega
 case f=>
  simp only [bl,reduceCtorEq] at h5
  refine ⟨x_0 + 1,?_⟩;(repeat' (first | exact trivial | rfl | omega | assumption | apply And.intro))
theorem Tryz.vz:bI Tryz.prog Tryz.B.eT Tryz.X 29 [.slice aA, .slice aA] [.bool] (fun _=>True) (fun x y=>x.1=x.2->y=true):=
 bU (X:=Tryz.X) Tryz.BA Tryz.func29 (by kernel_rfl) (fun x=>xh x.1 x.2) (fun x hw hp=>vy x.1 x.2 hw)
end Go.Proofs.YtgokjhhcfemnhaaGreatDoor

namespace Go.Proofs.YtgokjhhcfemnhaaGreatDoor
open Go.Vg Go.Mrl
def xi (e:D ez):cu:=[
 (0,fun st=>{X:=Nat,inv:=fun i=>i<=e.2.1.length/\∀j,j < i->(nth fQ e.2.1 j).1.length<=20,aY:=fun i=>e.2.1.length - i,aQ:=fun i=>[(3,sI i)],aT:=[1]})]
theorem xG (e:D ez) (hw:ec [ez] e):(cD Tryz.B [] Tryz.f38 (xi e) [ez] [.bool] (fun e y=>y=true->lg e) e).holds:=by
 refine holds_of (p:=
  let za:=false=true->lg e
  let zb:=e.2.1
  let zc:=List.length zb
  let zd:=e.2.2.1
  let ze:=fun (x_0:Nat)=>List.length (nth fQ zb x_0).1
  ((List.length e.1<=aH)->(((decide ((↑(List.length e.1):Int) > (20:Int)))=true->(za))/\((decide ((↑(List.length e.1):Int) > (20:Int)))=false->((zc<=aH)->(((decide ((↑zc:Int) > (8:Int)))=true->(za))/\((decide ((↑zc:Int) > (8:Int)))=false->((List.length zd<=aH)->(((decide ((↑(List.length zd):Int) > (40:Int)))=true->(za))/\((decide ((↑(List.length zd):Int) > (40:Int)))=false->(∃(x:Nat),(x<=zc/\∀(j:Nat),j < x->List.length (nth fQ zb j).1<=(20:Nat))/\((0:Int)=(↑x:Int)/\True)/\True)/\(∀x_0:Nat,((x_0<=zc/\∀(j:Nat),j < x_0->List.length (nth fQ zb j).1<=(20:Nat))->((zc<=aH)->(((decide ((↑x_0:Int) < (↑zc:Int)))=true->((0:Int)<=(↑x_0:Int)/\(↑x_0:Int) < (↑zc:Int))/\((ze x_0<=aH)->(((decide ((↑(ze x_0):Int) > (20:Int)))=true->(za))/\((decide ((↑(ze x_0):Int) > (20:Int)))=false->((aJ (↑x_0:Int))->((aJ (1:Int))->(aJ ((↑x_0:Int) + (1:Int)))/\(∃(x':Nat),(x'<=zc/\∀(j:Nat),j < x'->List.length (nth fQ zb j).1<=(20:Nat))/\zc - x' < zc - x_0/\((↑x_0:Int) + (1:Int)=(↑x':Int)/\True)/\(e.1=e.1/\zb=zb/\zd=zd/\True)/\True)))))))/\((decide ((↑x_0:Int) < (↑zc:Int)))=false->(true=true->lg e)))))))))))))))) (by kernel_rfl) ?_
 dsimp -iota -proj -eta only
 refine fun h0=>iL (fun h1 => ?a) (fun h1 h2=>iL (fun h3 => ?b) (fun h3 h4=>iL (fun h5 => ?c) (fun h5=>⟨?d,fun x_0 q_0 h6=>iL (fun h7=>⟨(by omega),fun h8=>iL (fun h9 => ?e) (fun h9 h10 h11=>⟨(by simp only [aJ,aH] at *;omega),(⟨x_0 + 1,⟨by omega,iq q_0.2 (by omega)⟩,by omega,⟨by omega,trivial⟩,(by trivial)⟩)⟩)⟩) (fun h7=>(fun _=>⟨by omega,by omega,by omega,fun i hi=>q_0.2 i (by omega)⟩))⟩)))
 case a|b|c|e=>simp_all
 case d=>refine ⟨0,?_⟩;(repeat' (first | exact trivial | rfl | omega | assumption | apply And.intro))
theorem Tryz.pH:bI Tryz.prog Tryz.B.eT Tryz.X 38 [ez] [.bool] (fun _=>True) (fun e y=>y=true->lg e):=
 bU (X:=Tryz.X) (cm Tryz.cn) Tryz.func38 (by kernel_rfl) (fun x=>xi x) (fun x hw hp=>xG x hw)
noncomputable def Tryz.Au:List (FuncId × (Bool × bQ)):=[(38,(true,fq [ez] [.bool] (fun _=>True) (fun e y=>y=true->lg e)))]
theorem Tryz.D5:bZ Tryz.prog Tryz.B Tryz.X Tryz.Au:=
 aO (da Tryz.pH) (cm Tryz.cn)
def xj (l:List (D bB)) (m:Int):cu:=[
 (0,fun st=>{X:=Nat × Int,inv:=fun x=>x.1<=l.length/\(0<=x.2/\x.2<=20000)/\∀j,j < x.1->qt (nth bB l j),aY:=fun x=>l.length - x.1,aQ:=fun x=>[(6,sI x.1),(5,sI x.2)],aT:=[0]})]
theorem Av (l:List (D bB)) (m:Int) (hw:ec [.slice bB, .int .i64] (l,m)):(cD (C5 Tryz.B) Tryz.Au Tryz.f7 (xj l m) [.slice bB, .int .i64] [.bool] (fun x y=>y=true->ku x.1 x.2) (l,m)).holds:=by
 refine holds_of (p:=
  let za:=List.length l
  let zb:=false=true->ku l m
  let zc:=fun (x_0:Nat × Int)=>(↑x_0.1:Int) < (↑za:Int)
  let zd:=fun (x_0:Nat × Int)=>(0:Int)<=(↑x_0.1:Int)/\zc x_0
  let ze:=fun (x_0:Nat × Int)=>List.length (nth bB l x_0.1).2.2.1
  let zf:=fun (x_0:Nat × Int)=>List.length (nth bB l x_0.1).2.1
  ((za<=aH)->(((decide ((↑za:Int) > m))=true->(zb))/\((decide ((↑za:Int) > m))=false->(∃(x:Nat × Int),(x.1<=za/\((0:Int)<=x.2/\x.2<=(20000:Int))/\∀(j:Nat),j < x.1->qt (nth bB l j))/\((0:Int)=(↑x.1:Int)/\(0:Int)=x.2/\True)/\True)/\(∀x_0:Nat × Int,((x_0.1<=za/\((0:Int)<=x_0.2/\x_0.2<=(20000:Int))/\∀(j:Nat),j < x_0.1->qt (nth bB l j))->((za<=aH)->(((decide (zc x_0))=true->(zd x_0)/\((ze x_0<=aH)->(∀x_1:Int,((x_1=IntKind.wrap IntKind.i64 (x_0.2 + (↑(ze x_0):Int)))->(zd x_0)/\((zf x_0<=aH)->(((decide ((↑(zf x_0):Int) > (100:Int)))=true->(zb))/\((decide ((↑(zf x_0):Int) > (100:Int)))=false->(zd x_0)/\((ze x_0<=aH)->(((decide ((↑(ze x_0):Int) > (1300:Int)))=true->(zb))/\((decide ((↑(ze x_0):Int) > (1300:Int)))=false->(((decide (x_1 > (20000:Int)))=true->(zb))/\((decide (x_1 > (20000:Int)))=false->(zd x_0)/\(True)/\(∀x_2:Bool,((x_2=true->lg (nth bB l x_0.1).2.2.2.2.2.1)->(((!x_2)=true->(zb))/\((!x_2)=false->(∀x_3:Int,((x_3=IntKind.wrap IntKind.i64 ((↑x_0.1:Int) + (1:Int)))->(∃(x':Nat × Int),(x'.1<=za/\((0:Int)<=x'.2/\x'.2<=(20000:Int))/\∀(j:Nat),j < x'.1->qt (nth bB l j))/\za - x'.1 < za - x_0.1/\(x_3=(↑x'.1:Int)/\x_1=x'.2/\True)/\True)))))))))))))))))))/\((decide (zc x_0))=false->(true=true->ku l m)))))))))) (by kernel_rfl) ?_
 dsimp -iota -proj -eta only
 refine fun h0=>iL (fun h1 => ?a) (fun h1=>⟨(by exact ⟨(0,0),⟨by omega,by simp,fun j hj=>by simp only at hj;omega⟩,⟨rfl,rfl,trivial⟩,trivial⟩),fun x_0 q_0 h2=>iL (fun h3=>⟨?b,fun h4 x_1 q_1=>⟨?c,fun h5=>iL (fun h6 => ?d) (fun h6=>⟨?e,fun h7=>iL (fun h8 => ?f) (fun h8=>iL (fun h9 => ?g) (fun h9=>⟨?h,trivial,fun x_2 q_2=>⟨fun h10 => ?i,fun h10 x_3 q_3 => ?j⟩⟩))⟩)⟩⟩) (fun h3=>(fun _=>⟨by omega,fun i hi=>q_0.2.2 i (by omega)⟩))⟩)
 case a|d|f|g=>simp_all
 case b|c|e|h=>omega
 case i=>
  simp only [bl,reduceCtorEq] at h10
  simp_all
 case j=>
  simp only [bl,reduceCtorEq] at h10
  have hw2:IntKind.wrap IntKind.i64 (x_0.2 + (List.length (nth bB l x_0.1).2.2.1:Int))=x_0.2 + (List.length (nth bB l x_0.1).2.2.1:Int):=nZ (by omega) (by omega)
  have hw3:IntKind.wrap IntKind.i64 ((x_0.1:Int) + 1)=(x_0.1:Int) + 1:=nZ (by omega) (by have:(aH:Int)=9223372036854775807:=rfl;omega)
  exact ⟨(x_0.1 + 1,_),⟨by omega,by simp only;omega,iq q_0.2.2 ⟨by omega,by omega,by simp_all⟩⟩,by simp only;omega,⟨by simp only;omega,rfl,trivial⟩,(by trivial)⟩
theorem Tryz.qZ:bI Tryz.prog Tryz.B.eT Tryz.X 7 [.slice bB, .int .i64] [.bool] (fun _=>True) (fun x y=>y=true->ku x.1 x.2):=
 bU (B:=(C5 Tryz.B)) (X:=Tryz.X) (bZ.wrap Tryz.D5) Tryz.func7 (by kernel_rfl) (fun x=>xj x.1 x.2) (fun x hw hp=>Av x.1 x.2 hw)
end Go.Proofs.YtgokjhhcfemnhaaGreatDoor

namespace Go.Proofs.YtgokjhhcfemnhaaGreatDoor
open Go.Vg Go.Mrl
noncomputable def Tryz.xk:List (FuncId × (Bool × bQ)):=[(87,(true,aM [.str] [.err] (fun _=>True) (fun s=>aX (aI s)))),
 (94,(true,aM [.str] [.int .i64] (fun _=>True) (fun s=>aI s))),
 (9,(true,aM [.err, .int .i64] [.bool] (fun _=>True) (fun x=>cV x.1 x.2))),
 (38,(true,fq [ez] [.bool] (fun _=>True) (fun e y=>y=true->lg e))),
 (7,(true,fq [.slice bB, .int .i64] [.bool] (fun _=>True) (fun x y=>y=true->ku x.1 x.2))),
 (75,(true,aM [.slice (.int .i64), .slice (.int .i64)] [.bool] (fun _=>True) (fun x=>fX x.1 x.2))),
 (19,(true,aM [.slice .str, .slice .str] [.bool] (fun _=>True) (fun x=>cZ x.1 x.2))),
 (58,(false,bG [] [] (fun _ _=>True) Tryz.rD)),
 (64,(false,bG Tryz.bz [.obj 0, .d .str] (fun _ _=>True) Tryz.na)),
 (59,(false,bG Tryz.bz [.obj 0, .d .str, .d .str] (fun _ x=>x.2.1.1.length<=6/\0<=x.1.1/\x.1.1<=1000000) Tryz.lJ)),
 (62,(false,bG Tryz.bz [.obj 0, .d .str] (fun _ _=>True) Tryz.nz)),
 (66,(false,bG Tryz.bz [.obj 0] (fun _ x=>x.2.1.1.length<=6/\(x.2.1.1.map bS).Nodup) Tryz.qW)),
 (65,(false,bG Tryz.aZ [.obj 0, .d .str] (fun _ _=>True) Tryz.lk)),
 (61,(false,bG Tryz.aZ [.obj 0, .d .str, .d .str] (fun _ x=>x.1.1.length<=6/\0<=x.1.2.1/\x.1.2.1<=1000000) Tryz.pr)),
 (63,(false,bG Tryz.aZ [.obj 0, .d .str] (fun _ x=>x.1.1.length<=6) Tryz.nA)),
 (67,(false,bG Tryz.aZ [.obj 0] (fun _ x=>x.1.1.length<=6) Tryz.qY))]
theorem Tryz.BB:bZ Tryz.prog Tryz.B Tryz.X Tryz.xk:=
 aO (aG Tryz.fU) (aO (aG Tryz.dJ) (aO (aG Tryz.gH) (aO (da Tryz.pH) (aO (da Tryz.qZ) (aO (aG Tryz.od) (aO (aG Tryz.kb) (aO (Tryz.Cm) (aO (Tryz.z7) (aO (Tryz.wU) (aO (Tryz.DM) (aO (Tryz.G7) (aO (Tryz.tc) (aO (Tryz.FK) (aO (Tryz.DY) (aO (Tryz.Hk) (cm Tryz.cn))))))))))))))))
@[reducible] def Tryz.Aw:List Ob:=Tryz.bz++Tryz.aZ
def Tryz.Ax (l:List (D bB)):cu:=[(200000,fun st=>{X:=Nat,inv:=fun i=>i<=l.length,aY:=fun i=>l.length - i,aQ:=fun i=>[(7,sI i)],aT:=[0,5,6],aK:=Tryz.Aw,refs:=[(5,0),(6,2)],pd:=fun i=>((dM (l.take i)).1.1,(dM (l.take i)).1.2.1,(dM (l.take i)).2,())})]
def Tryz.q0:List (Alt [] [.d (.slice bB)]):=[{bE:=Tryz.Aw,res:=[.obj 0, .obj 2, .d .bool],out:=fun a _=>((dM a.1).1.1,(dM a.1).1.2.1,(dM a.1).2,()),ret:=fun _ _=>(true,())}]
theorem Hm (l:List (D bB)) (hw:hP [.d (.slice bB)] (l,())):(dR Tryz.B Tryz.xk Tryz.f24 (Tryz.Ax l) [] [.d (.slice bB)] Tryz.q0 (l,()) ()).holds:=by
 refine holds_of (p:=
  let za:=List.length l
  let zb:=@List.nil (List UInt8 × List UInt8 × Int × Unit) = @List.nil (List UInt8 × List UInt8 × Int × Unit)/\True
  let zc:=(!false && true)=true
  let zd:=((0:Int),())
  let ze:=fun (x_0:Nat)=>(dM (List.take x_0 l)).1
  let zf:=fun (x_0:Nat)=>(dM (List.take x_0 l)).2
  let zg:=fun (x_0:Nat)=>(nth bB l x_0).2.1
  let zh:=fun (x_0:Nat)=>db (ze x_0) (zg x_0) (nth bB l x_0).2.2.1
  let zi:=fun (x_0:Nat)=>dH (zf x_0) (zg x_0) (nth bB l x_0).2.2.1
  let zj:=fun (x_0:Nat)=>(↑x_0:Int) + (1:Int)
  let zk:=fun (x_0:Nat)=>(List.length (ze x_0).2.1.1<=(6:Nat)/\(0:Int)<=(ze x_0).1.1/\(ze x_0).1.1<=(1000000:Int))/\((True)->(List.length (zf x_0).1<=(6:Nat)/\(0:Int)<=(zf x_0).2.1/\(zf x_0).2.1<=(1000000:Int))/\((True)->(True)/\(True)/\((True)->(True)/\((True)->(((!cV (aX (zh x_0).2) (zi x_0).2)=true->(False))/\((!cV (aX (zh x_0).2) (zi x_0).2)=false->(((!(bF (zh x_0).1 (zg x_0)).1 == (bX (zi x_0).1.1 (zg x_0)).1)=true->(False))/\((!(bF (zh x_0).1 (zg x_0)).1 == (bX (zi x_0).1.1 (zg x_0)).1)=false->((((bF (zh x_0).1 (zg x_0)).2.1 != (bX (zi x_0).1.1 (zg x_0)).2.1)=true->(False))/\(((bF (zh x_0).1 (zg x_0)).2.1 != (bX (zi x_0).1.1 (zg x_0)).2.1)=false->(True)/\(((!cV (aX (bF (zh x_0).1 (zg x_0)).2.2) (bX (zi x_0).1.1 (zg x_0)).2.2)=true->(False))/\((!cV (aX (bF (zh x_0).1 (zg x_0)).2.2) (bX (zi x_0).1.1 (zg x_0)).2.2)=false->(List.length (zh x_0).1.2.1.1<=(6:Nat)/\List.Nodup (List.map bS (zh x_0).1.2.1.1))/\((True)->(List.length (zi x_0).1.1<=(6:Nat))/\((True)->(True)/\(((!cZ (jX (zh x_0).1) (List.map dK (zi x_0).1.1))=true->(False))/\((!cZ (jX (zh x_0).1) (List.map dK (zi x_0).1.1))=false->((aJ (↑x_0:Int))->((aJ (1:Int))->(aJ (zj x_0))/\(∃(x':Nat),x'<=za/\za - x' < za - x_0/\(zj x_0=(↑x':Int)/\True)/\zb/\zc/\((zh x_0).1.1,(zh x_0).1.2.1,(zi x_0).1,())=((dM (List.take x' l)).1.1,(dM (List.take x' l)).1.2.1,(dM (List.take x' l)).2,()))))))))))))))))))))
  let zl:=fun (x_0:Nat)=>(dv (ze x_0) (zg x_0)).1
  let zm:=fun (x_0:Nat)=>(dB (zf x_0) (zg x_0)).1.1
  (True)/\((True)->(((∃(x':Nat),x'<=za/\True/\((0:Int)=(↑x':Int)/\True)/\zb/\zc/\(zd,([],zd),([],zd),())=((dM (List.take x' l)).1.1,(dM (List.take x' l)).1.2.1,(dM (List.take x' l)).2,())))/\((∀x_0:Nat,((x_0<=za)->((za<=aH)->(((decide ((↑x_0:Int) < (↑za:Int)))=true->((0:Int)<=(↑x_0:Int)/\(↑x_0:Int) < (↑za:Int))/\((((nth bB l x_0).1 == [(119:UInt8),114,105,116,101])=true->((fun a0 a1:Prop=>a0/\a1/\a0/\a0) ((zk x_0)) (((fun a0:Prop=>a0/\a0) ((zk x_0))))))/\(((nth bB l x_0).1 == [(119:UInt8),114,105,116,101])=false->((fun a0:Prop=>a0/\a0) ((True)/\((True)->(List.length (zf x_0).1<=(6:Nat))/\((True)->(True)/\(True)/\((True)->(True)/\((True)->(((!cV (aX (dv (ze x_0) (zg x_0)).2) (dB (zf x_0) (zg x_0)).2)=true->(False))/\((!cV (aX (dv (ze x_0) (zg x_0)).2) (dB (zf x_0) (zg x_0)).2)=false->(((!(bF (zl x_0) (zg x_0)).1 == (bX (zm x_0) (zg x_0)).1)=true->(False))/\((!(bF (zl x_0) (zg x_0)).1 == (bX (zm x_0) (zg x_0)).1)=false->((((bF (zl x_0) (zg x_0)).2.1 != (bX (zm x_0) (zg x_0)).2.1)=true->(False))/\(((bF (zl x_0) (zg x_0)).2.1 != (bX (zm x_0) (zg x_0)).2.1)=false->(True)/\(((!cV (aX (bF (zl x_0) (zg x_0)).2.2) (bX (zm x_0) (zg x_0)).2.2)=true->(False))/\((!cV (aX (bF (zl x_0) (zg x_0)).2.2) (bX (zm x_0) (zg x_0)).2.2)=false->(List.length (zl x_0).2.1.1<=(6:Nat)/\List.Nodup (List.map bS (zl x_0).2.1.1))/\((True)->(List.length (zm x_0)<=(6:Nat))/\((True)->(True)/\(((!cZ (jX (zl x_0)) (List.map dK (zm x_0)))=true->(False))/\((!cZ (jX (zl x_0)) (List.map dK (zm x_0)))=false->((aJ (↑x_0:Int))->((aJ (1:Int))->(aJ (zj x_0))/\(∃(x':Nat),x'<=za/\za - x' < za - x_0/\(zj x_0=(↑x':Int)/\True)/\zb/\zc/\((zl x_0).1,(zl x_0).2.1,(dB (zf x_0) (zg x_0)).1,())=((dM (List.take x' l)).1.1,(dM (List.take x' l)).1.2.1,(dM (List.take x' l)).2,())))))))))))))))))))))))))/\((decide ((↑x_0:Int) < (↑za:Int)))=false->(True/\((ze x_0).1,(ze x_0).2.1,zf x_0,())=((dM l).1.1,(dM l).1.2.1,(dM l).2,())/\(true,())=(true,()))))))))))) (by kernel_rfl) ?_
 dsimp -iota -proj -eta only
 refine ⟨trivial,fun h0=>⟨(⟨0,by omega,trivial,⟨rfl,trivial⟩,⟨rfl,trivial⟩,rfl,rfl⟩),fun x_0 q_0 h1=>iL (fun h2=>⟨(by omega),iQ (fun h3=>(show ∀{a0 a1:Prop},a0->a1->a0/\a1/\a0/\a0 from fun g0 g1=>⟨g0,g1,g0,g0⟩) (⟨?a,fun h4=>⟨?b,fun h5=>⟨trivial,trivial,fun h6=>⟨trivial,fun h7=>⟨fun h8 => ?c,fun h8=>⟨fun h9 => ?d,fun h9=>iN (fun h10 => ?e) (fun h10=>⟨trivial,⟨fun h11 => ?f,fun h11=>⟨?g,fun h12=>⟨?h,fun h13=>⟨trivial,⟨fun h14 => ?i,fun h14 h15 h16=>⟨?j,?k⟩⟩⟩⟩⟩⟩⟩)⟩⟩⟩⟩⟩⟩) ((show ∀{a0:Prop},a0->a0/\a0 from fun g0=>⟨g0,g0⟩) (⟨?l,fun h4=>⟨?m,fun h5=>⟨trivial,trivial,fun h6=>⟨trivial,fun h7=>⟨fun h8 => ?n,fun h8=>⟨fun h9 => ?o,fun h9=>iN (fun h10 => ?p) (fun h10=>⟨trivial,⟨fun h11 => ?q,fun h11=>⟨?r,fun h12=>⟨?s,fun h13=>⟨trivial,⟨fun h14 => ?t,fun h14 h15 h16=>⟨?u,?v⟩⟩⟩⟩⟩⟩⟩)⟩⟩⟩⟩⟩⟩))) (fun h3=>(show ∀{a0:Prop},a0->a0/\a0 from fun g0=>⟨g0,g0⟩) (⟨trivial,fun h4=>⟨((cB (l.take x_0)).Dh),fun h5=>⟨trivial,trivial,fun h6=>⟨trivial,fun h7=>⟨fun h8 => ?w,fun h8=>⟨fun h9 => ?x,fun h9=>iN (fun h10 => ?y) (fun h10=>⟨trivial,⟨fun h11 => ?z,fun h11=>⟨?a0,fun h12=>⟨?a1,fun h13=>⟨trivial,⟨fun h14 => ?a2,fun h14 h15 h16=>⟨?a3,?a4⟩⟩⟩⟩⟩⟩⟩)⟩⟩⟩⟩⟩⟩))⟩) (fun h2=>(by rw [List.take_of_length_le (by omega)];exact ⟨trivial,rfl,rfl⟩))⟩⟩
 case a|l=>exact (cB (l.take x_0)).pre
 case b|m=>exact (cB (l.take x_0)).JK
 case c|n=>
  simp only [bl,reduceCtorEq] at h8
  exact Bool.noConfusion (((cB (l.take x_0)).I1 (nth bB l x_0).2.1 (nth bB l x_0).2.2.1).symm.trans h8)
 case d|o=>
  simp only [bl,reduceCtorEq] at h8 h9
  have hi:=cB (l.take x_0);have hw:=(hi.write (nth bB l x_0).2.1 (nth bB l x_0).2.2.1).1
  exact absurd (congrArg Prod.fst (hw.read (nth bB l x_0).2.1)) h9
 case e|p=>
  simp only [bl,reduceCtorEq] at h8 h9
  have hi:=cB (l.take x_0);have hw:=(hi.write (nth bB l x_0).2.1 (nth bB l x_0).2.2.1).1
  exact absurd (congrArg (fun z=>z.2.1) (hw.read (nth bB l x_0).2.1)) h10
 case f|q=>
  simp only [bl,reduceCtorEq] at h8 h9 h11
  have hi:=cB (l.take x_0);have hw:=(hi.write (nth bB l x_0).2.1 (nth bB l x_0).2.2.1).1
  exact Bool.noConfusion ((hw.HD (nth bB l x_0).2.1).symm.trans h11)
 case g|r=>
  simp only [bl,reduceCtorEq] at h8 h9 h11
  have hi:=cB (l.take x_0);have hw:=(hi.write (nth bB l x_0).2.1 (nth bB l x_0).2.2.1).1
  exact hw.I0
 case h|s=>
  simp only [bl,reduceCtorEq] at h8 h9 h11
  have hi:=cB (l.take x_0);have hw:=(hi.write (nth bB l x_0).2.1 (nth bB l x_0).2.2.1).1
  exact hw.Dh
 case i|t=>
  simp only [bl,reduceCtorEq] at h8 h9 h11 h14
  have hi:=cB (l.take x_0);have hw:=(hi.write (nth bB l x_0).2.1 (nth bB l x_0).2.2.1).1
  exact Bool.noConfusion (hw.HC.symm.trans h14)
 case j|u|a3=>
  simp only [bl,reduceCtorEq] at h8 h9 h11 h14
  simp only [aJ,aH] at *;omega
 case k|v=>
  simp only [bl,reduceCtorEq] at h8 h9 h11 h14
  exact ⟨x_0 + 1,by omega,by omega,⟨by omega,trivial⟩,⟨rfl,trivial⟩,rfl,by rw [wj (by omega),A7 (by unfold qE;assumption)]⟩
 case w=>
  simp only [bl,reduceCtorEq] at h8
  exact Bool.noConfusion (((cB (l.take x_0)).H7 (nth bB l x_0).2.1).symm.trans h8)
 case x=>
  simp only [bl,reduceCtorEq] at h8 h9
  have hi:=cB (l.take x_0);have hw:=(hi.remove (nth bB l x_0).2.1).1
  exact absurd (congrArg Prod.fst (hw.read (nth bB l x_0).2.1)) h9
 case y=>
  simp only [bl,reduceCtorEq] at h8 h9
  have hi:=cB (l.take x_0);have hw:=(hi.remove (nth bB l x_0).2.1).1
  exact absurd (congrArg (fun z=>z.2.1) (hw.read (nth bB l x_0).2.1)) h10
 case z=>
  simp only [bl,reduceCtorEq] at h8 h9 h11
  have hi:=cB (l.take x_0);have hw:=(hi.remove (nth bB l x_0).2.1).1
  exact Bool.noConfusion ((hw.HD (nth bB l x_0).2.1).symm.trans h11)
 case a0=>
  simp only [bl,reduceCtorEq] at h8 h9 h11
  have hi:=cB (l.take x_0);have hw:=(hi.remove (nth bB l x_0).2.1).1
  exact hw.I0
 case a1=>
  simp only [bl,reduceCtorEq] at h8 h9 h11
  have hi:=cB (l.take x_0);have hw:=(hi.remove (nth bB l x_0).2.1).1
  exact hw.Dh
 case a2=>
  simp only [bl,reduceCtorEq] at h8 h9 h11 h14
  have hi:=cB (l.take x_0);have hw:=(hi.remove (nth bB l x_0).2.1).1
  exact Bool.noConfusion (hw.HC.symm.trans h14)
 case a4=>
  simp only [bl,reduceCtorEq] at h8 h9 h11 h14
  exact ⟨x_0 + 1,by omega,by omega,⟨by omega,trivial⟩,⟨rfl,trivial⟩,rfl,by rw [wj (by omega),zA (by unfold qE;assumption)]⟩
theorem Tryz.Hn:cG Tryz.prog Tryz.B.eT Tryz.X 24 false (bG [] [.d (.slice bB)] (fun _ _=>True) Tryz.q0):=
 ch (X:=Tryz.X) Tryz.BB Tryz.func24 (by kernel_rfl) (fun (a:CD [.d (.slice bB)]) (x:PD [])=>Tryz.Ax a.1) (fun (a:CD [.d (.slice bB)]) (x:PD []) hw hp=>Hm a.1 hw)
end Go.Proofs.YtgokjhhcfemnhaaGreatDoor

namespace Go.Proofs.YtgokjhhcfemnhaaGreatDoor
open Go.Vg Go.Mrl
def Ay (o:D aA):cu:=[
 (0,fun st=>{X:=Nat,inv:=fun i=>i<=o.1.length/\∀j,j < i->(nth .str o.1 j).length<=20,aY:=fun i=>o.1.length - i,aQ:=fun i=>[(3,sI i)],aT:=[1]}),
 (2,fun st=>{X:=Nat,inv:=fun i=>i<=o.2.2.1.length/\∀j,j < i->(nth aD o.2.2.1 j).1.length<=20,aY:=fun i=>o.2.2.1.length - i,aQ:=fun i=>[(4,sI i)],aT:=[1]}),
 (4,fun st=>{X:=Nat,inv:=fun i=>i<=o.2.2.2.1.length/\∀j,j < i->(nth aL o.2.2.2.1 j).2.2.2.1.length<=20,aY:=fun i=>o.2.2.2.1.length - i,aQ:=fun i=>[(5,sI i)],aT:=[1]})]
theorem vA (o:D aA) (hw:ec [aA] o):(cD Tryz.B [] Tryz.f60 (Ay o) [aA] [.bool] (fun o y=>y=true->hU o) o).holds:=by
 refine holds_of (p:=
  let za:=List.length o.1
  let zb:=false=true->hU o
  let zc:=List.length o.2.1
  let zd:=o.2.2.1
  let ze:=List.length zd
  let zf:=o.2.2.2.1
  let zg:=List.length zf
  let zh:=fun (x_0:Nat)=>(↑x_0:Int)
  let zi:=fun (x_0:Nat)=>(0:Int)<=zh x_0
  let zj:=aJ (1:Int)
  let zk:=fun (x_0:Nat)=>zh x_0 + (1:Int)
  let zl:=(o.1=o.1/\o.2.1=o.2.1/\zd=zd/\zf=zf/\True)/\True
  let zm:=fun (x_2:Nat)=>List.length (nth aL zf x_2).2.2.2.1
  ((za<=aH)->(((decide ((↑za:Int) > (6:Int)))=true->(zb))/\((decide ((↑za:Int) > (6:Int)))=false->((zc<=aH)->(((decide ((↑zc:Int) > (50:Int)))=true->(zb))/\((decide ((↑zc:Int) > (50:Int)))=false->((ze<=aH)->(((decide ((↑ze:Int) > (10:Int)))=true->(zb))/\((decide ((↑ze:Int) > (10:Int)))=false->((zg<=aH)->(((decide ((↑zg:Int) > (10:Int)))=true->(zb))/\((decide ((↑zg:Int) > (10:Int)))=false->(∃(x:Nat),(x<=za/\∀(j:Nat),j < x->List.length (nth Ty.str o.1 j)<=(20:Nat))/\((0:Int)=(↑x:Int)/\True)/\True)/\(∀x_0:Nat,((x_0<=za/\∀(j:Nat),j < x_0->List.length (nth Ty.str o.1 j)<=(20:Nat))->((za<=aH)->(((decide (zh x_0 < (↑za:Int)))=true->(zi x_0/\zh x_0 < (↑za:Int))/\((List.length (nth Ty.str o.1 x_0)<=aH)->(((decide ((↑(List.length (nth Ty.str o.1 x_0)):Int) > (20:Int)))=true->(zb))/\((decide ((↑(List.length (nth Ty.str o.1 x_0)):Int) > (20:Int)))=false->((aJ (zh x_0))->((zj)->(aJ (zk x_0))/\(∃(x':Nat),(x'<=za/\∀(j:Nat),j < x'->List.length (nth Ty.str o.1 j)<=(20:Nat))/\za - x' < za - x_0/\(zk x_0=(↑x':Int)/\True)/\zl)))))))/\((decide (zh x_0 < (↑za:Int)))=false->(∃(x:Nat),(x<=ze/\∀(j:Nat),j < x->List.length (nth aD zd j).1<=(20:Nat))/\((0:Int)=(↑x:Int)/\True)/\True)/\(∀x_1:Nat,((x_1<=ze/\∀(j:Nat),j < x_1->List.length (nth aD zd j).1<=(20:Nat))->((ze<=aH)->(((decide (zh x_1 < (↑ze:Int)))=true->(zi x_1/\zh x_1 < (↑ze:Int))/\((List.length (nth aD zd x_1).1<=aH)->(((decide ((↑(List.length (nth aD zd x_1).1):Int) > (20:Int)))=true->(zb))/\((decide ((↑(List.length (nth aD zd x_1).1):Int) > (20:Int)))=false->((aJ (zh x_1))->((zj)->(aJ (zk x_1))/\(∃(x':Nat),(x'<=ze/\∀(j:Nat),j < x'->List.length (nth aD zd j).1<=(20:Nat))/\ze - x' < ze - x_1/\(zk x_1=(↑x':Int)/\True)/\zl)))))))/\((decide (zh x_1 < (↑ze:Int)))=false->(∃(x:Nat),(x<=zg/\∀(j:Nat),j < x->List.length (nth aL zf j).2.2.2.1<=(20:Nat))/\((0:Int)=(↑x:Int)/\True)/\True)/\(∀x_2:Nat,((x_2<=zg/\∀(j:Nat),j < x_2->List.length (nth aL zf j).2.2.2.1<=(20:Nat))->((zg<=aH)->(((decide (zh x_2 < (↑zg:Int)))=true->(zi x_2/\zh x_2 < (↑zg:Int))/\((zm x_2<=aH)->(((decide ((↑(zm x_2):Int) > (20:Int)))=true->(zb))/\((decide ((↑(zm x_2):Int) > (20:Int)))=false->((aJ (zh x_2))->((zj)->(aJ (zk x_2))/\(∃(x':Nat),(x'<=zg/\∀(j:Nat),j < x'->List.length (nth aL zf j).2.2.2.1<=(20:Nat))/\zg - x' < zg - x_2/\(zk x_2=(↑x':Int)/\True)/\zl)))))))/\((decide (zh x_2 < (↑zg:Int)))=false->(true=true->hU o))))))))))))))))))))))))))))) (by kernel_rfl) ?_
 dsimp -iota -proj -eta only
 refine fun h0=>iL (fun h1 => ?a) (fun h1 h2=>iL (fun h3 => ?b) (fun h3 h4=>iL (fun h5 => ?c) (fun h5 h6=>iL (fun h7 => ?d) (fun h7=>⟨?e,fun x_0 q_0 h8=>iL (fun h9=>⟨?f,fun h10=>iL (fun h11 => ?g) (fun h11 h12 h13=>⟨?h,(⟨x_0 + 1,⟨by omega,iq q_0.2 (by omega)⟩,by omega,⟨by omega,trivial⟩,(by trivial)⟩)⟩)⟩) (fun h9=>⟨?i,fun x_1 q_1 h10=>iL (fun h11=>⟨?j,fun h12=>iL (fun h13 => ?k) (fun h13 h14 h15=>⟨?l,(⟨x_1 + 1,⟨by omega,iq q_1.2 (by omega)⟩,by omega,⟨by omega,trivial⟩,(by trivial)⟩)⟩)⟩) (fun h11=>⟨?m,fun x_2 q_2 h12=>iL (fun h13=>⟨?n,fun h14=>iL (fun h15 => ?o) (fun h15 h16 h17=>⟨?p,(⟨x_2 + 1,⟨by omega,iq q_2.2 (by omega)⟩,by omega,⟨by omega,trivial⟩,(by trivial)⟩)⟩)⟩) (fun h13=>(fun _=>⟨by omega,by omega,by omega,by omega,fun i hi=>q_0.2 i (by omega),fun i hi=>q_1.2 i (by omega),fun i hi=>q_2.2 i (by omega)⟩))⟩)⟩)⟩))))
 case a|b|c|d|g|k|o=>simp_all
 case e|i|m=>refine ⟨0,?_⟩;(repeat' (first | exact trivial | rfl | omega | assumption | apply And.intro))
 case f|j|n=>omega
 case h|l|p=>simp only [aJ,aH] at *;omega
theorem Tryz.vB:bI Tryz.prog Tryz.B.eT Tryz.X 60 [aA] [.bool] (fun _=>True) (fun o y=>y=true->hU o):=
 bU (X:=Tryz.X) (cm Tryz.cn) Tryz.func60 (by kernel_rfl) (fun x=>Ay x) (fun x hw hp=>vA x hw)
noncomputable def Tryz.xl:List (FuncId × (Bool × bQ)):=[(60,(true,fq [aA] [.bool] (fun _=>True) (fun o y=>y=true->hU o)))]
theorem Tryz.BC:bZ Tryz.prog Tryz.B Tryz.X Tryz.xl:=
 aO (da Tryz.vB) (cm Tryz.cn)
def xm (l:List (D aA)):cu:=[
 (0,fun st=>{X:=Nat,inv:=fun i=>i<=l.length/\∀j,j < i->hU (nth aA l j),aY:=fun i=>l.length - i,aQ:=fun i=>[(3,sI i)],aT:=[0]})]
theorem uP (l:List (D aA)) (hw:ec [.slice aA] l):(cD Tryz.B Tryz.xl Tryz.f23 (xm l) [.slice aA] [.bool] (fun l y=>y=true->lO l) l).holds:=by
 refine holds_of (p:=
  let za:=List.length l
  let zb:=false=true->lO l
  ((za<=aH)->(((decide ((↑za:Int) > (8:Int)))=true->(zb))/\((decide ((↑za:Int) > (8:Int)))=false->(∃(x:Nat),(x<=za/\∀(j:Nat),j < x->hU (nth aA l j))/\((0:Int)=(↑x:Int)/\True)/\True)/\(∀x_0:Nat,((x_0<=za/\∀(j:Nat),j < x_0->hU (nth aA l j))->((za<=aH)->(((decide ((↑x_0:Int) < (↑za:Int)))=true->((0:Int)<=(↑x_0:Int)/\(↑x_0:Int) < (↑za:Int))/\(True)/\(∀x_1:Bool,((x_1=true->hU (nth aA l x_0))->(((!x_1)=true->(zb))/\((!x_1)=false->((aJ (↑x_0:Int))->((aJ (1:Int))->(aJ ((↑x_0:Int) + (1:Int)))/\(∃(x':Nat),(x'<=za/\∀(j:Nat),j < x'->hU (nth aA l j))/\za - x' < za - x_0/\((↑x_0:Int) + (1:Int)=(↑x':Int)/\True)/\True))))))))/\((decide ((↑x_0:Int) < (↑za:Int)))=false->(true=true->lO l)))))))))) (by kernel_rfl) ?_
 dsimp -iota -proj -eta only
 refine fun h0=>iL (fun h1=>(by simp_all)) (fun h1=>⟨?a,fun x_0 q_0 h2=>iL (fun h3=>⟨(by omega),trivial,fun x_1 q_1=>⟨fun h4 => ?b,fun h4 h5 h6=>⟨?c,?d⟩⟩⟩) (fun h3=>(fun _=>⟨by omega,fun i hi=>q_0.2 i (by omega)⟩))⟩)
 case a=>refine ⟨0,?_⟩;(repeat' (first | exact trivial | rfl | omega | assumption | apply And.intro))
 case b=>
  simp only [bl,reduceCtorEq] at h4
  simp_all
 case c=>
  simp only [bl,reduceCtorEq] at h4
  simp only [aJ,aH] at *;omega
 case d=>
  simp only [bl,reduceCtorEq] at h4
  exact ⟨x_0 + 1,⟨by omega,iq q_0.2 (by simp_all)⟩,by omega,⟨by omega,trivial⟩,(by trivial)⟩
theorem Tryz.uQ:bI Tryz.prog Tryz.B.eT Tryz.X 23 [.slice aA] [.bool] (fun _=>True) (fun l y=>y=true->lO l):=
 bU (X:=Tryz.X) Tryz.BC Tryz.func23 (by kernel_rfl) (fun x=>xm x) (fun x hw hp=>uP x hw)
def Az (l:List (D aA)) (s:List UInt8):cu:=[
 (0,fun st=>{X:=Nat × Int × Int,inv:=fun x=>x.1<=l.length/\er l s x.1 0 x.2.1 x.2.2,aY:=fun x=>l.length - x.1,aQ:=fun x=>[(14,sI x.1),(6,sI x.2.1),(7,sI x.2.2)],aT:=[1,12,13]}),
 (2,fun st=>{X:=Nat × Int × Int,inv:=fun x=>x.1<=(nth aA l (bO (.int .i64) st 14).toNat).2.2.1.length/\er l s (bO (.int .i64) st 14).toNat x.1 x.2.1 x.2.2,aY:=fun x=>(nth aA l (bO (.int .i64) st 14).toNat).2.2.1.length - x.1,aQ:=fun x=>[(22,sI x.1),(6,sI x.2.1),(7,sI x.2.2)],aT:=[1,8,9,12,13,14,15,16,17,18,19,20,21]})]
theorem Ho (l:List (D aA)) (s:List UInt8) (hw:ec [.slice aA, .str] (l,s)):(cD Tryz.B [] Tryz.f27 (Az l s) [.slice aA, .str] [.int .i64, .int .i64] (fun x y=>y=(fun x=>dU x) x) (l,s)).holds:=by
 refine holds_of (p:=
  let za:=List.length l
  let zb:=Nat × Int × Int
  let zc:=fun (x_0:Nat × Int × Int)=>(↑x_0.1:Int)
  let zd:=fun (x_0:Nat × Int × Int)=>(nth aA l x_0.1).2.2.1
  let ze:=fun (x_0:Nat × Int × Int)=>List.length (zd x_0)
  let zf:=aJ (1:Int)
  let zg:=fun (x_1:Nat × Int × Int)=>zc x_1 + (1:Int)
  let zh:=fun (x_0:Nat × Int × Int)=>(nth aA l x_0.1).2.2.2.1
  let zi:=fun (x_0:Nat × Int × Int)=>((nth aA l x_0.1).1=(nth aA l x_0.1).1/\(nth aA l x_0.1).2.1=(nth aA l x_0.1).2.1/\zd x_0=zd x_0/\zh x_0=zh x_0/\True)/\@List.nil (Int × Int × Int × List UInt8 × Bool × Unit) = @List.nil (Int × Int × Int × List UInt8 × Bool × Unit)/\@List.nil (List UInt8 × Int × Bool × Unit) = @List.nil (List UInt8 × Int × Bool × Unit)/\@List.nil Int = @List.nil Int/\@List.nil (List UInt8) = @List.nil (List UInt8)/\True
  let zj:=fun (x_1:Nat × Int × Int) (x_0:Nat × Int × Int)=>((aJ (zc x_1))->((zf)->(aJ (zg x_1))/\(∃(x':zb),(Prod.fst x'<=ze x_0/\er l s x_0.1 (Prod.fst x') (Prod.snd x').1 (Prod.snd x').2)/\ze x_0 - Prod.fst x' < ze x_0 - x_1.1/\(zg x_1=(↑(Prod.fst x'):Int)/\x_1.2.1=(Prod.snd x').1/\x_1.2.2=(Prod.snd x').2/\True)/\zi x_0)))
  let zk:=dU (l,s)
  ((za<=aH)->(∃(x:zb),(Prod.fst x<=za/\er l s (Prod.fst x) (0:Nat) (Prod.snd x).1 (Prod.snd x).2)/\((0:Int)=(↑(Prod.fst x):Int)/\(-1:Int)=(Prod.snd x).1/\(-1:Int)=(Prod.snd x).2/\True)/\True)/\(∀x_0:Nat × Int × Int,((x_0.1<=za/\er l s x_0.1 (0:Nat) x_0.2.1 x_0.2.2)->(((decide (zc x_0 < (↑za:Int)))=true->((0:Int)<=zc x_0/\zc x_0 < (↑za:Int))/\((ze x_0<=aH)->(∃(x:zb),(Prod.fst x<=ze x_0/\er l s x_0.1 (Prod.fst x) (Prod.snd x).1 (Prod.snd x).2)/\((0:Int)=(↑(Prod.fst x):Int)/\x_0.2.1=(Prod.snd x).1/\x_0.2.2=(Prod.snd x).2/\True)/\True)/\(∀x_1:Nat × Int × Int,((x_1.1<=ze x_0/\er l s x_0.1 x_1.1 x_1.2.1 x_1.2.2)->(((decide (zc x_1 < (↑(ze x_0):Int)))=true->((0:Int)<=zc x_1/\zc x_1 < (↑(ze x_0):Int))/\(((!(nth aD (zd x_0) x_1.1).1 == s)=true->(zj x_1 x_0))/\((!(nth aD (zd x_0) x_1.1).1 == s)=false->(((!(nth aD (zd x_0) x_1.1).2.2.1)=true->((zc x_0,zc x_1)=zk))/\((!(nth aD (zd x_0) x_1.1).2.2.1)=false->(((decide (x_1.2.1 < (0:Int)))=true->((aJ (zc x_1))->((zf)->(aJ (zg x_1))/\(∃(x':zb),(Prod.fst x'<=ze x_0/\er l s x_0.1 (Prod.fst x') (Prod.snd x').1 (Prod.snd x').2)/\ze x_0 - Prod.fst x' < ze x_0 - x_1.1/\(zg x_1=(↑(Prod.fst x'):Int)/\zc x_0=(Prod.snd x').1/\zc x_1=(Prod.snd x').2/\True)/\zi x_0))))/\((decide (x_1.2.1 < (0:Int)))=false->(zj x_1 x_0))))))))/\((decide (zc x_1 < (↑(ze x_0):Int)))=false->((aJ (zc x_0))->((zf)->(aJ (zg x_0))/\(∃(x':zb),(Prod.fst x'<=za/\er l s (Prod.fst x') (0:Nat) (Prod.snd x').1 (Prod.snd x').2)/\za - Prod.fst x' < za - x_0.1/\(zg x_0=(↑(Prod.fst x'):Int)/\x_1.2.1=(Prod.snd x').1/\x_1.2.2=(Prod.snd x').2/\True)/\True)))))))))/\((decide (zc x_0 < (↑za:Int)))=false->(x_0.2=zk))))))) (by kernel_rfl) ?_
 dsimp -iota -proj -eta only
 refine fun h0=>⟨(⟨(0,-1,-1),⟨by omega,er.start l s⟩,⟨rfl,rfl,rfl,trivial⟩,trivial⟩),fun x_0 q_0=>iL (fun h1=>⟨?a,fun h2=>⟨(⟨(0,x_0.2),⟨by omega,q_0.2⟩,⟨rfl,rfl,rfl,trivial⟩,trivial⟩),fun x_1 q_1=>iL (fun h3=>⟨?b,⟨fun h4 h5 h6=>⟨?c,?d⟩,fun h4=>⟨fun h5 => ?e,fun h5=>iL (fun h6 h7 h8=>⟨?f,?g⟩) (fun h6 h7 h8=>⟨?h,?i⟩)⟩⟩⟩) (fun h3 h4 h5=>⟨(by simp only [aJ,aH] at *;omega),(by exact ⟨(x_0.1 + 1,x_1.2),⟨by omega,q_1.2.row (by omega)⟩,by simp only;omega,⟨by simp only;omega,rfl,rfl,trivial⟩,(by trivial)⟩)⟩)⟩⟩) (fun h1=>((q_0.2.done (by omega)).symm))⟩
 case a|b=>omega
 case c=>
  simp only [bl,reduceCtorEq] at h4
  simp only [aJ,aH] at *;omega
 case d=>
  simp only [bl,reduceCtorEq] at h4
  exact ⟨(x_1.1 + 1,x_1.2),⟨by omega,q_1.2.skip (by assumption)⟩,by simp only;omega,⟨by simp only;omega,rfl,rfl,trivial⟩,(by trivial)⟩
 case e=>
  simp only [bl,reduceCtorEq] at h4 h5
  exact (q_1.2.IZ (by omega) (by omega) (by assumption) (by assumption)).symm
 case f|h=>
  simp only [bl,reduceCtorEq] at h4 h5
  simp only [aJ,aH] at *;omega
 case g=>
  simp only [bl,reduceCtorEq] at h4 h5
  exact ⟨(x_1.1 + 1,_,_),⟨by omega,q_1.2.u9 (by omega) (by omega) (by assumption) (by simp_all) (by omega)⟩,by simp only;omega,⟨by simp only;omega,rfl,rfl,trivial⟩,(by trivial)⟩
 case i=>
  simp only [bl,reduceCtorEq] at h4 h5
  exact ⟨(x_1.1 + 1,x_1.2),⟨by omega,q_1.2.more (by simp_all) (by omega)⟩,by simp only;omega,⟨by simp only;omega,rfl,rfl,trivial⟩,(by trivial)⟩
theorem Tryz.AA:bI Tryz.prog Tryz.B.eT Tryz.X 27 [.slice aA, .str] [.int .i64, .int .i64] (fun _=>True) (fun x y=>y=(fun x=>dU x) x):=
 bU (X:=Tryz.X) (cm Tryz.cn) Tryz.func27 (by kernel_rfl) (fun x=>Az x.1 x.2) (fun x hw hp=>Ho x.1 x.2 hw)
end Go.Proofs.YtgokjhhcfemnhaaGreatDoor

namespace Go.Proofs.YtgokjhhcfemnhaaGreatDoor
open Go.Vg Go.Mrl
def AB (l:List (D aA)) (s:List UInt8):cu:=[
 (0,fun st=>{X:=Nat,inv:=fun p=>p<=2/\et l s p 0 0,aY:=fun p=>2 - p,aQ:=fun p=>[(6,sI p)],aT:=[0,1]}),
 (2,fun st=>{X:=Nat,inv:=fun i=>i<=l.length/\et l s (bO (.int .i64) st 6).toNat i 0,aY:=fun i=>l.length - i,aQ:=fun i=>[(7,sI i)],aT:=[0,1,6,10,11]}),
 (4,fun st=>{X:=Nat,inv:=fun k=>k<=(nth aA l (bO (.int .i64) st 7).toNat).2.2.1.length/\et l s (bO (.int .i64) st 6).toNat (bO (.int .i64) st 7).toNat k,aY:=fun k=>(nth aA l (bO (.int .i64) st 7).toNat).2.2.1.length - k,aQ:=fun k=>[(8,sI k)],aT:=[0,1,6,7,10,11,14,15,16,17]})]
theorem Hp (l:List (D aA)) (s:List UInt8) (hw:ec [.slice aA, .str] (l,s)):(cD Tryz.B [] Tryz.f28 (AB l s) [.slice aA, .str] [.int .i64, .int .i64] (fun x y=>y=(fun x=>dU x) x) (l,s)).holds:=by
 refine holds_of (p:=
  let za:=fun (x_0:Nat)=>(↑x_0:Int)
  let zb:=List.length l
  let zc:=fun (x_1:Nat)=>List.length (nth aA l x_1).2.2.1
  let zd:=fun (x_1:Nat)=>(0:Int)<=za x_1/\za x_1 < (↑zb:Int)
  let ze:=dU (l,s)
  let zf:=aJ (1:Int)
  let zg:=fun (x_2:Nat)=>za x_2 + (1:Int)
  let zh:=fun (x_2:Nat) (x_1:Nat) (x_0:Nat)=>((aJ (za x_2))->((zf)->(aJ (zg x_2))/\(∃(x':Nat),(x'<=zc x_1/\et l s x_0 x_1 x')/\zc x_1 - x' < zc x_1 - x_2/\(zg x_2=(↑x':Int)/\True)/\True)))
  (∃(x:Nat),(x<=(2:Nat)/\et l s x (0:Nat) (0:Nat))/\((0:Int)=(↑x:Int)/\True)/\True)/\(∀x_0:Nat,((x_0<=(2:Nat)/\et l s x_0 (0:Nat) (0:Nat))->(((decide (za x_0 < (2:Int)))=true->(∃(x:Nat),(x<=zb/\et l s x_0 x (0:Nat))/\((0:Int)=(↑x:Int)/\True)/\True)/\(∀x_1:Nat,((x_1<=zb/\et l s x_0 x_1 (0:Nat))->((zb<=aH)->(((decide (za x_1 < (↑zb:Int)))=true->(∃(x:Nat),(x<=zc x_1/\et l s x_0 x_1 x)/\((0:Int)=(↑x:Int)/\True)/\True)/\(∀x_2:Nat,((x_2<=zc x_1/\et l s x_0 x_1 x_2)->(zd x_1)/\((zc x_1<=aH)->(((decide (za x_2 < (↑(zc x_1):Int)))=true->(zd x_1)/\((0:Int)<=za x_2/\za x_2 < (↑(zc x_1):Int))/\((((nth aD (nth aA l x_1).2.2.1 x_2).1 == s)=true->((((nth aD (nth aA l x_1).2.2.1 x_2).2.2.1 == (za x_0 == (1:Int)))=true->((za x_1,za x_2)=ze))/\(((nth aD (nth aA l x_1).2.2.1 x_2).2.2.1 == (za x_0 == (1:Int)))=false->(zh x_2 x_1 x_0))))/\(((nth aD (nth aA l x_1).2.2.1 x_2).1 == s)=false->(zh x_2 x_1 x_0))))/\((decide (za x_2 < (↑(zc x_1):Int)))=false->((aJ (za x_1))->((zf)->(aJ (zg x_1))/\(∃(x':Nat),(x'<=zb/\et l s x_0 x' (0:Nat))/\zb - x' < zb - x_1/\(zg x_1=(↑x':Int)/\True)/\True)))))))))/\((decide (za x_1 < (↑zb:Int)))=false->((aJ (za x_0))->((zf)->(aJ (zg x_0))/\(∃(x':Nat),(x'<=(2:Nat)/\et l s x' (0:Nat) (0:Nat))/\(2:Nat) - x' < (2:Nat) - x_0/\(zg x_0=(↑x':Int)/\True)/\True)))))))))/\((decide (za x_0 < (2:Int)))=false->(((-1:Int),(-1:Int))=ze)))))) (by kernel_rfl) ?_
 dsimp -iota -proj -eta only
 refine ⟨(⟨0,⟨by omega,et.start l s⟩,⟨rfl,trivial⟩,trivial⟩),fun x_0 q_0=>iL (fun h0=>⟨(⟨0,⟨by omega,q_0.2⟩,⟨rfl,trivial⟩,trivial⟩),fun x_1 q_1 h1=>iL (fun h2=>⟨(⟨0,⟨by omega,q_1.2⟩,⟨rfl,trivial⟩,trivial⟩),fun x_2 q_2=>⟨?a,fun h3=>iL (fun h4=>⟨?b,?c,iQ (fun h5=>iQ (fun h6=>((q_2.2.found (by omega) (by omega) (by omega) (by assumption) (by simp_all)).symm)) (fun h6 h7 h8=>⟨?d,(⟨x_2 + 1,⟨by omega,q_2.2.next (fun hh=>by have h2:=hh.2;cases hw:(nth aD (nth aA l x_1).2.2.1 x_2).2.2.1 <;> simp_all)⟩,by omega,⟨by omega,trivial⟩,(by trivial)⟩)⟩)) (fun h5 h6 h7=>⟨?e,(⟨x_2 + 1,⟨by omega,q_2.2.next (by simp_all)⟩,by omega,⟨by omega,trivial⟩,(by trivial)⟩)⟩)⟩) (fun h4 h5 h6=>⟨?f,(⟨x_1 + 1,⟨by omega,q_2.2.row (by omega)⟩,by omega,⟨by omega,trivial⟩,(by trivial)⟩)⟩)⟩⟩) (fun h2 h3 h4=>⟨?g,(⟨x_0 + 1,⟨by omega,q_1.2.pass (by omega)⟩,by omega,⟨by omega,trivial⟩,(by trivial)⟩)⟩)⟩) (fun h0=>((q_0.2.done (by omega)).symm))⟩
 case a|b|c=>omega
 case d|e|f|g=>simp only [aJ,aH] at *;omega
theorem Tryz.Hq:bI Tryz.prog Tryz.B.eT Tryz.X 28 [.slice aA, .str] [.int .i64, .int .i64] (fun _=>True) (fun x y=>y=(fun x=>dU x) x):=
 bU (X:=Tryz.X) (cm Tryz.cn) Tryz.func28 (by kernel_rfl) (fun x=>AB x.1 x.2) (fun x hw hp=>Hp x.1 x.2 hw)
end Go.Proofs.YtgokjhhcfemnhaaGreatDoor

