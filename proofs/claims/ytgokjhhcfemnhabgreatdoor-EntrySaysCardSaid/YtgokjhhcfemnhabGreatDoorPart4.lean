/- A part of the proof that the law EntrySaysCard holds of the given program: facts that are used there. -/
import Derived.Test.YtgokjhhcfemnhabGreatDoorPart3
import Derived.Test.YtgokjhhcfemnhabGreatDoorChecked
import Derived.Lib.LaidTab
import Derived.Lib.ItoaNum
set_option linter.unusedSimpArgs false
set_option linter.unusedVariables false
set_option maxRecDepth 100000
set_option maxHeartbeats 4000000
namespace Go.Proofs.YtgokjhhcfemnhabGreatDoor
open Go.Vg
noncomputable def Tryz.B:Cx:={eT:=110,τ:=[(2,(.int .i64)),(3,(.int .i64)),(4, .bool),(5,(.int .u8)),(7,(.prod (.int .i64) (.prod (.int .i64) (.prod .bool (.prod (.int .u8) .unit))))),(9, .str),(12,(.int .u64)),(13,(.prod .str (.prod (.int .u64) .unit))),(18,(.prod .fK .unit)),(21,(.int .i32)),(22,(.slice bV)),(32, .err),(33, .err),(37,(.slice cW)),(38,KZ),(39,KZ),(41,(.slice aI)),(42,(.prod (.slice aI) .unit)),(43,(.prod (.slice aI) .unit)),(44,(.int .u64)),(45,(.slice aF)),(46,(.slice aH)),(47,aI),(48,aI),(49,bV),(50,bV),(57,(.slice bR)),(64,(.slice .str)),(92,(.prod .fK (.prod .fK (.prod .str .unit)))),(93,(.prod .fK (.prod .fK (.prod .str .unit)))),(97,(.slice (.int .i64))),(98,bR),(99,bR),(105, .fK),(106,(.prod .fK (.prod (.int .i64) .unit))),(107,(.prod .fK (.prod (.int .i64) .unit))),(108,(.prod .fK (.prod .fK .unit))),(109,(.prod .fK (.prod .fK .unit))),(110,(.int .i64)),(112,(.prod .str (.prod (.int .i64) .unit))),(113,(.prod .str (.prod (.int .i64) .unit))),(117,cW),(118,cW),(124,aH),(125,aH),(126,aF),(127,aF),(142,(.slice aA)),(145,(.slice aN)),(146,(.slice aO)),(147,aA),(148,aA),(155,(.prod .fK (.prod .fK (.prod .fK (.prod .str .unit))))),(156,(.prod .fK (.prod .fK (.prod .fK (.prod .str .unit))))),(162,(.slice FT)),(163,SX),(164,SX),(168,(.prod .fK (.prod (.int .i64) (.prod (.slice aI) .unit)))),(169,(.prod .fK (.prod (.int .i64) (.prod (.slice aI) .unit)))),(181,(.slice (.int .u8))),(197,(.slice (.slice (.int .i64)))),(201,aN),(202,aN),(203,aO),(204,aO),(212,(.int .u64)),(215,FT),(216,FT),(224,(.slice aW)),(225,aW),(226,aW),(243,(.prod .fK (.prod (.slice (.int .u8)) .unit))),(244,(.prod .fK (.prod (.slice (.int .u8)) .unit))),(248,(.int .u32)),(263,(.int .i64)),(270,(.int .i64)),(290,(.prod .str (.prod .str (.prod .err .unit)))),(291,(.prod .str (.prod .str (.prod .err .unit)))),(292,(.int .u64)),(305,(.prod (.int .u8) (.prod (.int .u8) .unit))),(306,(.prod (.int .u8) (.prod (.int .u8) .unit))),(311,(.prod .str .unit)),(312,(.prod .str .unit))],zN:=[(227,(600,4)),(255,(24,5)),(286,(20,44)),(287,(65,5)),(304,(256,5)),(307,(16,306)),(316,(32,5)),(317,(64,5)),(321,(0,16))],Γ:=[],N:=0,eqs:=[125,127],om:=[25,26,29,31,242],qc:=[(105,(9,113))],rW:=[(244,5)]}
theorem Tryz.bX:TyOK Tryz.prog Tryz.B:=Tq (n:=16) (by kernel_rfl)
structure Tryz.UO (w:World):Prop where
 pow:Lib.TabIs Tryz.prog w "internal/strconv.uint64pow10" .u64 Lib.pow10Tab
 max:∃m,w.cell? ⟨1,0,none⟩=some (.int .i64 m)
 Vt:∃ev,w.cell? ⟨2,0,none⟩=some ev/\(ev = .nilIface\/∃te pe,ev = .iface te pe)
 Vu:∃ev,w.cell? ⟨3,0,none⟩=some ev/\(ev = .nilIface\/∃te pe,ev = .iface te pe)
theorem Tryz.UP:Tryz.prog.globalNamed "internal/strconv.uint64pow10" = some 0:=by kernel_rfl
theorem yn {w:World} {b o:Nat} {v:Value} (h:w.cell? ⟨b,o,none⟩=some v):b < w.heap.size:=by
 unfold World.cell? at h
 by_cases hb:b < w.heap.size
 ·exact hb
 ·have h0:w.heap[b]?=none:=Array.getElem?_eq_none (by omega)
  simp [h0] at h
theorem vz {w w':World} {b o:Nat} (h:w'.heap[b]?=w.heap[b]?):w'.cell? ⟨b,o,none⟩=w.cell? ⟨b,o,none⟩:=by
 unfold World.cell?
 rw [h]
theorem PI {P:Program} {w w':World} {nm:String} {g:Nat} (hg:P.globalNamed nm=some g) (h:w'.heap[g]?=w.heap[g]?):w'.var? P nm=w.var? P nm:=by
 unfold World.var?
 rw [hg]
 simp [h]
noncomputable def Tryz.X:Ext:=
 {Va with
  vV:=Tryz.UO
  KC:=[0,1,2,3]
  SM:=fun {w} h b hb=>by
   obtain ⟨h1,⟨m,h2⟩,⟨e3,h3,_⟩,⟨e4,h4,_⟩⟩:=h
   simp only [List.mem_cons,List.not_mem_nil,or_false] at hb
   rcases hb with rfl | rfl | rfl | rfl
   ·have h1':=World.var?_cell Tryz.UP h1 0
    exact yn (v:=.int .u64 1) (by simpa [Lib.pow10Tab] using h1')
   ·exact yn h2
   ·exact yn h3
   ·exact yn h4
  FW:=fun {w w'} h hb=>by
   obtain ⟨h1,⟨m,h2⟩,⟨e3,h3,h5⟩,⟨e4,h4,h6⟩⟩:=h
   refine ⟨?_,⟨m,?_⟩,⟨e3,?_,h5⟩,⟨e4,?_,h6⟩⟩
   ·unfold Lib.TabIs at h1 ⊢
    rw [PI Tryz.UP (hb 0 (by simp))];exact h1
   ·rw [vz (hb 1 (by simp))];exact h2
   ·rw [vz (hb 2 (by simp))];exact h3
   ·rw [vz (hb 3 (by simp))];exact h4}
end Go.Proofs.YtgokjhhcfemnhabGreatDoor

namespace Go.Proofs.YtgokjhhcfemnhabGreatDoor
open Go.Vg Go.Mrl
def HZ (s:List UInt8):cN:=[(0,fun st=>{X:=Nat,inv:=fun i=>i<=s.length/\∀j,j < i->jc j (cF s j)=false,bA:=fun i=>s.length - i,aS:=fun i=>[(15, .s (.one (.d (.int .i64) i)))],aK:=fun _=>[],aX:=[0,14],jj:=[]})]
def H0 (s:List UInt8):cN:=[(0,fun st=>{X:=Nat,inv:=fun i=>i<=s.length/\∀j,j < i->jc j (cF s j)=false,bA:=fun i=>s.length - i,aS:=fun i=>[(3, .s (.one (.d (.int .i64) i)))],aK:=fun _=>[],aX:=[0],jj:=[]})]
def Lt (s:List UInt8):cN:=[(0,fun st=>{X:=Nat,inv:=fun i=>i<=s.length,bA:=fun i=>s.length - i,aS:=fun i=>[(8, .s (.one (.d (.int .i64) i))),(3, .s (.one (.d (.int .u32) (dD (s.take i)))))],aK:=fun _=>[],aX:=[0,7],jj:=[]})]
def H2 (s:List UInt8):cN:=[(0,fun st=>{X:=Nat,inv:=fun i=>i<=s.length,bA:=fun i=>s.length - i,aS:=fun i=>[(4, .s (.one (.d (.int .i64) i))),(3, .s (.one (.d (.int .i64) (dD (s.take i)))))],aK:=fun _=>[],aX:=[0],jj:=[]})]
theorem R2 (s:List UInt8) (hw:eE [.str] s):(cM Tryz.B [] Tryz.f49 (HZ s) [.str] [.err] (fun x y=>y=(fun s=>aT (aG s)) x) s).holds:=by
 refine holds_of (p:=
  let za:=aT (aG s)
  let zb:=bC.no (1:Int)=za
  let zc:=List.length s
  let zd:=fun (x_0:Nat)=>(↑(UInt8.toNat (cF s x_0)):Int)
  let ze:=bC.no (3:Int)=za
  let zf:=fun (x_0:Nat)=>((aE (↑x_0:Int))->((aE (1:Int))->(aE ((↑x_0:Int) + (1:Int)))/\(∃(x':Nat),(x'<=zc/\∀(j:Nat),j < x'->jc j (cF s j)=false)/\zc - x' < zc - x_0/\((↑x_0:Int) + (1:Int)=(↑x':Int)/\True)/\True)))
  let zg:=fun (x_0:Nat)=>(((zd x_0 != (95:Int))=true->(ze))/\((zd x_0 != (95:Int))=false->(zf x_0)))
  let zh:=fun (x_0:Nat)=>((((↑x_0:Int) == (0:Int))=true->(ze))/\(((↑x_0:Int) == (0:Int))=false->(((decide (zd x_0 < (48:Int)))=true->(zg x_0))/\((decide (zd x_0 < (48:Int)))=false->(((decide (zd x_0 > (57:Int)))=true->(zg x_0))/\((decide (zd x_0 > (57:Int)))=false->(zf x_0)))))))
  (((s == @List.nil UInt8)=true->(zb))/\((s == @List.nil UInt8)=false->((zc<=aJ)->(((decide ((↑zc:Int) > (8:Int)))=true->(zb))/\((decide ((↑zc:Int) > (8:Int)))=false->((zc<=aJ)->(∃(x:Nat),(x<=zc/\∀(j:Nat),j < x->jc j (cF s j)=false)/\((0:Int)=(↑x:Int)/\True)/\True)/\(∀x_0:Nat,((x_0<=zc/\∀(j:Nat),j < x_0->jc j (cF s j)=false)->(((decide ((↑x_0:Int) < (↑zc:Int)))=true->((0:Int)<=(↑x_0:Int)/\(↑x_0:Int) < (↑zc:Int))/\(((decide (zd x_0 < (97:Int)))=true->(zh x_0))/\((decide (zd x_0 < (97:Int)))=false->(((decide (zd x_0 > (122:Int)))=true->(zh x_0))/\((decide (zd x_0 > (122:Int)))=false->(zf x_0))))))/\((decide ((↑x_0:Int) < (↑zc:Int)))=false->(bC.nil=za)))))))))))) (by kernel_rfl) ?_
 dsimp -iota -proj -eta only
 refine iQ (fun h0 => ?a) (fun h0 h1=>iL (fun h2 => ?b) (fun h2 h3=>⟨(⟨0,⟨by omega,fun j hj=>by omega⟩,⟨rfl,trivial⟩,trivial⟩),fun x_0 q_0=>iL (fun h4=>⟨?c,iL (fun h5=>iQ (fun h6 => ?d) (fun h6=>iL (fun h7=>iN (fun h8 => ?e) (fun h8 h9 h10=>⟨?f,?g⟩)) (fun h7=>iL (fun h8=>iN (fun h9 => ?h) (fun h9 h10 h11=>⟨?i,?j⟩)) (fun h8 h9 h10=>⟨?k,?l⟩)))) (fun h5=>iL (fun h6=>iQ (fun h7 => ?m) (fun h7=>iL (fun h8=>iN (fun h9 => ?n) (fun h9 h10 h11=>⟨?o,?p⟩)) (fun h8=>iL (fun h9=>iN (fun h10 => ?q) (fun h10 h11 h12=>⟨?r,?s⟩)) (fun h9 h10 h11=>⟨?t,?u⟩)))) (fun h6 h7 h8=>⟨?v,?w⟩))⟩) (fun h4 => ?x)⟩))
 case a|b=>rw [vL (by first | omega | simp [h0])];rfl
 case c|f|o|r|t=>omega
 case d|e|h|m|n|q=>
  have hl:s.length≠0:=fun e=>h0 (List.length_eq_zero_iff.1 e)
  rw [iF (i:=x_0) (by omega) (by omega) (lC.2 (by omega))];rfl
 case g|j|l|p|s|u|w=>exact ⟨x_0 + 1,⟨by omega,ox q_0.2 (kY.2 (by omega))⟩,by omega,⟨by omega,trivial⟩,trivial⟩
 case i|k|v=>simp only [aE,aJ] at *;omega
 case x=>
  have hl:s.length≠0:=fun e=>h0 (List.length_eq_zero_iff.1 e)
  rw [tH (by omega) (fun i hi=>q_0.2 i (by omega))];rfl
theorem Tryz.iR:bK Tryz.prog Tryz.B.eT Tryz.X 49 [.str] [.err] (fun _=>True) (fun x y=>y=(fun s=>aT (aG s)) x):=
 bM (X:=Tryz.X) (bW Tryz.bX) Tryz.func49 (by kernel_rfl) (fun x=>HZ x) (fun x hw hp=>R2 x hw)
theorem H3 (s:List UInt8) (hw:eE [.str] s):(cM Tryz.B [] Tryz.f50 (H0 s) [.str] [.int .i64] (fun x y=>y=(fun s=>aG s) x) s).holds:=by
 refine holds_of (p:=
  let za:=List.length s
  let zb:=za<=aJ
  let zc:=(↑za:Int)
  let zd:=aG s
  let ze:=fun (x_0:Nat)=>(0:Int)<=(↑x_0:Int)/\(↑x_0:Int) < zc
  let zf:=fun (x_0:Nat)=>(↑(UInt8.toNat (cF s x_0)):Int)
  let zg:=fun (x_0:Nat) => !decide (zf x_0<=(122:Int))
  let zh:=(3:Int)=zd
  let zi:=fun (x_0:Nat)=>((aE (↑x_0:Int))->((aE (1:Int))->(aE ((↑x_0:Int) + (1:Int)))/\(∃(x':Nat),(x'<=za/\∀(j:Nat),j < x'->jc j (cF s j)=false)/\za - x' < za - x_0/\((↑x_0:Int) + (1:Int)=(↑x':Int)/\True)/\True)))
  let zj:=fun (x_0:Nat)=>((((↑x_0:Int) == (0:Int))=true->(zh))/\(((↑x_0:Int) == (0:Int))=false->(zi x_0)))
  let zk:=fun (x_0:Nat)=>((((↑x_0:Int) == (0:Int))=true->(zh))/\(((↑x_0:Int) == (0:Int))=false->(((!zf x_0 == (95:Int))=true->(zh))/\((!zf x_0 == (95:Int))=false->(zi x_0)))))
  let zl:=fun (x_0:Nat)=>(ze x_0)/\(((zg x_0)=true->(zk x_0))/\((zg x_0)=false->(zi x_0)))
  ((zb)->(((decide (zc < (1:Int)))=true->((1:Int)=zd))/\((decide (zc < (1:Int)))=false->((zb)->(((decide (zc > (8:Int)))=true->((1:Int)=zd))/\((decide (zc > (8:Int)))=false->(∃(x:Nat),(x<=za/\∀(j:Nat),j < x->jc j (cF s j)=false)/\((0:Int)=(↑x:Int)/\True)/\True)/\(∀x_0:Nat,((x_0<=za/\∀(j:Nat),j < x_0->jc j (cF s j)=false)->((zb)->(((decide ((↑x_0:Int) < zc))=true->(ze x_0)/\(((decide (zf x_0>=(97:Int)))=true->(ze x_0)/\(ze x_0)/\(((decide (zf x_0>=(48:Int)))=true->(ze x_0)/\(((decide (zf x_0<=(57:Int)))=true->(((zg x_0)=true->(zj x_0))/\((zg x_0)=false->(zi x_0))))/\((decide (zf x_0<=(57:Int)))=false->(zl x_0))))/\((decide (zf x_0>=(48:Int)))=false->(zl x_0))))/\((decide (zf x_0>=(97:Int)))=false->(ze x_0)/\(((decide (zf x_0>=(48:Int)))=true->(ze x_0)/\(((decide (zf x_0<=(57:Int)))=true->(zj x_0))/\((decide (zf x_0<=(57:Int)))=false->(ze x_0)/\(zk x_0))))/\((decide (zf x_0>=(48:Int)))=false->(ze x_0)/\(zk x_0))))))/\((decide ((↑x_0:Int) < zc))=false->((0:Int)=zd))))))))))))) (by kernel_rfl) ?_
 dsimp -iota -proj -eta only
 refine fun h0=>iL (fun h1 => ?a) (fun h1 h2=>iL (fun h3 => ?b) (fun h3=>⟨(⟨0,⟨by omega,fun j hj=>by omega⟩,⟨rfl,trivial⟩,trivial⟩),fun x_0 q_0 h4=>iL (fun h5=>⟨?c,iE (fun h6=>⟨?d,?e,iE (fun h7=>⟨?f,iE (fun h8=>⟨fun h9=>iQ (fun h10 => ?g) (fun h10 h11 h12=>⟨?h,?i⟩),fun h9 h10 h11=>⟨?j,?k⟩⟩) (fun h8=>⟨?l,⟨fun h9=>iQ (fun h10 => ?m) (fun h10=>⟨fun h11 => ?n,fun h11 h12 h13=>⟨?o,?p⟩⟩),fun h9 h10 h11=>⟨?q,?r⟩⟩⟩)⟩) (fun h7=>⟨?s,⟨fun h8=>iQ (fun h9 => ?t) (fun h9=>⟨fun h10 => ?u,fun h10 h11 h12=>⟨?v,?w⟩⟩),fun h8 h9 h10=>⟨?x,?y⟩⟩⟩)⟩) (fun h6=>⟨?z,iE (fun h7=>⟨?a0,iE (fun h8=>iQ (fun h9 => ?a1) (fun h9 h10 h11=>⟨(by simp only [aE,aJ] at *;omega),(⟨x_0 + 1,⟨by omega,ox q_0.2 (kY.2 (by omega))⟩,by omega,⟨by omega,trivial⟩,trivial⟩)⟩)) (fun h8=>⟨?a2,iQ (fun h9 => ?a3) (fun h9=>⟨fun h10 => ?a4,fun h10 h11 h12=>⟨?a5,?a6⟩⟩)⟩)⟩) (fun h7=>⟨?a7,iQ (fun h8 => ?a8) (fun h8=>⟨fun h9 => ?a9,fun h9 h10 h11=>⟨?aa,?ab⟩⟩)⟩)⟩)⟩) (fun h5=>(by rw [tH (by omega) (fun i hi=>q_0.2 i (by omega))]))⟩))
 case a|b=>rw [vL (by omega)]
 case c|d|e|f|l|s|z|a0|a2|a7=>omega
 case g|m|a9=>
  simp only [bl,reduceCtorEq] at h9
  rw [iF (i:=x_0) (by omega) (by omega) (lC.2 (by omega))]
 case h|j|aa=>
  simp only [bl,reduceCtorEq] at h9
  omega
 case i|k|r|ab=>
  simp only [bl,reduceCtorEq] at h9
  exact ⟨x_0 + 1,⟨by omega,ox q_0.2 (kY.2 (by omega))⟩,by omega,⟨by omega,trivial⟩,trivial⟩
 case n=>
  simp only [bl,reduceCtorEq] at h9 h11
  rw [iF (i:=x_0) (by omega) (by omega) (lC.2 (by omega))]
 case o=>
  simp only [bl,reduceCtorEq] at h9 h11
  omega
 case p=>
  simp only [bl,reduceCtorEq] at h9 h11
  exact ⟨x_0 + 1,⟨by omega,ox q_0.2 (kY.2 (by omega))⟩,by omega,⟨by omega,trivial⟩,trivial⟩
 case q=>
  simp only [bl,reduceCtorEq] at h9
  simp only [aE,aJ] at *;omega
 case t=>
  simp only [bl,reduceCtorEq] at h8
  rw [iF (i:=x_0) (by omega) (by omega) (lC.2 (by omega))]
 case u=>
  simp only [bl,reduceCtorEq] at h8 h10
  rw [iF (i:=x_0) (by omega) (by omega) (lC.2 (by omega))]
 case v=>
  simp only [bl,reduceCtorEq] at h8 h10
  omega
 case w=>
  simp only [bl,reduceCtorEq] at h8 h10
  exact ⟨x_0 + 1,⟨by omega,ox q_0.2 (kY.2 (by omega))⟩,by omega,⟨by omega,trivial⟩,trivial⟩
 case x=>
  simp only [bl,reduceCtorEq] at h8
  omega
 case y=>
  simp only [bl,reduceCtorEq] at h8
  exact ⟨x_0 + 1,⟨by omega,ox q_0.2 (kY.2 (by omega))⟩,by omega,⟨by omega,trivial⟩,trivial⟩
 case a1|a3|a8=>rw [iF (i:=x_0) (by omega) (by omega) (lC.2 (by omega))]
 case a4=>
  simp only [bl,reduceCtorEq] at h10
  rw [iF (i:=x_0) (by omega) (by omega) (lC.2 (by omega))]
 case a5=>
  simp only [bl,reduceCtorEq] at h10
  simp only [aE,aJ] at *;omega
 case a6=>
  simp only [bl,reduceCtorEq] at h10
  exact ⟨x_0 + 1,⟨by omega,ox q_0.2 (kY.2 (by omega))⟩,by omega,⟨by omega,trivial⟩,trivial⟩
theorem Tryz.eY:bK Tryz.prog Tryz.B.eT Tryz.X 50 [.str] [.int .i64] (fun _=>True) (fun x y=>y=(fun s=>aG s) x):=
 bM (X:=Tryz.X) (bW Tryz.bX) Tryz.func50 (by kernel_rfl) (fun x=>H0 x) (fun x hw hp=>H3 x hw)
theorem TF (s:List UInt8) (hw:eE [.str] s):(cM Tryz.B [] Tryz.f156 (Lt s) [.str] [.int .u32] (fun x y=>y=(fun s=>(dD s:Int)) x) s).holds:=by
 refine holds_of (p:=
  let za:=List.length s
  let zb:=IntKind.bits IntKind.u32
  let zc:=fun (x_2:Int)=>BitVec.ofInt zb x_2
  ((za<=aJ)->(∃(x:Nat),x<=za/\((0:Int)=(↑x:Int)/\(0:Int)=(↑(dD (List.take x s)):Int)/\True)/\True)/\(∀x_0:Nat,((x_0<=za)->(((decide ((↑x_0:Int) < (↑za:Int)))=true->((0:Int)<=(4:Int))/\(∀x_1:Int,((x_1=IntKind.wrap IntKind.u32 ((↑(dD (List.take x_0 s)):Int) * (2:Int) ^ min (4:Nat) zb))->((0:Int)<=(↑x_0:Int)/\(↑x_0:Int) < (↑za:Int))/\(∀x_2:Int,((x_2=IntKind.wrap IntKind.u32 (x_1 + (↑(UInt8.toNat (cF s x_0)):Int)))->(∀x_3:Int,((x_3=IntKind.wrap IntKind.u32 (↑(BitVec.toNat (zc x_2 &&& BitVec.ofInt zb (4026531840:Int))):Int))->((0:Int)<=(24:Int))/\(∀x_4:Int,((x_4=Int.fdiv x_3 ((2:Int) ^ min (24:Nat) zb))->(∀x_5:Int,((x_5=IntKind.wrap IntKind.u32 (↑(BitVec.toNat (zc x_2 ^^^ zc x_4)):Int))->(∀x_6:Int,((x_6=IntKind.wrap IntKind.u32 (↑(BitVec.toNat (zc x_5 &&& ~~~zc x_3)):Int))->((aE (↑x_0:Int))->((aE (1:Int))->(aE ((↑x_0:Int) + (1:Int)))/\(∃(x':Nat),x'<=za/\za - x' < za - x_0/\((↑x_0:Int) + (1:Int)=(↑x':Int)/\x_6=(↑(dD (List.take x' s)):Int)/\True)/\True))))))))))))))))/\((decide ((↑x_0:Int) < (↑za:Int)))=false->((↑(dD (List.take x_0 s)):Int)=(↑(dD s):Int)))))))) (by kernel_rfl) ?_
 dsimp -iota -proj -eta only
 refine fun h0=>⟨(⟨0,by omega,⟨rfl,rfl,trivial⟩,trivial⟩),fun x_0 q_0=>iL (fun h1=>⟨?a,fun x_1 q_1=>⟨(by omega),fun x_2 q_2 x_3 q_3=>⟨?b,fun x_4 q_4 x_5 q_5 x_6 q_6 h2 h3=>⟨(by simp only [aE,aJ] at *;omega),(by exact ⟨x_0 + 1,by omega,by omega,⟨by omega,by rw [Bq (by omega)];exact OF (Ah _) q_1 q_2 q_3 q_4 q_5 q_6,trivial⟩,trivial⟩)⟩⟩⟩⟩) (fun h1=>(by rw [List.take_of_length_le (by omega)]))⟩
 case a|b=>trivial
theorem Tryz.jC:bK Tryz.prog Tryz.B.eT Tryz.X 156 [.str] [.int .u32] (fun _=>True) (fun x y=>y=(fun s=>(dD s:Int)) x):=
 bM (X:=Tryz.X) (bW Tryz.bX) Tryz.func156 (by kernel_rfl) (fun x=>Lt x) (fun x hw hp=>TF x hw)
theorem R3 (s:List UInt8) (hw:eE [.str] s):(cM Tryz.B [] Tryz.f83 (H2 s) [.str] [.int .i64] (fun x y=>y=(fun s=>(dD s:Int)) x) s).holds:=by
 refine holds_of (p:=
  let za:=List.length s
  let zb:=fun (x_0:Nat)=>(↑(dD (List.take x_0 s)):Int)
  let zc:=(268435456:Int)≠(0:Int)
  (∃(x:Nat),x<=za/\((0:Int)=(↑x:Int)/\(0:Int)=(↑(dD (List.take x s)):Int)/\True)/\True)/\(∀x_0:Nat,((x_0<=za)->((za<=aJ)->(((decide ((↑x_0:Int) < (↑za:Int)))=true->(∀x_1:Int,((x_1=(16:Int) * zb x_0)->((aE (16:Int))->((aE (zb x_0))->(aE x_1)/\((0:Int)<=(↑x_0:Int)/\(↑x_0:Int) < (↑za:Int))/\((aE x_1)->((aE (↑(UInt8.toNat (cF s x_0)):Int))->(aE (x_1 + (↑(UInt8.toNat (cF s x_0)):Int)))/\((4294967296:Int)≠(0:Int))/\(∀x_2:Int,((x_2=Int.tmod (x_1 + (↑(UInt8.toNat (cF s x_0)):Int)) (4294967296:Int))->(zc)/\(∀x_3:Int,((x_3=Int.tdiv x_2 (268435456:Int))->((aE x_2)->((aE (268435456:Int))->(aE x_3)/\(zc)/\(∀x_4:Int,((x_4=Int.tmod x_2 (268435456:Int))->(∀x_5:Int,((x_5=(16:Int) * x_3)->((aE (16:Int))->((aE x_3)->(aE x_5)/\(∀x_6:Int,((x_6=IntKind.wrap IntKind.i64 (↑(BitVec.toNat (BitVec.ofInt (IntKind.bits IntKind.i64) x_4 ^^^ BitVec.ofInt (IntKind.bits IntKind.i64) x_5)):Int))->((aE (↑x_0:Int))->((aE (1:Int))->(aE ((↑x_0:Int) + (1:Int)))/\(∃(x':Nat),x'<=za/\za - x' < za - x_0/\((↑x_0:Int) + (1:Int)=(↑x':Int)/\x_6=(↑(dD (List.take x' s)):Int)/\True)/\True))))))))))))))))))))))))/\((decide ((↑x_0:Int) < (↑za:Int)))=false->(zb x_0=(↑(dD s):Int)))))))) (by kernel_rfl) ?_
 dsimp -iota -proj -eta only
 refine ⟨(⟨0,by omega,⟨rfl,rfl,trivial⟩,trivial⟩),fun x_0 q_0 h0=>iL (fun h1 x_1 q_1 h2 h3=>⟨(by have:=Ah (s.take x_0);simp only [aE];omega),(by omega),fun h4 h5=>⟨(by have:=Ah (s.take x_0);have:=(cF s x_0).toNat_lt;simp only [aE];omega),?a,fun x_2 q_2=>⟨?b,fun x_3 q_3 h6 h7=>⟨?c,?d,fun x_4 q_4 x_5 q_5 h8 h9=>⟨?e,fun x_6 q_6 h10 h11=>⟨(by simp only [aE,aJ] at *;omega),(by exact ⟨x_0 + 1,by omega,by omega,⟨by omega,by rw [Bq (by omega)];exact Mn q_1 q_2 q_3 q_4 q_5 q_6,trivial⟩,trivial⟩)⟩⟩⟩⟩⟩⟩) (fun h1=>(by rw [List.take_of_length_le (by omega)]))⟩
 case a|b|d=>trivial
 case c|e=>have q:=Vj (Vi q_1 q_2) q_3;simp only [aE];omega
theorem Tryz.iS:bK Tryz.prog Tryz.B.eT Tryz.X 83 [.str] [.int .i64] (fun _=>True) (fun x y=>y=(fun s=>(dD s:Int)) x):=
 bM (X:=Tryz.X) (bW Tryz.bX) Tryz.func83 (by kernel_rfl) (fun x=>H2 x) (fun x hw hp=>R3 x hw)
theorem TG (e:bC) (n:Int) (hw:eE [.err, .int .i64] (e,n)):(cM Tryz.B [] Tryz.f11 [] [.err, .int .i64] [.bool] (fun x y=>y=(fun x=>cT x.1 x.2) x) (e,n)).holds:=by
 refine holds_of (p:=
  let za:=cT e n
  (((bC.isNil e)=true->((n == (0:Int))=za))/\((bC.isNil e)=false->(((bC.LH e)=true->(((decide (n > (0:Int)))=true->((bC.num e == n)=za))/\((decide (n > (0:Int)))=false->(false=za))))/\((bC.LH e)=false->(false=za)))))) (by kernel_rfl) ?_
 dsimp -iota -proj -eta only
 refine ⟨fun h0 => ?a,fun h0=>⟨fun h1=>iL (fun h2 => ?b) (fun h2 => ?c),fun h1 => ?d⟩⟩
 case a|b|c|d=>cases e <;> simp_all [bC.isNil,bC.LH,bC.num,cT] <;> omega
theorem Tryz.jl:bK Tryz.prog Tryz.B.eT Tryz.X 11 [.err, .int .i64] [.bool] (fun _=>True) (fun x y=>y=(fun x=>cT x.1 x.2) x):=
 bM (X:=Tryz.X) (bW Tryz.bX) Tryz.func11 (by kernel_rfl) (fun _=>[]) (fun x hw hp=>TG x.1 x.2 hw)
noncomputable def Tryz.Lu:List (FuncId × (Bool × bQ)):=[(49,(true,aL [.str] [.err] (fun _=>True) (fun s=>aT (aG s)))),
 (50,(true,aL [.str] [.int .i64] (fun _=>True) (fun s=>aG s))),
 (156,(true,aL [.str] [.int .u32] (fun _=>True) (fun s=>(dD s:Int)))),
 (83,(true,aL [.str] [.int .i64] (fun _=>True) (fun s=>(dD s:Int)))),
 (11,(true,aL [.err, .int .i64] [.bool] (fun _=>True) (fun x=>cT x.1 x.2)))]
theorem Tryz.PJ:bT Tryz.prog Tryz.B Tryz.X Tryz.Lu:=
 aP (aC Tryz.iR) (aP (aC Tryz.eY) (aP (aC Tryz.jC) (aP (aC Tryz.iS) (aP (aC Tryz.jl) (bW Tryz.bX)))))
end Go.Proofs.YtgokjhhcfemnhabGreatDoor

namespace Go.Proofs.YtgokjhhcfemnhabGreatDoor
open Go.Vg Go.Mrl
@[reducible] def Tryz.aV:List Ob:=[.box 39 [.d (.slice cW), .d (.int .i64)]]
def H4 (s:List UInt8) (f:RS):cN:=[(0,fun st=>{X:=Nat,inv:=fun i=>i<=f.1.length/\∀j,j < i->¬ (nth cW f.1 j).1=s,bA:=fun i=>f.1.length - i,aS:=fun i=>[(7,sI i)],aX:=[0,1]})]
def Tryz.lF:List (Alt Tryz.aV [.obj 0, .d .str]):=[{cG:=Tryz.aV,res:=[.d .str, .d (.int .i64), .d (.int .i64)],out:=fun _ x=>x,ret:=fun a x=>((bG x.1.1 a.1).1,(bG x.1.1 a.1).2.1,(bG x.1.1 a.1).2.2,())}]
theorem R4 (s:List UInt8) (f:RS) (hw:kn [.obj 0, .d .str] (s,())):(fD Tryz.B [] Tryz.f51 (H4 s f) Tryz.aV [.obj 0, .d .str] Tryz.lF (s,()) (f,())).holds:=by
 refine holds_of (p:=
  let za:=List.length f.1
  let zb:=fun (x_0:Nat)=>(↑x_0:Int) < (↑(List.length f.1):Int)
  let zc:=fun (x_0:Nat)=>(0:Int)<=(↑x_0:Int)/\zb x_0
  let zd:=(f,())=(f,())
  let ze:=bG f.1 s
  let zf:=(ze.1,ze.2.1,ze.2.2,())
  (∃(x:Nat),(x<=za/\∀(j:Nat),j < x->¬(nth cW f.1 j).1=s)/\((0:Int)=(↑x:Int)/\True)/\True)/\(∀x_0:Nat,((x_0<=za/\∀(j:Nat),j < x_0->¬(nth cW f.1 j).1=s)->((List.length f.1<=aJ)->(((decide (zb x_0))=true->(zc x_0)/\((((nth cW f.1 x_0).1 == s)=true->(zc x_0)/\(zc x_0)/\(True/\zd/\((nth cW f.1 x_0).2.1,(nth cW f.1 x_0).2.2.1,(0:Int),())=zf))/\(((nth cW f.1 x_0).1 == s)=false->((aE (↑x_0:Int))->((aE (1:Int))->(aE ((↑x_0:Int) + (1:Int)))/\(∃(x':Nat),(x'<=za/\∀(j:Nat),j < x'->¬(nth cW f.1 j).1=s)/\za - x' < za - x_0/\((↑x_0:Int) + (1:Int)=(↑x':Int)/\True)/\(f.1=f.1/\f.2.1=f.2.1/\True)/\True))))))/\((decide (zb x_0))=false->(True/\zd/\([],(0:Int),(5:Int),())=zf))))))) (by kernel_rfl) ?_
 dsimp -iota -proj -eta only
 refine ⟨(⟨0,⟨by omega,fun j hj=>by omega⟩,⟨rfl,trivial⟩,trivial⟩),fun x_0 q_0 h0=>iL (fun h1=>⟨?a,iQ (fun h2=>⟨?b,?c,(by rw [G9 q_0.2 (by omega) h2];exact ⟨trivial,rfl,rfl⟩)⟩) (fun h2 h3 h4=>⟨(by simp only [aE,aJ] at *;omega),(⟨x_0 + 1,⟨by omega,sk q_0.2 h2⟩,by omega,⟨by omega,trivial⟩,(by trivial)⟩)⟩)⟩) (fun h1=>(by rw [OS fun j hj=>q_0.2 j (by omega)];exact ⟨trivial,rfl,rfl⟩))⟩
 case a|b|c=>omega
theorem Tryz.pO:dK Tryz.prog Tryz.B.eT Tryz.X 51 false (bF Tryz.aV [.obj 0, .d .str] (fun _ _=>True) Tryz.lF):=
 cH (X:=Tryz.X) (bW Tryz.bX) Tryz.func51 (by kernel_rfl) (fun (a:CD [.obj 0, .d .str]) (x:PD Tryz.aV)=>H4 a.1 x.1) (fun (a:CD [.obj 0, .d .str]) (x:PD Tryz.aV) hw hp=>R4 a.1 x.1 hw)
noncomputable def Tryz.H5:List (FuncId × (Bool × bQ)):=[(49,(true,aL [.str] [.err] (fun _=>True) (fun s=>aT (aG s)))),
 (50,(true,aL [.str] [.int .i64] (fun _=>True) (fun s=>aG s))),
 (156,(true,aL [.str] [.int .u32] (fun _=>True) (fun s=>(dD s:Int)))),
 (83,(true,aL [.str] [.int .i64] (fun _=>True) (fun s=>(dD s:Int)))),
 (11,(true,aL [.err, .int .i64] [.bool] (fun _=>True) (fun x=>cT x.1 x.2))),
 (51,(false,bF Tryz.aV [.obj 0, .d .str] (fun _ _=>True) Tryz.lF))]
theorem Tryz.Ni:bT Tryz.prog Tryz.B Tryz.X Tryz.H5:=
 aP (aC Tryz.iR) (aP (aC Tryz.eY) (aP (aC Tryz.jC) (aP (aC Tryz.iS) (aP (aC Tryz.jl) (aP (Tryz.pO) (bW Tryz.bX))))))
def Ew (s:List UInt8) (t:List UInt8) (f:RS):cN:=[(0,fun st=>{X:=Nat × Bool × List (D cW),inv:=fun x=>x.1<=f.1.length/\dA f.1 s (s,t,f.2.1 + 1,()) x.1 x.2.1 x.2.2,bA:=fun x=>f.1.length - x.1,aS:=fun x=>[(13,sI x.1),(12,sB x.2.1),(11, .s (.one (.app cW x.2.2 (aQ st 11))))],aK:=fun x=>[(aQ st 11, .tok cW x.2.2)],aX:=[0,1,2,6],eD:=[aQ st 11]})]
def Tryz.qS:List (Alt Tryz.aV [.obj 0, .d .str, .d .str]):=[{cG:=Tryz.aV,res:=[.d (.int .i64)],out:=fun a x=>((gX x.1 a.1 a.2.1).1,()),ret:=fun a x=>((gX x.1 a.1 a.2.1).2,())}]
theorem PK (s:List UInt8) (t:List UInt8) (f:RS) (hw:kn [.obj 0, .d .str, .d .str] (s,t,())) (hp:(fun _ x=>x.1.1.length<=6/\0<=x.1.2.1/\x.1.2.1<=1000000) (s,t,()) (f,())):(fD Tryz.B Tryz.H5 Tryz.f13 (Ew s t f) Tryz.aV [.obj 0, .d .str, .d .str] Tryz.qS (s,t,()) (f,())).holds:=by
 refine holds_of (p:=
  let za:=gX f s t
  let zb:=(za.1,())
  let zc:=(f,())=zb
  let zd:=(za.2,())
  let ze:=List.length f.1<=aJ
  let zf:=(↑(List.length f.1):Int)
  let zg:=True/\zc/\((8:Int),())=zd
  let zh:=aE (1:Int)
  let zi:=f.2.1 + (1:Int)
  let zj:=Nat × Bool × List (List UInt8 × List UInt8 × Int × Unit)
  let zk:=List.length f.1
  let zl:=(s,t,f.2.1 + (1:Int),())
  let zm:=fun (x_0:Nat × Bool × List (List UInt8 × List UInt8 × Int × Unit))=>(0:Int)<=(↑x_0.1:Int)/\(↑x_0.1:Int) < zf
  let zn:=fun (x_0:Nat × Bool × List (List UInt8 × List UInt8 × Int × Unit))=>(nth cW f.1 x_0.1).1
  let zo:=(zi,())
  let zp:=[(s,t,zo)]
  let zq:=fun (x_0:Nat × Bool × List (List UInt8 × List UInt8 × Int × Unit))=>x_0.2.2=x_0.2.2/\List.length x_0.2.2 + List.length zp<=(1000000000:Nat)
  let zr:=fun (x_0:Nat × Bool × List (List UInt8 × List UInt8 × Int × Unit))=>x_0.2.2++zp
  let zs:=fun (x_0:Nat × Bool × List (List UInt8 × List UInt8 × Int × Unit))=>[nth cW f.1 x_0.1]
  let zt:=fun (x_0:Nat × Bool × List (List UInt8 × List UInt8 × Int × Unit))=>aE (↑x_0.1:Int)
  let zu:=fun (x_0:Nat × Bool × List (List UInt8 × List UInt8 × Int × Unit))=>(↑x_0.1:Int) + (1:Int)
  let zv:=(f.1=f.1/\zi=zi/\True)/\True
  let zw:=fun (x_0:Nat × Bool × List (List UInt8 × List UInt8 × Int × Unit))=>(zm x_0)/\(((!zn x_0 == s)=true->(zm x_0)/\(x_0.2.2=x_0.2.2/\List.length x_0.2.2 + List.length (zs x_0)<=(1000000000:Nat))/\((zt x_0)->((zh)->(aE (zu x_0))/\(∃(x':zj),(Prod.fst x'<=zk/\dA f.1 s zl (Prod.fst x') (Prod.snd x').1 (Prod.snd x').2)/\zk - Prod.fst x' < zk - x_0.1/\(zu x_0=(↑(Prod.fst x'):Int)/\x_0.2.1=(Prod.snd x').1/\x_0.2.2++zs x_0=(Prod.snd x').2/\True)/\x_0.2.2++zs x_0=(Prod.snd x').2/\zv))))/\((!zn x_0 == s)=false->((zt x_0)->((zh)->(aE (zu x_0))/\(∃(x':zj),(Prod.fst x'<=zk/\dA f.1 s zl (Prod.fst x') (Prod.snd x').1 (Prod.snd x').2)/\zk - Prod.fst x' < zk - x_0.1/\(zu x_0=(↑(Prod.fst x'):Int)/\x_0.2.1=(Prod.snd x').1/\x_0.2.2=(Prod.snd x').2/\True)/\x_0.2.2=(Prod.snd x').2/\zv)))))
  let zx:=((0:Int),())=zd
  let zy:=(((f.2.1 == (1000000:Int))=true->(zg))/\((f.2.1 == (1000000:Int))=false->((aE f.2.1)->((zh)->(aE zi)/\(∃(x:zj),(Prod.fst x<=zk/\dA f.1 s zl (Prod.fst x) (Prod.snd x).1 (Prod.snd x).2)/\((0:Int)=(↑(Prod.fst x):Int)/\false=(Prod.snd x).1/\@List.nil (List UInt8 × List UInt8 × Int × Unit)=(Prod.snd x).2/\True)/\@List.nil (List UInt8 × List UInt8 × Int × Unit)=(Prod.snd x).2/\True)/\(∀x_0:Nat × Bool × List (List UInt8 × List UInt8 × Int × Unit),((x_0.1<=zk/\dA f.1 s zl x_0.1 x_0.2.1 x_0.2.2)->((ze)->(((decide ((↑x_0.1:Int) < zf))=true->(((!x_0.2.1)=true->(zm x_0)/\(((Op.bytesLess s (zn x_0) || s == zn x_0)=true->(zq x_0)/\(zm x_0)/\(((!zn x_0 == s)=true->(zm x_0)/\(zr x_0=zr x_0/\List.length (zr x_0) + List.length (zs x_0)<=(1000000000:Nat))/\((zt x_0)->((zh)->(aE (zu x_0))/\(∃(x':zj),(Prod.fst x'<=zk/\dA f.1 s zl (Prod.fst x') (Prod.snd x').1 (Prod.snd x').2)/\zk - Prod.fst x' < zk - x_0.1/\(zu x_0=(↑(Prod.fst x'):Int)/\true=(Prod.snd x').1/\zr x_0++zs x_0=(Prod.snd x').2/\True)/\zr x_0++zs x_0=(Prod.snd x').2/\zv))))/\((!zn x_0 == s)=false->((zt x_0)->((zh)->(aE (zu x_0))/\(∃(x':zj),(Prod.fst x'<=zk/\dA f.1 s zl (Prod.fst x') (Prod.snd x').1 (Prod.snd x').2)/\zk - Prod.fst x' < zk - x_0.1/\(zu x_0=(↑(Prod.fst x'):Int)/\true=(Prod.snd x').1/\zr x_0=(Prod.snd x').2/\True)/\zr x_0=(Prod.snd x').2/\zv))))))/\((Op.bytesLess s (zn x_0) || s == zn x_0)=false->(zw x_0))))/\((!x_0.2.1)=false->(zw x_0))))/\((decide ((↑x_0.1:Int) < zf))=false->(((!x_0.2.1)=true->(zq x_0)/\(True/\((zr x_0,zo),())=zb/\zx))/\((!x_0.2.1)=false->(True/\((x_0.2.2,zo),())=zb/\zx))))))))))))
  (True)/\(((decide (aG s > (0:Int)))=true->(True/\zc/\(aG s,())=zd))/\((decide (aG s > (0:Int)))=false->((List.length t<=aJ)->(((decide ((↑(List.length t):Int) > (1200:Int)))=true->(True/\zc/\((2:Int),())=zd))/\((decide ((↑(List.length t):Int) > (1200:Int)))=false->(True)/\((True)->(((decide ((bG f.1 s).2.2 > (0:Int)))=true->((ze)->(((zf == (6:Int))=true->(zg))/\((zf == (6:Int))=false->(zy)))))/\((decide ((bG f.1 s).2.2 > (0:Int)))=false->(zy)))))))))) (by kernel_rfl) ?_
 dsimp -iota -proj -eta only
 dsimp only at hp
 refine ⟨trivial,iL (fun h0=>(by rw [Jt (by omega)];exact ⟨trivial,rfl,rfl⟩)) (fun h0 h1=>iL (fun h2 => ?a) (fun h2=>⟨trivial,fun h3=>iL (fun h4 h5=>iQ (fun h6 => ?b) (fun h6=>iQ (fun h7 => ?c) (fun h7 h8 h9=>⟨?d,?e,fun x_0 q_0 h10=>iL (fun h11=>iB (fun h12=>⟨?f,⟨fun h13=>⟨?g,?h,⟨fun h14=>⟨?i,?j,fun h15 h16=>⟨?k,?l⟩⟩,fun h14 h15 h16=>⟨?m,?n⟩⟩⟩,fun h13=>⟨?o,⟨fun h14=>⟨?p,?q,fun h15 h16=>⟨?r,?s⟩⟩,fun h14 h15 h16=>⟨?t,?u⟩⟩⟩⟩⟩) (fun h12=>⟨?v,⟨fun h13=>⟨?w,?x,fun h14 h15=>⟨?y,?z⟩⟩,fun h13 h14 h15=>⟨?a0,?a1⟩⟩⟩)) (fun h11=>iB (fun h12=>⟨?a2,?a3⟩) (fun h12 => ?a4))⟩))) (fun h4=>iQ (fun h5 => ?a5) (fun h5 h6 h7=>⟨?a6,?a7,fun x_0 q_0 h8=>iL (fun h9=>iB (fun h10=>⟨?a8,⟨fun h11=>⟨?a9,?aa,⟨fun h12=>⟨?ab,?ac,fun h13 h14=>⟨?ad,?ae⟩⟩,fun h12 h13 h14=>⟨?af,?ag⟩⟩⟩,fun h11=>⟨?ah,⟨fun h12=>⟨?ai,?aj,fun h13 h14=>⟨?ak,?al⟩⟩,fun h12 h13 h14=>⟨?am,?an⟩⟩⟩⟩⟩) (fun h10=>⟨?ao,⟨fun h11=>⟨?ap,?aq,fun h12 h13=>⟨?ar,?au⟩⟩,fun h11 h12 h13=>⟨?av,?aw⟩⟩⟩)) (fun h9=>iB (fun h10=>⟨?ax,?ay⟩) (fun h10 => ?az))⟩))⟩))⟩
 case a=>
  have hnn:=cK s;have hn0:aG s=0:=(by omega)
  rw [Ju hn0 (by omega)];exact ⟨trivial,rfl,rfl⟩
 case b|c|a5=>
  have hnn:=cK s;have hn0:aG s=0:=(by omega)
  rw [Jv hn0 (by omega) (by omega)];exact ⟨trivial,rfl,rfl⟩
 case d|a6=>simp only [aE,aJ] at *;omega
 case e|a7=>exact ⟨(0,false,[]),⟨by omega,dA.start _ _ _⟩,⟨rfl,rfl,rfl,trivial⟩,rfl,trivial⟩
 case f|v|a8|ao=>omega
 case g|x=>
  simp only [bl,reduceCtorEq] at h13
  have:=q_0.2.2.2.1;exact ⟨rfl,by simp only [List.length_singleton];omega⟩
 case h|o|w=>
  simp only [bl,reduceCtorEq] at h13
  omega
 case i|p=>
  simp only [bl,reduceCtorEq] at h13 h14
  omega
 case j=>
  simp only [bl,reduceCtorEq] at h13 h14
  have:=q_0.2.2.2.1;exact ⟨rfl,by simp only [List.length_append,List.length_singleton];omega⟩
 case k|m|r|t=>
  simp only [bl,reduceCtorEq] at h13 h14
  simp only [aE,aJ] at *;omega
 case l=>
  simp only [bl,reduceCtorEq] at h13 h14
  have hl:x_0.2.1=false:=(by assumption);have hv:dA f.1 s (s,t,f.2.1 + 1,()) x_0.1 false x_0.2.2:=(by have:=q_0.2;rwa [hl] at this)
  exact ⟨(x_0.1 + 1,true,_),⟨by omega,hv.put (by omega) (by simp_all) (by assumption)⟩,by simp only;omega,⟨by simp only;omega,rfl,rfl,trivial⟩,rfl,(by trivial)⟩
 case n=>
  simp only [bl,reduceCtorEq] at h13 h14
  have hl:x_0.2.1=false:=(by assumption);have hv:dA f.1 s (s,t,f.2.1 + 1,()) x_0.1 false x_0.2.2:=(by have:=q_0.2;rwa [hl] at this)
  exact ⟨(x_0.1 + 1,true,_),⟨by omega,hv.K7 (by omega) (by simp_all) (by assumption)⟩,by simp only;omega,⟨by simp only;omega,rfl,rfl,trivial⟩,rfl,(by trivial)⟩
 case q=>
  simp only [bl,reduceCtorEq] at h13 h14
  have:=q_0.2.2.2.1;exact ⟨rfl,by simp only [List.length_singleton];omega⟩
 case s=>
  simp only [bl,reduceCtorEq] at h13 h14
  have hl:x_0.2.1=false:=(by assumption);have hv:dA f.1 s (s,t,f.2.1 + 1,()) x_0.1 false x_0.2.2:=(by have:=q_0.2;rwa [hl] at this)
  exact ⟨(x_0.1 + 1,false,_),⟨by omega,hv.low (by omega) (by simp_all)⟩,by simp only;omega,⟨by simp only;omega,hl,rfl,trivial⟩,rfl,(by trivial)⟩
 case u=>
  simp only [bl,reduceCtorEq] at h13 h14
  simp_all
 case y|a0=>
  simp only [bl,reduceCtorEq] at h13
  simp only [aE,aJ] at *;omega
 case z=>
  simp only [bl,reduceCtorEq] at h13
  have hl:x_0.2.1=true:=(by assumption);have hv:dA f.1 s (s,t,f.2.1 + 1,()) x_0.1 true x_0.2.2:=(by have:=q_0.2;rwa [hl] at this)
  exact ⟨(x_0.1 + 1,true,_),⟨by omega,hv.high (by omega) (by assumption)⟩,by simp only;omega,⟨by simp only;omega,hl,rfl,trivial⟩,rfl,(by trivial)⟩
 case a1=>
  simp only [bl,reduceCtorEq] at h13
  have hl:x_0.2.1=true:=(by assumption);have hv:dA f.1 s (s,t,f.2.1 + 1,()) x_0.1 true x_0.2.2:=(by have:=q_0.2;rwa [hl] at this)
  exact ⟨(x_0.1 + 1,true,_),⟨by omega,hv.skip (by omega) (by assumption)⟩,by simp only;omega,⟨by simp only;omega,hl,rfl,trivial⟩,rfl,(by trivial)⟩
 case a2|ax=>have:=q_0.2.2.2.1;exact ⟨rfl,by simp only [List.length_singleton];omega⟩
 case a3|ay=>
  have hl:x_0.2.1=false:=(by assumption);have hv:dA f.1 s (s,t,f.2.1 + 1,()) x_0.1 false x_0.2.2:=(by have:=q_0.2;rwa [hl] at this)
  have hnn:=cK s;have hn0:aG s=0:=(by omega)
  rw [DQ hn0 (by omega) (by omega),<-hv.last (by omega)];exact ⟨trivial,rfl,rfl⟩
 case a4|az=>
  have hl:x_0.2.1=true:=(by assumption);have hv:dA f.1 s (s,t,f.2.1 + 1,()) x_0.1 true x_0.2.2:=(by have:=q_0.2;rwa [hl] at this)
  have hnn:=cK s;have hn0:aG s=0:=(by omega)
  rw [DQ hn0 (by omega) (by omega),<-hv.all (by omega)];exact ⟨trivial,rfl,rfl⟩
 case a9|aq=>
  simp only [bl,reduceCtorEq] at h11
  have:=q_0.2.2.2.1;exact ⟨rfl,by simp only [List.length_singleton];omega⟩
 case aa|ah|ap=>
  simp only [bl,reduceCtorEq] at h11
  omega
 case ab|ai=>
  simp only [bl,reduceCtorEq] at h11 h12
  omega
 case ac=>
  simp only [bl,reduceCtorEq] at h11 h12
  have:=q_0.2.2.2.1;exact ⟨rfl,by simp only [List.length_append,List.length_singleton];omega⟩
 case ad|af|ak|am=>
  simp only [bl,reduceCtorEq] at h11 h12
  simp only [aE,aJ] at *;omega
 case ae=>
  simp only [bl,reduceCtorEq] at h11 h12
  have hl:x_0.2.1=false:=(by assumption);have hv:dA f.1 s (s,t,f.2.1 + 1,()) x_0.1 false x_0.2.2:=(by have:=q_0.2;rwa [hl] at this)
  exact ⟨(x_0.1 + 1,true,_),⟨by omega,hv.put (by omega) (by simp_all) (by assumption)⟩,by simp only;omega,⟨by simp only;omega,rfl,rfl,trivial⟩,rfl,(by trivial)⟩
 case ag=>
  simp only [bl,reduceCtorEq] at h11 h12
  have hl:x_0.2.1=false:=(by assumption);have hv:dA f.1 s (s,t,f.2.1 + 1,()) x_0.1 false x_0.2.2:=(by have:=q_0.2;rwa [hl] at this)
  exact ⟨(x_0.1 + 1,true,_),⟨by omega,hv.K7 (by omega) (by simp_all) (by assumption)⟩,by simp only;omega,⟨by simp only;omega,rfl,rfl,trivial⟩,rfl,(by trivial)⟩
 case aj=>
  simp only [bl,reduceCtorEq] at h11 h12
  have:=q_0.2.2.2.1;exact ⟨rfl,by simp only [List.length_singleton];omega⟩
 case al=>
  simp only [bl,reduceCtorEq] at h11 h12
  have hl:x_0.2.1=false:=(by assumption);have hv:dA f.1 s (s,t,f.2.1 + 1,()) x_0.1 false x_0.2.2:=(by have:=q_0.2;rwa [hl] at this)
  exact ⟨(x_0.1 + 1,false,_),⟨by omega,hv.low (by omega) (by simp_all)⟩,by simp only;omega,⟨by simp only;omega,hl,rfl,trivial⟩,rfl,(by trivial)⟩
 case an=>
  simp only [bl,reduceCtorEq] at h11 h12
  simp_all
 case ar|av=>
  simp only [bl,reduceCtorEq] at h11
  simp only [aE,aJ] at *;omega
 case au=>
  simp only [bl,reduceCtorEq] at h11
  have hl:x_0.2.1=true:=(by assumption);have hv:dA f.1 s (s,t,f.2.1 + 1,()) x_0.1 true x_0.2.2:=(by have:=q_0.2;rwa [hl] at this)
  exact ⟨(x_0.1 + 1,true,_),⟨by omega,hv.high (by omega) (by assumption)⟩,by simp only;omega,⟨by simp only;omega,hl,rfl,trivial⟩,rfl,(by trivial)⟩
 case aw=>
  simp only [bl,reduceCtorEq] at h11
  have hl:x_0.2.1=true:=(by assumption);have hv:dA f.1 s (s,t,f.2.1 + 1,()) x_0.1 true x_0.2.2:=(by have:=q_0.2;rwa [hl] at this)
  exact ⟨(x_0.1 + 1,true,_),⟨by omega,hv.skip (by omega) (by assumption)⟩,by simp only;omega,⟨by simp only;omega,hl,rfl,trivial⟩,rfl,(by trivial)⟩
theorem Tryz.Ey:dK Tryz.prog Tryz.B.eT Tryz.X 13 false (bF Tryz.aV [.obj 0, .d .str, .d .str] (fun _ x=>x.1.1.length<=6/\0<=x.1.2.1/\x.1.2.1<=1000000) Tryz.qS):=
 cH (X:=Tryz.X) Tryz.Ni Tryz.func13 (by kernel_rfl) (fun (a:CD [.obj 0, .d .str, .d .str]) (x:PD Tryz.aV)=>Ew a.1 a.2.1 x.1) (fun (a:CD [.obj 0, .d .str, .d .str]) (x:PD Tryz.aV) hw hp=>PK a.1 a.2.1 x.1 hw hp)
def Cj (s:List UInt8) (f:RS):cN:=[(0,fun st=>{X:=Nat × List (D cW),inv:=fun x=>x.1<=f.1.length/\x.2++(f.1.drop x.1).filter (fY s)=f.1.filter (fY s)/\x.2.length<=x.1,bA:=fun x=>f.1.length - x.1,aS:=fun x=>[(6,sI x.1),(5, .s (.one (.app cW x.2 (aQ st 5))))],aK:=fun x=>[(aQ st 5, .tok cW x.2)],aX:=[0,1,4],eD:=[aQ st 5]})]
def Tryz.p8:List (Alt Tryz.aV [.obj 0, .d .str]):=[{cG:=Tryz.aV,res:=[.d (.int .i64)],out:=fun a x=>((gK x.1 a.1).1,()),ret:=fun a x=>((gK x.1 a.1).2,())}]
theorem Nj (s:List UInt8) (f:RS) (hw:kn [.obj 0, .d .str] (s,())) (hp:(fun _ x=>x.1.1.length<=6) (s,()) (f,())):(fD Tryz.B [] Tryz.f15 (Cj s f) Tryz.aV [.obj 0, .d .str] Tryz.p8 (s,()) (f,())).holds:=by
 refine holds_of (p:=
  let za:=Nat × List (List UInt8 × List UInt8 × Int × Unit)
  let zb:=List.length f.1
  let zc:=fY s
  let zd:=List.filter zc f.1
  let ze:=List.length f.1<=aJ
  let zf:=(↑(List.length f.1):Int)
  let zg:=fun (x_0:Nat × List (List UInt8 × List UInt8 × Int × Unit))=>(0:Int)<=(↑x_0.1:Int)/\(↑x_0.1:Int) < zf
  let zh:=fun (x_0:Nat × List (List UInt8 × List UInt8 × Int × Unit))=>(↑x_0.1:Int) + (1:Int)
  let zi:=fun (x_0:Nat × List (List UInt8 × List UInt8 × Int × Unit))=>x_0.2++[nth cW f.1 x_0.1]
  let zj:=(f.1=f.1/\f.2.1=f.2.1/\True)/\True
  let zk:=((gK f s).1,())
  let zl:=((gK f s).2,())
  (∃(x:za),(Prod.fst x<=zb/\Prod.snd x++List.filter zc (List.drop (Prod.fst x) f.1)=zd/\List.length (Prod.snd x)<=Prod.fst x)/\((0:Int)=(↑(Prod.fst x):Int)/\@List.nil (List UInt8 × List UInt8 × Int × Unit)=Prod.snd x/\True)/\@List.nil (List UInt8 × List UInt8 × Int × Unit)=Prod.snd x/\True)/\(∀x_0:Nat × List (List UInt8 × List UInt8 × Int × Unit),((x_0.1<=zb/\x_0.2++List.filter zc (List.drop x_0.1 f.1)=zd/\List.length x_0.2<=x_0.1)->((ze)->(((decide ((↑x_0.1:Int) < zf))=true->(zg x_0)/\(((!(nth cW f.1 x_0.1).1 == s)=true->(zg x_0)/\(x_0.2=x_0.2/\List.length x_0.2 + List.length [nth cW f.1 x_0.1]<=(1000000000:Nat))/\((aE (↑x_0.1:Int))->((aE (1:Int))->(aE (zh x_0))/\(∃(x':za),(Prod.fst x'<=zb/\Prod.snd x'++List.filter zc (List.drop (Prod.fst x') f.1)=zd/\List.length (Prod.snd x')<=Prod.fst x')/\zb - Prod.fst x' < zb - x_0.1/\(zh x_0=(↑(Prod.fst x'):Int)/\zi x_0=Prod.snd x'/\True)/\zi x_0=Prod.snd x'/\zj))))/\((!(nth cW f.1 x_0.1).1 == s)=false->((aE (↑x_0.1:Int))->((aE (1:Int))->(aE (zh x_0))/\(∃(x':za),(Prod.fst x'<=zb/\Prod.snd x'++List.filter zc (List.drop (Prod.fst x') f.1)=zd/\List.length (Prod.snd x')<=Prod.fst x')/\zb - Prod.fst x' < zb - x_0.1/\(zh x_0=(↑(Prod.fst x'):Int)/\x_0.2=Prod.snd x'/\True)/\x_0.2=Prod.snd x'/\zj))))))/\((decide ((↑x_0.1:Int) < zf))=false->((List.length x_0.2<=aJ)->((ze)->((((↑(List.length x_0.2):Int) == zf)=true->(True/\(f,())=zk/\((5:Int),())=zl))/\(((↑(List.length x_0.2):Int) == zf)=false->(True/\((x_0.2,f.2),())=zk/\((0:Int),())=zl))))))))))) (by kernel_rfl) ?_
 dsimp -iota -proj -eta only
 dsimp only at hp
 refine ⟨(⟨(0,[]),⟨by omega,rfl,by simp⟩,⟨rfl,rfl,trivial⟩,rfl,trivial⟩),fun x_0 q_0 h0=>iL (fun h1=>⟨(by omega),⟨fun h2=>⟨?a,?b,fun h3 h4=>⟨?c,?d⟩⟩,fun h2 h3 h4=>⟨?e,?f⟩⟩⟩) (fun h1 h2 h3=>iQ (fun h4=>(by have he:=Ha q_0.2.1 (by omega);rw [Mw (by rw [<-he];omega)];exact ⟨trivial,rfl,rfl⟩)) (fun h4=>(by have he:=Ha q_0.2.1 (by omega);rw [Jw (by rw [<-he];omega),<-he];exact ⟨trivial,rfl,rfl⟩)))⟩
 case a=>
  simp only [bl,reduceCtorEq] at h2
  omega
 case b=>
  simp only [bl,reduceCtorEq] at h2
  have:=q_0.2.2;exact ⟨rfl,by simp only [List.length_singleton];omega⟩
 case c|e=>
  simp only [bl,reduceCtorEq] at h2
  simp only [aE,aJ] at *;omega
 case d=>
  simp only [bl,reduceCtorEq] at h2
  exact ⟨(x_0.1 + 1,_),⟨by omega,OT q_0.2.1 (by omega) h2,by simp only [List.length_append,List.length_singleton];omega⟩,by simp only;omega,⟨by simp only;omega,rfl,trivial⟩,rfl,(by trivial)⟩
 case f=>
  simp only [bl,reduceCtorEq] at h2
  exact ⟨(x_0.1 + 1,x_0.2),⟨by omega,OU q_0.2.1 (by omega) h2,by simp only;omega⟩,by simp only;omega,⟨by simp only;omega,rfl,trivial⟩,rfl,(by trivial)⟩
theorem Tryz.Ck:dK Tryz.prog Tryz.B.eT Tryz.X 15 false (bF Tryz.aV [.obj 0, .d .str] (fun _ x=>x.1.1.length<=6) Tryz.p8):=
 cH (X:=Tryz.X) (bW Tryz.bX) Tryz.func15 (by kernel_rfl) (fun (a:CD [.obj 0, .d .str]) (x:PD Tryz.aV)=>Cj a.1 x.1) (fun (a:CD [.obj 0, .d .str]) (x:PD Tryz.aV) hw hp=>Nj a.1 x.1 hw hp)
def H6 (f:RS):cN:=[(0,fun st=>{X:=Nat,inv:=fun i=>i<=f.1.length,bA:=fun i=>f.1.length - i,aS:=fun i=>[(4,sI i),(3, .s (.one (.app .str ((f.1.take i).map hY) (aQ st 3))))],aK:=fun i=>[(aQ st 3, .tok .str ((f.1.take i).map hY))],aX:=[0,2],eD:=[aQ st 3]})]
def Tryz.xK:List (Alt Tryz.aV [.obj 0]):=[{cG:=Tryz.aV,res:=[.d (.slice .str)],out:=fun _ x=>x,ret:=fun _ x=>(x.1.1.map hY,())}]
theorem R5 (f:RS) (hw:kn [.obj 0] ()) (hp:(fun _ x=>x.1.1.length<=6) () (f,())):(fD Tryz.B [] Tryz.f72 (H6 f) Tryz.aV [.obj 0] Tryz.xK () (f,())).holds:=by
 refine holds_of (p:=
  let za:=List.length f.1
  let zb:=fun (x_0:Nat)=>(↑x_0:Int) < (↑(List.length f.1):Int)
  let zc:=fun (x_0:Nat)=>List.map hY (List.take x_0 f.1)
  let zd:=fun (x_0:Nat)=>zc x_0++[(nth cW f.1 x_0).1]
  (∃(x:Nat),x<=za/\((0:Int)=(↑x:Int)/\@List.nil (List UInt8)=List.map hY (List.take x f.1)/\True)/\@List.nil (List UInt8)=List.map hY (List.take x f.1)/\True)/\(∀x_0:Nat,((x_0<=za)->((List.length f.1<=aJ)->(((decide (zb x_0))=true->((0:Int)<=(↑x_0:Int)/\zb x_0)/\(zc x_0=zc x_0/\List.length (zc x_0) + List.length [(nth cW f.1 x_0).1]<=(1000000000:Nat))/\((aE (↑x_0:Int))->((aE (1:Int))->(aE ((↑x_0:Int) + (1:Int)))/\(∃(x':Nat),x'<=za/\za - x' < za - x_0/\((↑x_0:Int) + (1:Int)=(↑x':Int)/\zd x_0=List.map hY (List.take x' f.1)/\True)/\zd x_0=List.map hY (List.take x' f.1)/\@List.nil (List UInt8) = @List.nil (List UInt8)/\(f.1=f.1/\f.2.1=f.2.1/\True)/\True))))/\((decide (zb x_0))=false->(True/\(f,())=(f,())/\(zc x_0,())=(List.map hY f.1,())))))))) (by kernel_rfl) ?_
 dsimp -iota -proj -eta only
 dsimp only at hp
 exact ⟨(⟨0,by omega,⟨rfl,rfl,trivial⟩,rfl,trivial⟩),fun x_0 q_0 h0=>iL (fun h1=>⟨(by omega),(by exact ⟨rfl,by simp only [List.length_map,List.length_take,List.length_singleton];omega⟩),fun h2 h3=>⟨(by simp only [aE,aJ] at *;omega),(⟨x_0 + 1,by omega,by omega,⟨by omega,BC (by omega),trivial⟩,BC (by omega),(by trivial)⟩)⟩⟩) (fun h1=>(by rw [List.take_of_length_le (by omega)];exact ⟨trivial,rfl,rfl⟩))⟩
theorem Tryz.R6:dK Tryz.prog Tryz.B.eT Tryz.X 72 false (bF Tryz.aV [.obj 0] (fun _ x=>x.1.1.length<=6) Tryz.xK):=
 cH (X:=Tryz.X) (bW Tryz.bX) Tryz.func72 (by kernel_rfl) (fun (a:CD [.obj 0]) (x:PD Tryz.aV)=>H6 x.1) (fun (a:CD [.obj 0]) (x:PD Tryz.aV) hw hp=>R5 x.1 hw hp)
end Go.Proofs.YtgokjhhcfemnhabGreatDoor

namespace Go.Proofs.YtgokjhhcfemnhabGreatDoor
open Go.Vg Go.Mrl
theorem R7 (n:Int) (hw:eE [.int .i64] n):(cM Tryz.B [] Tryz.f191 [] [.int .i64] [.bool] (fun x y=>y=(fun n=>dJ n) x) n).holds:=by
 refine holds_of (p:=
  (((decide (n>=(-2147483648:Int)))=true->(decide (n<=(2147483647:Int))=dJ n))/\((decide (n>=(-2147483648:Int)))=false->(false=dJ n)))) (by kernel_rfl) ?_
 refine iE (fun h0 => ?a) (fun h0 => ?b)
 case a|b=>unfold dJ;rw [Bool.eq_iff_iff];simp;omega
theorem Tryz.H7:bK Tryz.prog Tryz.B.eT Tryz.X 191 [.int .i64] [.bool] (fun _=>True) (fun x y=>y=(fun n=>dJ n) x):=
 bM (X:=Tryz.X) (bW Tryz.bX) Tryz.func191 (by kernel_rfl) (fun _=>[]) (fun x hw hp=>R7 x hw)
theorem JV (n:Int) (hw:eE [.int .i64] n):(cM Tryz.B [] Tryz.f60 [] [.int .i64] [.bool] (fun x y=>y=(fun n=>dJ n) x) n).holds:=by
 refine holds_of (p:=
  (((decide (n>=(-2147483648:Int)))=true->(decide (n<=(2147483647:Int))=dJ n))/\((decide (n>=(-2147483648:Int)))=false->(false=dJ n)))) (by kernel_rfl) ?_
 refine iE (fun h0 => ?a) (fun h0 => ?b)
 case a|b=>unfold dJ;rw [Bool.eq_iff_iff];simp;omega
theorem Tryz.JW:bK Tryz.prog Tryz.B.eT Tryz.X 60 [.int .i64] [.bool] (fun _=>True) (fun x y=>y=(fun n=>dJ n) x):=
 bM (X:=Tryz.X) (bW Tryz.bX) Tryz.func60 (by kernel_rfl) (fun _=>[]) (fun x hw hp=>JV x hw)
def Ez (l:List (List UInt8)) (s:List UInt8):cN:=[(0,fun st=>{X:=Nat,inv:=fun i=>i<=l.length/\∀j,j < i->nth .str l j≠s,bA:=fun i=>l.length - i,aS:=fun i=>[(8,sI i)],aX:=[0,1,7]})]
theorem PL (l:List (List UInt8)) (s:List UInt8) (hw:eE [.slice .str, .str] (l,s)):(cM Tryz.B [] Tryz.f185 (Ez l s) [.slice .str, .str] [.int .i64] (fun x y=>(y = -1/\∀j,j < x.1.length->nth .str x.1 j≠x.2)\/(0<=y/\y.toNat < x.1.length/\nth .str x.1 y.toNat=x.2)) (l,s)).holds:=by
 refine holds_of (p:=
  let za:=List.length l
  let zb:=(-1:Int)
  let zc:=∀(j:Nat),j < za->nth Ty.str l j≠s
  ((za<=aJ)->(∃(x:Nat),(x<=za/\∀(j:Nat),j < x->nth Ty.str l j≠s)/\((0:Int)=(↑x:Int)/\True)/\True)/\(∀x_0:Nat,((x_0<=za/\∀(j:Nat),j < x_0->nth Ty.str l j≠s)->(((decide ((↑x_0:Int) < (↑za:Int)))=true->((0:Int)<=(↑x_0:Int)/\(↑x_0:Int) < (↑za:Int))/\(((s == nth Ty.str l x_0)=true->((↑x_0:Int)=zb/\zc\/(0:Int)<=(↑x_0:Int)/\x_0 < za/\nth Ty.str l x_0=s))/\((s == nth Ty.str l x_0)=false->((aE (↑x_0:Int))->((aE (1:Int))->(aE ((↑x_0:Int) + (1:Int)))/\(∃(x':Nat),(x'<=za/\∀(j:Nat),j < x'->nth Ty.str l j≠s)/\za - x' < za - x_0/\((↑x_0:Int) + (1:Int)=(↑x':Int)/\True)/\True))))))/\((decide ((↑x_0:Int) < (↑za:Int)))=false->(zb=zb/\zc\/(0:Int)<=zb/\Int.toNat zb < za/\nth Ty.str l (Int.toNat zb)=s))))))) (by kernel_rfl) ?_
 dsimp -iota -proj -eta only
 exact fun h0=>⟨(⟨0,⟨by omega,fun j hj=>by omega⟩,⟨rfl,trivial⟩,trivial⟩),fun x_0 q_0=>iL (fun h1=>⟨(by omega),iQ (fun h2=>(by simp_all)) (fun h2 h3 h4=>⟨(by simp only [aE,aJ] at *;omega),(⟨x_0 + 1,⟨by omega,jA q_0.2 fun e=>(by assumption:¬ _) e.symm⟩,by omega,⟨by omega,trivial⟩,(by trivial)⟩)⟩)⟩) (fun h1=>(.inl ⟨rfl,fun j hj=>q_0.2 j (by omega)⟩))⟩
theorem Tryz.PM:bK Tryz.prog Tryz.B.eT Tryz.X 185 [.slice .str, .str] [.int .i64] (fun _=>True) (fun x y=>(y = -1/\∀j,j < x.1.length->nth .str x.1 j≠x.2)\/(0<=y/\y.toNat < x.1.length/\nth .str x.1 y.toNat=x.2)):=
 bM (X:=Tryz.X) (bW Tryz.bX) Tryz.func185 (by kernel_rfl) (fun x=>Ez x.1 x.2) (fun x hw hp=>PL x.1 x.2 hw)
noncomputable def Tryz.EA:List (FuncId × (Bool × bQ)):=[(185,(true,km [.slice .str, .str] [.int .i64] (fun _=>True) (fun x y=>(y = -1/\∀j,j < x.1.length->nth .str x.1 j≠x.2)\/(0<=y/\y.toNat < x.1.length/\nth .str x.1 y.toNat=x.2))))]
theorem Tryz.JX:bT Tryz.prog Tryz.B Tryz.X Tryz.EA:=
 aP (gu Tryz.PM) (bW Tryz.bX)
theorem H8 (l:List (List UInt8)) (s:List UInt8) (hw:eE [.slice .str, .str] (l,s)):(cM Tryz.B Tryz.EA Tryz.f141 [] [.slice .str, .str] [.bool] (fun x y=>y=(fun x=>x.1.any (· == x.2)) x) (l,s)).holds:=by
 refine holds_of (p:=
  (True)/\(∀x_0:Int,(((x_0=(-1:Int)/\∀(j:Nat),j < List.length l->nth Ty.str l j≠s)\/(0:Int)<=x_0/\Int.toNat x_0 < List.length l/\nth Ty.str l (Int.toNat x_0)=s)->(decide (x_0>=(0:Int))=List.any l fun (x:List UInt8)=>x == s)))) (by kernel_rfl) ?_
 exact ⟨trivial,fun x_0 q_0=>(contains_of q_0)⟩
theorem Tryz.xL:bK Tryz.prog Tryz.B.eT Tryz.X 141 [.slice .str, .str] [.bool] (fun _=>True) (fun x y=>y=(fun x=>x.1.any (· == x.2)) x):=
 bM (X:=Tryz.X) Tryz.JX Tryz.func141 (by kernel_rfl) (fun _=>[]) (fun x hw hp=>H8 x.1 x.2 hw)
noncomputable def Tryz.EB:List (FuncId × (Bool × bQ)):=[(221,(false,kM Tryz.B [] Tryz.f221 []))]
theorem Tryz.JY:bT Tryz.prog Tryz.B Tryz.X Tryz.EB:=
 aP (kC (bW Tryz.bX) Tryz.func221 (by kernel_rfl) []) (bW Tryz.bX)
def EC:cN:=[(0,fun st=>{X:=Nat,inv:=fun i=>i<=(aZ (.slice aN) st 0).length/\∀j,j < i->(nth aN (aZ (.slice aN) st 0) j).1≠(Uo aN st (SW st 1 0)).1,bA:=fun i=>(aZ (.slice aN) st 0).length - i,aS:=fun i=>[(8,sI i)],aX:=[0,1,7]})]
noncomputable def Tryz.Lv:List (FuncId × (Bool × bQ)):=[(231,(false,kM Tryz.B Tryz.EB Tryz.f231 EC))]
theorem Tryz.PN:bT Tryz.prog Tryz.B Tryz.X Tryz.Lv:=
 aP (kC Tryz.JY Tryz.func231 (by kernel_rfl) EC) (bW Tryz.bX)
noncomputable def Tryz.Lw:List (FuncId × (Bool × bQ)):=[(49,(true,aL [.str] [.err] (fun _=>True) (fun s=>aT (aG s)))),
 (50,(true,aL [.str] [.int .i64] (fun _=>True) (fun s=>aG s))),
 (156,(true,aL [.str] [.int .u32] (fun _=>True) (fun s=>(dD s:Int)))),
 (83,(true,aL [.str] [.int .i64] (fun _=>True) (fun s=>(dD s:Int)))),
 (11,(true,aL [.err, .int .i64] [.bool] (fun _=>True) (fun x=>cT x.1 x.2))),
 (220,(false,kM Tryz.B Tryz.Lv Tryz.f220 []))]
theorem Tryz.PO:bT Tryz.prog Tryz.B Tryz.X Tryz.Lw:=
 aP (aC Tryz.iR) (aP (aC Tryz.eY) (aP (aC Tryz.jC) (aP (aC Tryz.iS) (aP (aC Tryz.jl) (aP (kC Tryz.PN Tryz.func220 (by kernel_rfl) []) (bW Tryz.bX))))))
def Cm (o:D aA):cN:=[(0,fun st=>{X:=Nat,inv:=fun i=>jr o.2.1.length o.2.2.1 i,bA:=fun i=>o.2.2.1.length - i,aS:=fun i=>[(9,sI i)],aX:=[1,7,8]})]
theorem JZ (o:D aA) (hw:eE [aA] o):(cM Tryz.B Tryz.Lw Tryz.f192 (Cm o) [aA] [.err] (fun x y=>y=(fun o=>aT (hZ o.2.1.length [] o.2.2.1)) x) o).holds:=by
 refine holds_of (p:=
  let za:=o.2.2.1
  let zb:=List.length za
  let zc:=List.length o.2.1
  let zd:=fun (x_0:Nat)=>(↑x_0:Int)
  let ze:=fun (x_0:Nat)=>(0:Int)<=zd x_0
  let zf:=fun (x_0:Nat)=>(nth aN za x_0).1
  let zg:=aT (hZ zc (@List.nil (List UInt8 × Int × Bool × Unit)) za)
  let zh:=fun (x_0:Nat)=>(nth aN za x_0).2.1
  let zi:=bC.no (1:Int)=zg
  let zj:=fun (x_0:Nat)=>List.drop (0:Nat) (List.take x_0 za)
  let zk:=fun (x_0:Nat)=>List.length (zj x_0)
  let zl:=bC.no (3:Int)=zg
  let zm:=(o.1=o.1/\o.2.1=o.2.1/\za=za/\o.2.2.2.1=o.2.2.2.1/\True)/\True
  let zn:=fun (x_0:Nat)=>((aE (zd x_0))->((aE (1:Int))->(aE (zd x_0 + (1:Int)))/\(∃(x':Nat),jr zc za x'/\zb - x' < zb - x_0/\(zd x_0 + (1:Int)=(↑x':Int)/\True)/\zm)))
  ((zb<=aJ)->(∃(x:Nat),jr zc za x/\((0:Int)=(↑x:Int)/\True)/\True)/\(∀x_0:Nat,((jr zc za x_0)->(((decide (zd x_0 < (↑zb:Int)))=true->(ze x_0/\zd x_0 < (↑zb:Int))/\(True)/\(((!bC.isNil (aT (aG (zf x_0))))=true->(aT (aG (zf x_0))=zg))/\((!bC.isNil (aT (aG (zf x_0))))=false->(((decide (zh x_0 < (0:Int)))=true->(zi))/\((decide (zh x_0 < (0:Int)))=false->((zc<=aJ)->(((decide (zh x_0>=(↑zc:Int)))=true->(zi))/\((decide (zh x_0>=(↑zc:Int)))=false->((0:Int)<=(0:Int)/\ze x_0/\zd x_0<=(↑zb:Int))/\((zk x_0<=aJ)->(∃(x:Nat),(x<=zk x_0/\∀(j:Nat),j < x->(nth aN (zj x_0) j).1≠zf x_0)/\((0:Int)=(↑x:Int)/\True)/\True)/\(∀x_1:Nat,((x_1<=zk x_0/\∀(j:Nat),j < x_1->(nth aN (zj x_0) j).1≠zf x_0)->(((decide (zd x_1 < (↑(zk x_0):Int)))=true->(ze x_1/\zd x_1 < (↑(zk x_0):Int))/\((((nth aN (zj x_0) x_1).1 == zf x_0)=true->(((decide (zd x_1>=(0:Int)))=true->(zl))/\((decide (zd x_1>=(0:Int)))=false->(zn x_0))))/\(((nth aN (zj x_0) x_1).1 == zf x_0)=false->((aE (zd x_1))->((aE (1:Int))->(aE (zd x_1 + (1:Int)))/\(∃(x':Nat),(x'<=zk x_0/\∀(j:Nat),j < x'->(nth aN (zj x_0) j).1≠zf x_0)/\zk x_0 - x' < zk x_0 - x_1/\(zd x_1 + (1:Int)=(↑x':Int)/\True)/\(zf x_0=zf x_0/\zh x_0=zh x_0/\(nth aN za x_0).2.2.1=(nth aN za x_0).2.2.1/\True)/\zm))))))/\((decide (zd x_1 < (↑(zk x_0):Int)))=false->(((decide ((-1:Int)>=(0:Int)))=true->(zl))/\((decide ((-1:Int)>=(0:Int)))=false->(zn x_0))))))))))))))))/\((decide (zd x_0 < (↑zb:Int)))=false->(bC.nil=zg))))))) (by kernel_rfl) ?_
 dsimp -iota -proj -eta only
 refine fun h0=>⟨(⟨0, .zero _ _,⟨rfl,trivial⟩,trivial⟩),fun x_0 q_0=>iL (fun h1=>⟨?a,trivial,iB (fun h2=>(by rw [q_0.fault (by omega) (mL (cK _) h2)])) (fun h2=>iL (fun h3=>(by rw [q_0.out (by omega) (dM h2) (.inl (by omega))];rfl)) (fun h3 h4=>iE (fun h5=>(by rw [q_0.out (by omega) (dM h2) (.inr (by omega))];rfl)) (fun h5=>⟨?b,fun h6=>⟨(⟨0,⟨by omega,fun j hj=>by omega⟩,⟨rfl,trivial⟩,trivial⟩),fun x_1 q_1=>iL (fun h7=>⟨?c,iQ (fun h8=>⟨fun h9=>(by rw [DZ q_0.le] at h7;rw [DY (i:=x_0) (j:=x_1) (by omega)] at h8;rw [q_0.dup (by omega) (dM h2) (fun h=>h.elim (fun h=>absurd h (Int.not_lt.2 h3)) (fun h=>absurd h (Int.not_le.2 h5))) (uU (t:=aN) (j:=x_1) (by omega) q_0.le (by simpa using h8))];rfl),fun h9=>absurd (show true=false from h9) (by decide)⟩) (fun h8 h9 h10=>⟨?d,(⟨x_1 + 1,⟨by omega,jA q_1.2 (by assumption)⟩,by omega,⟨by omega,trivial⟩,(by trivial)⟩)⟩)⟩) (fun h7=>⟨fun h8=>absurd (show false=true from h8) (by decide),fun h8 h9 h10=>⟨?e,(by have hx:=DZ q_0.le;exact ⟨x_0 + 1,q_0.next (by omega) (dM h2) (fun h=>h.elim (fun h=>absurd h (Int.not_lt.2 h3)) (fun h=>absurd h (Int.not_le.2 h5))) (sy (t:=aN) fun j hj=>by have:=q_1.2 j (by omega);rw [DY hj] at this;simpa using this),by omega,⟨by omega,trivial⟩,(by trivial)⟩)⟩⟩)⟩⟩)))⟩) (fun h1=>(by rw [q_0.done (by omega)];rfl))⟩
 case a|b|c=>omega
 case d|e=>simp only [aE,aJ] at *;omega
theorem Tryz.J0:bK Tryz.prog Tryz.B.eT Tryz.X 192 [aA] [.err] (fun _=>True) (fun x y=>y=(fun o=>aT (hZ o.2.1.length [] o.2.2.1)) x):=
 bM (X:=Tryz.X) Tryz.PO Tryz.func192 (by kernel_rfl) (fun x=>Cm x) (fun x hw hp=>JZ x hw)
noncomputable def Tryz.Lx:List (FuncId × (Bool × bQ)):=[(49,(true,aL [.str] [.err] (fun _=>True) (fun s=>aT (aG s)))),
 (50,(true,aL [.str] [.int .i64] (fun _=>True) (fun s=>aG s))),
 (156,(true,aL [.str] [.int .u32] (fun _=>True) (fun s=>(dD s:Int)))),
 (83,(true,aL [.str] [.int .i64] (fun _=>True) (fun s=>(dD s:Int)))),
 (11,(true,aL [.err, .int .i64] [.bool] (fun _=>True) (fun x=>cT x.1 x.2))),
 (191,(true,aL [.int .i64] [.bool] (fun _=>True) (fun n=>dJ n)))]
theorem Tryz.PQ:bT Tryz.prog Tryz.B Tryz.X Tryz.Lx:=
 aP (aC Tryz.iR) (aP (aC Tryz.eY) (aP (aC Tryz.jC) (aP (aC Tryz.iS) (aP (aC Tryz.jl) (aP (aC Tryz.H7) (bW Tryz.bX))))))
def Ly (o:D aA):cN:=[(0,fun st=>{X:=Nat,inv:=fun i=>kP o.2.1.length o.2.2.2.1 i,bA:=fun i=>o.2.2.2.1.length - i,aS:=fun i=>[(9,sI i)],aX:=[1,7,8]})]
theorem R8 (o:D aA) (hw:eE [aA] o):(cM Tryz.B Tryz.Lx Tryz.f193 (Ly o) [aA] [.err] (fun x y=>y=(fun o=>aT (jW o.2.1.length none o.2.2.2.1)) x) o).holds:=by
 refine holds_of (p:=
  let za:=o.2.2.2.1
  let zb:=List.length za
  let zc:=List.length o.2.1
  let zd:=fun (x_0:Nat)=>(↑x_0:Int)
  let ze:=fun (x_0:Nat)=>(nth aO za x_0).1
  let zf:=aT (jW zc none za)
  let zg:=bC.no (1:Int)=zf
  let zh:=fun (x_0:Nat)=>(nth aO za x_0).2.1
  let zi:=bC.no (3:Int)=zf
  let zj:=fun (x_0:Nat)=>zd x_0 - (1:Int)
  let zk:=fun (x_0:Nat)=>((aE (zd x_0))->((aE (1:Int))->(aE (zd x_0 + (1:Int)))/\(∃(x':Nat),kP zc za x'/\zb - x' < zb - x_0/\(zd x_0 + (1:Int)=(↑x':Int)/\True)/\(o.1=o.1/\o.2.1=o.2.1/\o.2.2.1=o.2.2.1/\za=za/\True)/\True)))
  let zl:=fun (x_0:Nat)=>aT (aG (nth aO za x_0).2.2.2.1)
  let zm:=fun (x_0:Nat)=>(((zh x_0 == (1:Int))=true->(((!(nth aO za x_0).2.2.2.1 == @List.nil UInt8)=true->(zi))/\((!(nth aO za x_0).2.2.2.1 == @List.nil UInt8)=false->((((nth aO za x_0).2.2.2.2.1)=true->(zi))/\(((nth aO za x_0).2.2.2.2.1)=false->(zk x_0))))))/\((zh x_0 == (1:Int))=false->(True)/\(((!bC.isNil (zl x_0))=true->(zl x_0=zf))/\((!bC.isNil (zl x_0))=false->(zk x_0)))))
  ((zb<=aJ)->(∃(x:Nat),kP zc za x/\((0:Int)=(↑x:Int)/\True)/\True)/\(∀x_0:Nat,((kP zc za x_0)->(((decide (zd x_0 < (↑zb:Int)))=true->((0:Int)<=zd x_0/\zd x_0 < (↑zb:Int))/\(((decide (ze x_0 < (0:Int)))=true->(zg))/\((decide (ze x_0 < (0:Int)))=false->((zc<=aJ)->(((decide (ze x_0>=(↑zc:Int)))=true->(zg))/\((decide (ze x_0>=(↑zc:Int)))=false->(True)/\(((!dJ (nth aO za x_0).2.2.1)=true->(zg))/\((!dJ (nth aO za x_0).2.2.1)=false->(((decide (zh x_0 < (1:Int)))=true->(zi))/\((decide (zh x_0 < (1:Int)))=false->(((decide (zh x_0 > (3:Int)))=true->(zi))/\((decide (zh x_0 > (3:Int)))=false->(((decide (zd x_0 > (0:Int)))=true->((aE (zd x_0))->((aE (1:Int))->(aE (zj x_0))/\((0:Int)<=zj x_0/\zj x_0 < (↑zb:Int))/\(((decide ((nth aO za (Int.toNat (zj x_0))).1>=ze x_0))=true->(zi))/\((decide ((nth aO za (Int.toNat (zj x_0))).1>=ze x_0))=false->(zm x_0))))))/\((decide (zd x_0 > (0:Int)))=false->(zm x_0)))))))))))))))/\((decide (zd x_0 < (↑zb:Int)))=false->(bC.nil=zf))))))) (by kernel_rfl) ?_
 dsimp -iota -proj -eta only
 refine fun h0=>⟨(⟨0, .zero _ _,⟨rfl,trivial⟩,trivial⟩),fun x_0 q_0=>iL (fun h1=>⟨?a,iL (fun h2 => ?b) (fun h2 h3=>iE (fun h4 => ?c) (fun h4=>⟨trivial,iB (fun h5 => ?d) (fun h5=>iL (fun h6 => ?e) (fun h6=>iL (fun h7 => ?f) (fun h7=>iL (fun h8 h9 h10=>⟨?g,?h,iE (fun h11 => ?i) (fun h11=>iQ (fun h12=>⟨fun h13 => ?j,fun h13=>⟨fun h14 => ?k,fun h14 h15 h16=>⟨?l,?m⟩⟩⟩) (fun h12=>⟨trivial,iB (fun h13=>(by rw [q_0.fault (by omega) (f:=aG (nth aO o.2.2.2.1 x_0).2.2.2.1) (by unfold iJ jd ik;grind) (by have:=mL (cK _) h13;omega)])) (fun h13 h14 h15=>⟨?n,(by have:=bJ.1 h13;exact ⟨x_0 + 1,q_0.next (by omega) (by unfold iJ jd ik;grind),by omega,⟨by omega,trivial⟩,(by trivial)⟩)⟩)⟩))⟩) (fun h8=>iQ (fun h9=>⟨fun h10 => ?o,fun h10=>⟨fun h11 => ?p,fun h11 h12 h13=>⟨?q,?r⟩⟩⟩) (fun h9=>⟨trivial,iB (fun h10=>(by rw [q_0.fault (by omega) (f:=aG (nth aO o.2.2.2.1 x_0).2.2.2.1) (by unfold iJ jd ik;grind) (by have:=mL (cK _) h10;omega)])) (fun h10 h11 h12=>⟨?s,(by have:=bJ.1 h10;exact ⟨x_0 + 1,q_0.next (by omega) (by unfold iJ jd ik;grind),by omega,⟨by omega,trivial⟩,(by trivial)⟩)⟩)⟩)))))⟩))⟩) (fun h1=>(by rw [q_0.done (by omega)];rfl))⟩
 case a|h=>omega
 case b|c|d=>rw [q_0.fault (by omega) (f:=1) (by unfold iJ;grind) (by decide)];rfl
 case e|f|i=>rw [q_0.fault (by omega) (f:=3) (by unfold iJ jd ik;grind) (by decide)];rfl
 case g|n|s=>simp only [aE,aJ] at *;omega
 case j|k=>
  simp only [bl,reduceCtorEq] at h13
  rw [q_0.fault (by omega) (f:=3) (by unfold iJ jd ik;grind) (by decide)];rfl
 case l=>
  simp only [bl,reduceCtorEq] at h13
  simp only [aE,aJ] at *;omega
 case m=>
  simp only [bl,reduceCtorEq] at h13
  exact ⟨x_0 + 1,q_0.next (by omega) (by unfold iJ jd ik;grind),by omega,⟨by omega,trivial⟩,(by trivial)⟩
 case o|p=>
  simp only [bl,reduceCtorEq] at h10
  rw [q_0.fault (by omega) (f:=3) (by unfold iJ jd ik;grind) (by decide)];rfl
 case q=>
  simp only [bl,reduceCtorEq] at h10
  simp only [aE,aJ] at *;omega
 case r=>
  simp only [bl,reduceCtorEq] at h10
  exact ⟨x_0 + 1,q_0.next (by omega) (by unfold iJ jd ik;grind),by omega,⟨by omega,trivial⟩,(by trivial)⟩
theorem Tryz.R9:bK Tryz.prog Tryz.B.eT Tryz.X 193 [aA] [.err] (fun _=>True) (fun x y=>y=(fun o=>aT (jW o.2.1.length none o.2.2.2.1)) x):=
 bM (X:=Tryz.X) Tryz.PQ Tryz.func193 (by kernel_rfl) (fun x=>Ly x) (fun x hw hp=>R8 x hw)
noncomputable def Tryz.ED:List (FuncId × (Bool × bQ)):=[(49,(true,aL [.str] [.err] (fun _=>True) (fun s=>aT (aG s)))),
 (50,(true,aL [.str] [.int .i64] (fun _=>True) (fun s=>aG s))),
 (156,(true,aL [.str] [.int .u32] (fun _=>True) (fun s=>(dD s:Int)))),
 (83,(true,aL [.str] [.int .i64] (fun _=>True) (fun s=>(dD s:Int)))),
 (11,(true,aL [.err, .int .i64] [.bool] (fun _=>True) (fun x=>cT x.1 x.2))),
 (141,(true,aL [.slice .str, .str] [.bool] (fun _=>True) (fun x=>x.1.any (· == x.2)))),
 (191,(true,aL [.int .i64] [.bool] (fun _=>True) (fun n=>dJ n))),
 (192,(true,aL [aA] [.err] (fun _=>True) (fun o=>aT (hZ o.2.1.length [] o.2.2.1)))),
 (193,(true,aL [aA] [.err] (fun _=>True) (fun o=>aT (jW o.2.1.length none o.2.2.2.1))))]
theorem Tryz.J1:bT Tryz.prog Tryz.B Tryz.X Tryz.ED:=
 aP (aC Tryz.iR) (aP (aC Tryz.eY) (aP (aC Tryz.jC) (aP (aC Tryz.iS) (aP (aC Tryz.jl) (aP (aC Tryz.xL) (aP (aC Tryz.H7) (aP (aC Tryz.J0) (aP (aC Tryz.R9) (bW Tryz.bX)))))))))
def EE (o:D aA):cN:=[
 (0,fun st=>{X:=Nat,inv:=fun i=>iM o.1 i,bA:=fun i=>o.1.length - i,aS:=fun i=>[(41,sI i)],aX:=[1,39,40]}),
 (2,fun st=>{X:=Nat,inv:=fun i=>jw o.2.1 i,bA:=fun i=>o.2.1.length - i,aS:=fun i=>[(62,sI i)],aX:=[1,60,61]})]
theorem PR (o:D aA) (hw:eE [aA] o):(cM Tryz.B Tryz.ED Tryz.f147 (EE o) [aA] [.err] (fun x y=>y=(fun o=>aT (cB o)) x) o).holds:=by
 refine holds_of (p:=
  let za:=List.length o.1
  let zb:=(↑za:Int)
  let zc:=aT (cB o)
  let zd:=bC.no (2:Int)=zc
  let ze:=o.2.1
  let zf:=List.length ze
  let zg:=zf<=aJ
  let zh:=(↑zf:Int)
  let zi:=o.2.2.1
  let zj:=o.2.2.2.1
  let zk:=fun (x_0:Nat)=>(↑x_0:Int)
  let zl:=fun (x_0:Nat)=>(0:Int)<=zk x_0
  let zm:=fun (x_0:Nat)=>aT (aG (nth Ty.str o.1 x_0))
  let zn:=(o.1=o.1/\ze=ze/\zi=zi/\zj=zj/\True)/\True
  let zo:=aT (hZ zf (@List.nil (List UInt8 × Int × Bool × Unit)) zi)
  ((za<=aJ)->(((decide (zb > (4:Int)))=true->(zd))/\((decide (zb > (4:Int)))=false->((zg)->(((decide (zh < (1:Int)))=true->(zd))/\((decide (zh < (1:Int)))=false->((zg)->(((decide (zh > (40:Int)))=true->(zd))/\((decide (zh > (40:Int)))=false->((List.length zi<=aJ)->(((decide ((↑(List.length zi):Int) > (8:Int)))=true->(zd))/\((decide ((↑(List.length zi):Int) > (8:Int)))=false->((List.length zj<=aJ)->(((decide ((↑(List.length zj):Int) > (6:Int)))=true->(zd))/\((decide ((↑(List.length zj):Int) > (6:Int)))=false->((za<=aJ)->(∃(x:Nat),iM o.1 x/\((0:Int)=(↑x:Int)/\True)/\True)/\(∀x_0:Nat,((iM o.1 x_0)->(((decide (zk x_0 < zb))=true->(zl x_0/\zk x_0 < zb)/\(True)/\(((!bC.isNil (zm x_0))=true->(zm x_0=zc))/\((!bC.isNil (zm x_0))=false->((0:Int)<=(0:Int)/\zl x_0/\zk x_0<=zb)/\(True)/\(((List.any (List.drop (0:Nat) (List.take x_0 o.1)) fun (x:List UInt8)=>x == nth Ty.str o.1 x_0)=true->(bC.no (3:Int)=zc))/\((List.any (List.drop (0:Nat) (List.take x_0 o.1)) fun (x:List UInt8)=>x == nth Ty.str o.1 x_0)=false->((aE (zk x_0))->((aE (1:Int))->(aE (zk x_0 + (1:Int)))/\(∃(x':Nat),iM o.1 x'/\za - x' < za - x_0/\(zk x_0 + (1:Int)=(↑x':Int)/\True)/\zn))))))))/\((decide (zk x_0 < zb))=false->((zg)->(∃(x:Nat),jw ze x/\((0:Int)=(↑x:Int)/\True)/\True)/\(∀x_1:Nat,((jw ze x_1)->(((decide (zk x_1 < zh))=true->(zl x_1/\zk x_1 < zh)/\(True)/\(((!dJ (nth (Ty.int IntKind.i64) ze x_1))=true->(bC.no (1:Int)=zc))/\((!dJ (nth (Ty.int IntKind.i64) ze x_1))=false->((aE (zk x_1))->((aE (1:Int))->(aE (zk x_1 + (1:Int)))/\(∃(x':Nat),jw ze x'/\zf - x' < zf - x_1/\(zk x_1 + (1:Int)=(↑x':Int)/\True)/\zn))))))/\((decide (zk x_1 < zh))=false->(True)/\(((!bC.isNil zo)=true->(zo=zc))/\((!bC.isNil zo)=false->(True)/\(aT (jW zf none zj)=zc))))))))))))))))))))))))))))) (by kernel_rfl) ?_
 dsimp -iota -proj -eta only
 refine fun h0=>iL (fun h1 => ?a) (fun h1 h2=>iL (fun h3 => ?b) (fun h3 h4=>iL (fun h5 => ?c) (fun h5 h6=>iL (fun h7 => ?d) (fun h7 h8=>iL (fun h9 => ?e) (fun h9 h10=>⟨?f,fun x_0 q_0=>iL (fun h11=>⟨?g,trivial,iB (fun h12=>(by have hf:=mL (cK _) h12;rw [pb (by unfold fS;omega) (q_0.fault (by omega) hf) (by omega)])) (fun h12=>⟨?h,trivial,⟨fun h13=>(by rw [List.drop_zero] at h13;rw [pb (by unfold fS;omega) (q_0.dup (by omega) (dM h12) h13) (by decide)];rfl),fun h13 h14 h15=>⟨?i,(by rw [List.drop_zero] at h13;exact ⟨x_0 + 1,q_0.next (by omega) (dM h12) h13,by omega,⟨by omega,trivial⟩,(by trivial)⟩)⟩⟩⟩)⟩) (fun h11 h12=>⟨?j,fun x_1 q_1=>iL (fun h13=>⟨?k,trivial,iB (fun h14=>(by rw [xb (by unfold fS;omega) (q_0.done (by omega)) (q_1.fault (by omega) h14) (by decide)];rfl)) (fun h14 h15 h16=>⟨?l,(⟨x_1 + 1,q_1.next (by omega) h14,by omega,⟨by omega,trivial⟩,(by trivial)⟩)⟩)⟩) (fun h13=>⟨trivial,iB (fun h14=>(by have hf:=mL (rE _ _ _) h14;rw [nS (by unfold fS;omega) (q_0.done (by omega)) (q_1.done (by omega)) rfl (by omega)])) (fun h14=>⟨trivial,(by rw [js (by unfold fS;omega) (q_0.done (by omega)) (q_1.done (by omega)) (bJ.1 h14) rfl])⟩)⟩)⟩)⟩)))))
 case a|b|c|d|e=>rw [yQ (by unfold fS;omega)];rfl
 case f|j=>exact ⟨0, .zero _,⟨rfl,trivial⟩,trivial⟩
 case g|h|k=>omega
 case i|l=>simp only [aE,aJ] at *;omega
theorem Tryz.PS:bK Tryz.prog Tryz.B.eT Tryz.X 147 [aA] [.err] (fun _=>True) (fun x y=>y=(fun o=>aT (cB o)) x):=
 bM (X:=Tryz.X) Tryz.J1 Tryz.func147 (by kernel_rfl) (fun x=>EE x) (fun x hw hp=>PR x hw)
def EF (o:D aA):cN:=[
 (0,fun st=>{X:=Nat,inv:=fun i=>iM o.1 i,bA:=fun i=>o.1.length - i,aS:=fun i=>[(3,sI i)],aX:=[1]}),
 (2,fun st=>{X:=Nat,inv:=fun k=>k<=(Int.toNat (aZ (.int .i64) st 3))/\∀j,j < k->nth .str o.1 j≠nth .str o.1 (Int.toNat (aZ (.int .i64) st 3)),bA:=fun k=>(Int.toNat (aZ (.int .i64) st 3)) - k,aS:=fun k=>[(5,sI k)],aX:=[1,3,4,44,45,46,47,48,51,52,53,54,55,56,57,58,59]}),
 (4,fun st=>{X:=Nat,inv:=fun i=>jw o.2.1 i,bA:=fun i=>o.2.1.length - i,aS:=fun i=>[(6,sI i)],aX:=[1]}),
 (6,fun st=>{X:=Nat,inv:=fun i=>jr o.2.1.length o.2.2.1 i,bA:=fun i=>o.2.2.1.length - i,aS:=fun i=>[(8,sI i)],aX:=[1]}),
 (8,fun st=>{X:=Nat,inv:=fun k=>k<=(Int.toNat (aZ (.int .i64) st 8))/\∀j,j < k->(nth aN o.2.2.1 j).1≠(nth aN o.2.2.1 (Int.toNat (aZ (.int .i64) st 8))).1,bA:=fun k=>(Int.toNat (aZ (.int .i64) st 8)) - k,aS:=fun k=>[(11,sI k)],aX:=[1,8,9,10,91,92,93,94,95,98,99,100,101,102,103,104,105,106,107,108,109,110,111,112,113,114,115,116,117,118,119]}),
 (10,fun st=>{X:=Nat,inv:=fun i=>kP o.2.1.length o.2.2.2.1 i,bA:=fun i=>o.2.2.2.1.length - i,aS:=fun i=>[(12,sI i)],aX:=[1]})]
noncomputable def Tryz.EG:List (FuncId × (Bool × bQ)):=[(49,(true,aL [.str] [.err] (fun _=>True) (fun s=>aT (aG s)))),
 (50,(true,aL [.str] [.int .i64] (fun _=>True) (fun s=>aG s))),
 (156,(true,aL [.str] [.int .u32] (fun _=>True) (fun s=>(dD s:Int)))),
 (83,(true,aL [.str] [.int .i64] (fun _=>True) (fun s=>(dD s:Int)))),
 (11,(true,aL [.err, .int .i64] [.bool] (fun _=>True) (fun x=>cT x.1 x.2))),
 (60,(true,aL [.int .i64] [.bool] (fun _=>True) (fun n=>dJ n)))]
theorem Tryz.J2:bT Tryz.prog Tryz.B Tryz.X Tryz.EG:=
 aP (aC Tryz.iR) (aP (aC Tryz.eY) (aP (aC Tryz.jC) (aP (aC Tryz.iS) (aP (aC Tryz.jl) (aP (aC Tryz.JW) (bW Tryz.bX))))))
theorem PT (o:D aA) (hw:eE [aA] o):(cM Tryz.B Tryz.EG Tryz.f116 (EF o) [aA] [.int .i64] (fun x y=>y=(fun o=>cB o) x) o).holds:=by
 refine holds_of (p:=
  let za:=o.1
  let zb:=List.length za
  let zc:=cB o
  let zd:=(2:Int)=zc
  let ze:=o.2.1
  let zf:=List.length ze
  let zg:=zf<=aJ
  let zh:=(↑zf:Int)
  let zi:=o.2.2.1
  let zj:=List.length zi
  let zk:=o.2.2.2.1
  let zl:=List.length zk
  let zm:=(↑zl:Int)
  let zn:=fun (x_0:Nat)=>(↑x_0:Int)
  let zo:=fun (x_0:Nat)=>(0:Int)<=zn x_0
  let zp:=fun (x_0:Nat)=>zo x_0/\zn x_0 < (↑zb:Int)
  let zq:=fun (x_0:Nat)=>nth Ty.str za x_0
  let zr:=(3:Int)=zc
  let zs:=fun (x_1:Nat)=>aE (zn x_1)
  let zt:=aE (1:Int)
  let zu:=fun (x_1:Nat)=>zn x_1 + (1:Int)
  let zv:=fun (x_1:Nat)=>aE (zu x_1)
  let zw:=(za=za/\ze=ze/\zi=zi/\zk=zk/\True)/\True
  let zx:=(1:Int)=zc
  let zy:=fun (x_2:Nat)=>zo x_2/\zn x_2 < (↑zj:Int)
  let zz:=fun (x_2:Nat)=>(nth aN zi x_2).1
  let zaa:=fun (x_2:Nat)=>(nth aN zi x_2).2.1
  let zab:=fun (x_3:Nat)=>(nth aO zk x_3).1
  let zac:=fun (x_3:Nat)=>(nth aO zk x_3).2.1
  let zad:=fun (x_3:Nat)=>zn x_3 - (1:Int)
  let zae:=fun (x_3:Nat)=>aG (nth aO zk x_3).2.2.2.1
  let zaf:=fun (x_3:Nat)=>((zs x_3)->((zt)->(zv x_3)/\(∃(x':Nat),kP zf zk x'/\zl - x' < zl - x_3/\(zu x_3=(↑x':Int)/\True)/\zw)))
  let zag:=fun (x_3:Nat)=>(((decide (zac x_3 > (1:Int)))=true->(True)/\(((decide (zae x_3 > (0:Int)))=true->(zae x_3=zc))/\((decide (zae x_3 > (0:Int)))=false->(zaf x_3))))/\((decide (zac x_3 > (1:Int)))=false->(zaf x_3)))
  let zah:=fun (x_3:Nat)=>(((zac x_3 == (1:Int))=true->(((!(nth aO zk x_3).2.2.2.1 == @List.nil UInt8)=true->(zr))/\((!(nth aO zk x_3).2.2.2.1 == @List.nil UInt8)=false->((((nth aO zk x_3).2.2.2.2.1)=true->(zr))/\(((nth aO zk x_3).2.2.2.2.1)=false->(zag x_3))))))/\((zac x_3 == (1:Int))=false->(zag x_3)))
  ((zb<=aJ)->(((decide ((↑zb:Int) > (4:Int)))=true->(zd))/\((decide ((↑zb:Int) > (4:Int)))=false->((zg)->(((decide (zh < (1:Int)))=true->(zd))/\((decide (zh < (1:Int)))=false->((zg)->(((decide (zh > (40:Int)))=true->(zd))/\((decide (zh > (40:Int)))=false->((zj<=aJ)->(((decide ((↑zj:Int) > (8:Int)))=true->(zd))/\((decide ((↑zj:Int) > (8:Int)))=false->((zl<=aJ)->(((decide (zm > (6:Int)))=true->(zd))/\((decide (zm > (6:Int)))=false->(∃(x:Nat),iM za x/\((0:Int)=(↑x:Int)/\True)/\True)/\(∀x_0:Nat,((iM za x_0)->((zb<=aJ)->(((decide (zn x_0 < (↑zb:Int)))=true->(zp x_0)/\(True)/\(((decide (aG (zq x_0) > (0:Int)))=true->(aG (zq x_0)=zc))/\((decide (aG (zq x_0) > (0:Int)))=false->(∃(x:Nat),(x<=x_0/\∀(j:Nat),j < x->nth Ty.str za j≠zq x_0)/\((0:Int)=(↑x:Int)/\True)/\True)/\(∀x_1:Nat,((x_1<=x_0/\∀(j:Nat),j < x_1->nth Ty.str za j≠zq x_0)->(((decide (zn x_1 < zn x_0))=true->(zp x_1)/\(zp x_0)/\(((zq x_1 == zq x_0)=true->(zr))/\((zq x_1 == zq x_0)=false->((zs x_1)->((zt)->(zv x_1)/\(∃(x':Nat),(x'<=x_0/\∀(j:Nat),j < x'->nth Ty.str za j≠zq x_0)/\x_0 - x' < x_0 - x_1/\(zu x_1=(↑x':Int)/\True)/\zw))))))/\((decide (zn x_1 < zn x_0))=false->((zs x_0)->((zt)->(zv x_0)/\(∃(x':Nat),iM za x'/\zb - x' < zb - x_0/\(zu x_0=(↑x':Int)/\True)/\zw))))))))))/\((decide (zn x_0 < (↑zb:Int)))=false->(∃(x:Nat),jw ze x/\((0:Int)=(↑x:Int)/\True)/\True)/\(∀x_1:Nat,((jw ze x_1)->((zg)->(((decide (zn x_1 < zh))=true->(zo x_1/\zn x_1 < zh)/\(True)/\(((!dJ (nth (Ty.int IntKind.i64) ze x_1))=true->(zx))/\((!dJ (nth (Ty.int IntKind.i64) ze x_1))=false->((zs x_1)->((zt)->(zv x_1)/\(∃(x':Nat),jw ze x'/\zf - x' < zf - x_1/\(zu x_1=(↑x':Int)/\True)/\zw))))))/\((decide (zn x_1 < zh))=false->(∃(x:Nat),jr zf zi x/\((0:Int)=(↑x:Int)/\True)/\True)/\(∀x_2:Nat,((jr zf zi x_2)->((zj<=aJ)->(((decide (zn x_2 < (↑zj:Int)))=true->(zy x_2)/\(True)/\(((decide (aG (zz x_2) > (0:Int)))=true->(aG (zz x_2)=zc))/\((decide (aG (zz x_2) > (0:Int)))=false->(((decide (zaa x_2 < (0:Int)))=true->(zx))/\((decide (zaa x_2 < (0:Int)))=false->((zg)->(((decide (zaa x_2>=zh))=true->(zx))/\((decide (zaa x_2>=zh))=false->(∃(x:Nat),(x<=x_2/\∀(j:Nat),j < x->(nth aN zi j).1≠zz x_2)/\((0:Int)=(↑x:Int)/\True)/\True)/\(∀x_3:Nat,((x_3<=x_2/\∀(j:Nat),j < x_3->(nth aN zi j).1≠zz x_2)->(((decide (zn x_3 < zn x_2))=true->(zy x_3)/\(((zz x_3 == zz x_2)=true->(zr))/\((zz x_3 == zz x_2)=false->((zs x_3)->((zt)->(zv x_3)/\(∃(x':Nat),(x'<=x_2/\∀(j:Nat),j < x'->(nth aN zi j).1≠zz x_2)/\x_2 - x' < x_2 - x_3/\(zu x_3=(↑x':Int)/\True)/\(zz x_2=zz x_2/\zaa x_2=zaa x_2/\(nth aN zi x_2).2.2.1=(nth aN zi x_2).2.2.1/\True)/\zw))))))/\((decide (zn x_3 < zn x_2))=false->((zs x_2)->((zt)->(zv x_2)/\(∃(x':Nat),jr zf zi x'/\zj - x' < zj - x_2/\(zu x_2=(↑x':Int)/\True)/\zw)))))))))))))))/\((decide (zn x_2 < (↑zj:Int)))=false->(∃(x:Nat),kP zf zk x/\((0:Int)=(↑x:Int)/\True)/\True)/\(∀x_3:Nat,((kP zf zk x_3)->((zl<=aJ)->(((decide (zn x_3 < zm))=true->(zo x_3/\zn x_3 < zm)/\(True)/\(((decide (zab x_3 < (0:Int)))=true->(zx))/\((decide (zab x_3 < (0:Int)))=false->((zg)->(((decide (zab x_3>=zh))=true->(zx))/\((decide (zab x_3>=zh))=false->(((!dJ (nth aO zk x_3).2.2.1)=true->(zx))/\((!dJ (nth aO zk x_3).2.2.1)=false->(((decide (zac x_3 < (1:Int)))=true->(zr))/\((decide (zac x_3 < (1:Int)))=false->(((decide (zac x_3 > (3:Int)))=true->(zr))/\((decide (zac x_3 > (3:Int)))=false->(((decide (zn x_3 > (0:Int)))=true->((zs x_3)->((zt)->(aE (zad x_3))/\((0:Int)<=zad x_3/\zad x_3 < zm)/\(((decide (zab x_3<=(nth aO zk (Int.toNat (zad x_3))).1))=true->(zr))/\((decide (zab x_3<=(nth aO zk (Int.toNat (zad x_3))).1))=false->(zah x_3))))))/\((decide (zn x_3 > (0:Int)))=false->(zah x_3)))))))))))))))/\((decide (zn x_3 < zm))=false->((0:Int)=zc))))))))))))))))))))))))))))))))))))) (by kernel_rfl) ?_
 dsimp -iota -proj -eta only
 refine fun h0=>iL (fun h1 => ?a) (fun h1 h2=>iL (fun h3 => ?b) (fun h3 h4=>iL (fun h5 => ?c) (fun h5 h6=>iL (fun h7 => ?d) (fun h7 h8=>iL (fun h9 => ?e) (fun h9=>⟨?f,fun x_0 q_0 h10=>iL (fun h11=>⟨?g,trivial,iL (fun h12=>(by rw [pb (by unfold fS;omega) (q_0.fault (by omega) h12) (by omega)])) (fun h12=>⟨?h,fun x_1 q_1=>iL (fun h13=>⟨?i,?j,iQ (fun h14=>(by rw [pb (by unfold fS;omega) (q_0.dup (by omega) (by omega) (uU (t:=.str) (j:=x_1) (by omega) q_0.le (by simpa using h14))) (by decide)])) (fun h14 h15 h16=>⟨?k,(⟨x_1 + 1,⟨by omega,jA q_1.2 (by assumption)⟩,by omega,⟨by omega,trivial⟩,(by trivial)⟩)⟩)⟩) (fun h13 h14 h15=>⟨?l,(⟨x_0 + 1,q_0.next (by omega) (by omega) (sy (t:=.str) fun j hj=>by simpa using q_1.2 j (by omega)),by omega,⟨by omega,trivial⟩,(by trivial)⟩)⟩)⟩)⟩) (fun h11=>⟨?m,fun x_1 q_1 h12=>iL (fun h13=>⟨?n,trivial,iB (fun h14=>(by rw [xb (by unfold fS;omega) (q_0.done (by omega)) (q_1.fault (by omega) h14) (by decide)])) (fun h14 h15 h16=>⟨?o,(⟨x_1 + 1,q_1.next (by omega) h14,by omega,⟨by omega,trivial⟩,(by trivial)⟩)⟩)⟩) (fun h13=>⟨?p,fun x_2 q_2 h14=>iL (fun h15=>⟨?q,trivial,iL (fun h16=>(by rw [nS (by unfold fS;omega) (q_0.done (by omega)) (q_1.done (by omega)) (q_2.fault (by omega) h16) (by omega)])) (fun h16=>iL (fun h17=>(by rw [nS (by unfold fS;omega) (q_0.done (by omega)) (q_1.done (by omega)) (q_2.out (by omega) (by omega) (.inl (by omega))) (by decide)])) (fun h17 h18=>iE (fun h19=>(by rw [nS (by unfold fS;omega) (q_0.done (by omega)) (q_1.done (by omega)) (q_2.out (by omega) (by omega) (.inr (by omega))) (by decide)])) (fun h19=>⟨?r,fun x_3 q_3=>iL (fun h20=>⟨?s,iQ (fun h21=>(by rw [nS (by unfold fS;omega) (q_0.done (by omega)) (q_1.done (by omega)) (q_2.dup (by omega) (by omega) (fun h=>h.elim (fun h=>absurd h (Int.not_lt.2 h17)) (fun h=>absurd h (Int.not_le.2 h19))) (uU (t:=aN) (j:=x_3) (by omega) q_2.le (by simpa using h21))) (by decide)])) (fun h21 h22 h23=>⟨?t,(⟨x_3 + 1,⟨by omega,jA q_3.2 (by assumption)⟩,by omega,⟨by omega,trivial⟩,(by trivial)⟩)⟩)⟩) (fun h20 h21 h22=>⟨?u,(⟨x_2 + 1,q_2.next (by omega) (by omega) (fun h=>h.elim (fun h=>absurd h (Int.not_lt.2 h17)) (fun h=>absurd h (Int.not_le.2 h19))) (sy (t:=aN) fun j hj=>by simpa using q_3.2 j (by omega)),by omega,⟨by omega,trivial⟩,(by trivial)⟩)⟩)⟩)))⟩) (fun h15=>⟨?v,fun x_3 q_3 h16=>iL (fun h17=>⟨?w,trivial,iL (fun h18 => ?x) (fun h18 h19=>iE (fun h20 => ?y) (fun h20=>iB (fun h21 => ?z) (fun h21=>iL (fun h22 => ?a0) (fun h22=>iL (fun h23 => ?a1) (fun h23=>iL (fun h24 h25 h26=>⟨?a2,?a3,iE (fun h27 => ?a4) (fun h27=>iQ (fun h28=>⟨fun h29 => ?a5,fun h29=>⟨fun h30 => ?a6,fun h30=>iL (fun h31=>⟨trivial,iL (fun h32 => ?a7) (fun h32 h33 h34=>⟨?a8,?a9⟩)⟩) (fun h31 h32 h33=>⟨?aa,?ab⟩)⟩⟩) (fun h28=>iL (fun h29=>⟨trivial,iL (fun h30 => ?ac) (fun h30 h31 h32=>⟨?ad,?ae⟩)⟩) (fun h29 h30 h31=>⟨?af,?ag⟩)))⟩) (fun h24=>iQ (fun h25=>⟨fun h26 => ?ah,fun h26=>⟨fun h27 => ?ai,fun h27=>iL (fun h28=>⟨trivial,iL (fun h29 => ?aj) (fun h29 h30 h31=>⟨?ak,?al⟩)⟩) (fun h28 h29 h30=>⟨?am,?an⟩)⟩⟩) (fun h25=>iL (fun h26=>⟨trivial,iL (fun h27 => ?ao) (fun h27 h28 h29=>⟨?ap,?aq⟩)⟩) (fun h26 h27 h28=>⟨?ar,?au⟩))))))))⟩) (fun h17=>(by rw [js (by unfold fS;omega) (q_0.done (by omega)) (q_1.done (by omega)) (q_2.done (by omega)) (q_3.done (by omega))]))⟩)⟩)⟩)⟩)))))
 case a|b|c|d|e=>rw [yQ (by unfold fS;omega)]
 case f|m=>exact ⟨0, .zero _,⟨rfl,trivial⟩,trivial⟩
 case g|i|j|n|q|s|w|a3=>omega
 case h|r=>exact ⟨0,⟨by omega,fun j hj=>by omega⟩,⟨rfl,trivial⟩,trivial⟩
 case k|l|o|t|u|a2|ad|ap=>simp only [aE,aJ] at *;omega
 case p|v=>exact ⟨0, .zero _ _,⟨rfl,trivial⟩,trivial⟩
 case x|y|z=>rw [js (by unfold fS;omega) (q_0.done (by omega)) (q_1.done (by omega)) (q_2.done (by omega)) (q_3.fault (by omega) (f:=1) (by unfold iJ jd ik;grind) (by decide))]
 case a0|a1|a4=>rw [js (by unfold fS;omega) (q_0.done (by omega)) (q_1.done (by omega)) (q_2.done (by omega)) (q_3.fault (by omega) (f:=3) (by unfold iJ jd ik;grind) (by decide))]
 case a5|a6=>
  simp only [bl,reduceCtorEq] at h29
  rw [js (by unfold fS;omega) (q_0.done (by omega)) (q_1.done (by omega)) (q_2.done (by omega)) (q_3.fault (by omega) (f:=3) (by unfold iJ jd ik;grind) (by decide))]
 case a7=>
  simp only [bl,reduceCtorEq] at h29
  rw [js (by unfold fS;omega) (q_0.done (by omega)) (q_1.done (by omega)) (q_2.done (by omega)) (q_3.fault (by omega) (f:=aG (nth aO o.2.2.2.1 x_3).2.2.2.1) (by unfold iJ jd ik;grind) (by omega))]
 case a8=>
  simp only [bl,reduceCtorEq] at h29
  dsimp only [D] at *;omega
 case a9|ab=>
  simp only [bl,reduceCtorEq] at h29
  have:=cK (nth aO o.2.2.2.1 x_3).2.2.2.1;exact ⟨x_3 + 1,q_3.next (by omega) (by unfold iJ jd ik;grind),by omega,⟨by omega,trivial⟩,(by trivial)⟩
 case aa=>
  simp only [bl,reduceCtorEq] at h29
  simp only [aE,aJ] at *;omega
 case ac|ao=>rw [js (by unfold fS;omega) (q_0.done (by omega)) (q_1.done (by omega)) (q_2.done (by omega)) (q_3.fault (by omega) (f:=aG (nth aO o.2.2.2.1 x_3).2.2.2.1) (by unfold iJ jd ik;grind) (by omega))]
 case ae|ag|aq|au=>have:=cK (nth aO o.2.2.2.1 x_3).2.2.2.1;exact ⟨x_3 + 1,q_3.next (by omega) (by unfold iJ jd ik;grind),by omega,⟨by omega,trivial⟩,(by trivial)⟩
 case af|ar=>dsimp only [D] at *;omega
 case ah|ai=>
  simp only [bl,reduceCtorEq] at h26
  rw [js (by unfold fS;omega) (q_0.done (by omega)) (q_1.done (by omega)) (q_2.done (by omega)) (q_3.fault (by omega) (f:=3) (by unfold iJ jd ik;grind) (by decide))]
 case aj=>
  simp only [bl,reduceCtorEq] at h26
  rw [js (by unfold fS;omega) (q_0.done (by omega)) (q_1.done (by omega)) (q_2.done (by omega)) (q_3.fault (by omega) (f:=aG (nth aO o.2.2.2.1 x_3).2.2.2.1) (by unfold iJ jd ik;grind) (by omega))]
 case ak=>
  simp only [bl,reduceCtorEq] at h26
  dsimp only [D] at *;omega
 case al|an=>
  simp only [bl,reduceCtorEq] at h26
  have:=cK (nth aO o.2.2.2.1 x_3).2.2.2.1;exact ⟨x_3 + 1,q_3.next (by omega) (by unfold iJ jd ik;grind),by omega,⟨by omega,trivial⟩,(by trivial)⟩
 case am=>
  simp only [bl,reduceCtorEq] at h26
  simp only [aE,aJ] at *;omega
theorem Tryz.PU:bK Tryz.prog Tryz.B.eT Tryz.X 116 [aA] [.int .i64] (fun _=>True) (fun x y=>y=(fun o=>cB o) x):=
 bM (X:=Tryz.X) Tryz.J2 Tryz.func116 (by kernel_rfl) (fun x=>EF x) (fun x hw hp=>PT x hw)
theorem Nk (b:Bool) (hw:eE [.bool] b):(cM Tryz.B [] Tryz.f149 [] [.bool] [.str] (fun x y=>y=(fun b=>fM b) x) b).holds:=by
 refine holds_of (p:=
  (((b)=true->([(119:UInt8),101,97,107,32]=fM b))/\((b)=false->(@List.nil UInt8=fM b)))) (by kernel_rfl) ?_
 refine ⟨fun h0 => ?a,fun h0 => ?b⟩
 case a|b=>cases b <;> first | rfl | simp_all
theorem Tryz.Nl:bK Tryz.prog Tryz.B.eT Tryz.X 149 [.bool] [.str] (fun _=>True) (fun x y=>y=(fun b=>fM b) x):=
 bM (X:=Tryz.X) (bW Tryz.bX) Tryz.func149 (by kernel_rfl) (fun _=>[]) (fun x hw hp=>Nk x hw)
end Go.Proofs.YtgokjhhcfemnhabGreatDoor

namespace Go.Proofs.YtgokjhhcfemnhabGreatDoor
open Go.Vg Go.Mrl
noncomputable def Tryz.Nn (k:Nat):List (FuncId × (Bool × bQ)):=(62,(true,aL [.int .i64] [.str] (fun x=>(fun _=>True) x/\(fun n=>mD n) x < k) (fun n=>Lib.itoa n))) :: []
theorem No (k:Nat) (n:Int) (hw:eE [.int .i64] n) (hp:(fun _=>True) n/\(fun n=>mD n) n < k + 1):(cM Tryz.B (Tryz.Nn k) Tryz.f62 [] [.int .i64] [.str] (fun x y=>y=(fun n=>Lib.itoa n) x) n).holds:=by
 refine holds_of (p:=
  let za:=Lib.itoa n
  let zb:=(0:Int) - n
  let zc:=[IntKind.wrap IntKind.u8 ((48:Int) + n)]
  let zd:=(10:Int)≠(0:Int)
  let ze:=fun (x_1:Int)=>List.length [IntKind.wrap IntKind.u8 ((48:Int) + x_1)]<=aJ
  let zf:=fun (x_1:Int)=>bytesOf [IntKind.wrap IntKind.u8 ((48:Int) + x_1)]
  let zg:=fun (x_0:Int) (x_1:Int)=>(List.length (Lib.itoa x_0) + List.length (zf x_1)<=aJ)/\(Lib.itoa x_0++zf x_1=za)
  (((decide (n < (0:Int)))=true->(((n == (-9223372036854775808:Int))=true->([(45:UInt8),57,50,50,51,51,55,50,48,51,54,56,53,52,55,55,53,56,48,56]=za))/\((n == (-9223372036854775808:Int))=false->((aE (0:Int))->((aE n)->(aE zb)/\(True/\mD zb < k)/\(List.length [(45:UInt8)] + List.length (Lib.itoa zb)<=aJ)/\([(45:UInt8)]++Lib.itoa zb=za))))))/\((decide (n < (0:Int)))=false->(((decide (n < (10:Int)))=true->((aE (48:Int))->((aE n)->(aE ((48:Int) + n))/\(List.length zc<=aJ)/\(bytesOf zc=za))))/\((decide (n < (10:Int)))=false->(zd)/\(∀x_0:Int,((x_0=Int.tdiv n (10:Int))->((aE n)->((aE (10:Int))->(aE x_0)/\(zd)/\(∀x_1:Int,((x_1=Int.tmod n (10:Int))->((aE (48:Int))->((aE x_1)->(aE ((48:Int) + x_1))/\((fun a0 a1:Prop=>a0/\a0/\a1) ((True/\mD x_0 < k)/\(ze x_1)/\(zg x_0 x_1)) ((ze x_1)/\(True/\mD x_0 < k)/\(zg x_0 x_1)))))))))))))))) (by kernel_rfl) ?_
 dsimp -iota -proj -eta only
 dsimp only at hp
 refine iL (fun h0=>iQ (fun h1=>(by rw [h1,Rp])) (fun h1 h2 h3=>⟨?a,(by have:=Uv h0;rw [Int.zero_sub];exact ⟨trivial,by omega⟩),(by unfold aE at h3;have:=Lb (n:=-n) (by omega) (by omega);rw [Int.zero_sub];simp only [List.length_cons,List.length_nil,aJ];omega),(by rw [Int.zero_sub,xh h0])⟩)) (fun h0=>iL (fun h1 h2 h3=>⟨?b,?c,(by rw [CW (by omega) (by omega),oy (by omega) (by omega)])⟩) (fun h1=>⟨?d,fun x_0 q_0 h2 h3=>⟨(by rw [q_0,Int.tdiv_eq_ediv_of_nonneg h0];unfold aE at *;omega),?e,fun x_1 q_1 h4 h5=>⟨(by rw [q_1,Int.tmod_eq_emod_of_nonneg h0];unfold aE at *;omega),(show ∀{a0 a1:Prop},a0->a1->a0/\a0/\a1 from fun g0 g1=>⟨g0,g0,g1⟩) (⟨?f,?g,?h,?i⟩) (⟨?j,?k,?l,?m⟩)⟩⟩⟩))
 case a|b=>simp only [aE,aJ] at *;omega
 case c|g|j=>show 1<=aJ;decide
 case d|e=>trivial
 case f|k=>rw [q_0,Int.tdiv_eq_ediv_of_nonneg h0];have:=Uw h1;exact ⟨trivial,by omega⟩
 case h|l=>rw [q_0,q_1,Int.tdiv_eq_ediv_of_nonneg h0,Int.tmod_eq_emod_of_nonneg h0,CW (by omega) (by omega)];have:=Lb (n:=n / 10) (by unfold aE at *;omega) (by unfold aE at *;omega);simp only [List.length_cons,List.length_nil,aJ];omega
 case i|m=>rw [q_0,q_1,Int.tdiv_eq_ediv_of_nonneg h0,Int.tmod_eq_emod_of_nonneg h0,CW (by omega) (by omega),xi h1]
theorem Tryz.tc:∀k:Nat,bK Tryz.prog Tryz.B.eT Tryz.X 62 [.int .i64] [.str] (fun x=>(fun _=>True) x/\(fun n=>mD n) x < k) (fun x y=>y=(fun n=>Lib.itoa n) x)
 | 0=>⟨⟨Tryz.f62,Tryz.func62,by kernel_rfl,by kernel_rfl⟩,fun _ _ _ _ _ _ _ hp=>absurd hp.2 (Nat.not_lt_zero _)⟩
 | k + 1=>bM (X:=Tryz.X) (aP (aC (Tryz.tc k)) (bW Tryz.bX)) Tryz.func62 (by kernel_rfl) (fun _=>[]) (fun x hw hp=>No k x hw hp)
theorem Tryz.Cn:bK Tryz.prog Tryz.B.eT Tryz.X 62 [.int .i64] [.str] (fun _=>True) (fun x y=>y=(fun n=>Lib.itoa n) x):=
 ⟨(Tryz.tc 0).1,fun O w x vs hG hO ha hp=>(Tryz.tc ((fun n=>mD n) x + 1)).2 O w x vs hG hO ha ⟨hp,Nat.lt_succ_self _⟩⟩
end Go.Proofs.YtgokjhhcfemnhabGreatDoor

namespace Go.Proofs.YtgokjhhcfemnhabGreatDoor
open Go.Vg Go.Mrl
noncomputable def Tryz.EH:List (FuncId × (Bool × bQ)):=[(62,(true,aL [.int .i64] [.str] (fun _=>True) (fun n=>Lib.itoa n)))]
theorem Tryz.J3:bT Tryz.prog Tryz.B Tryz.X Tryz.EH:=
 aP (aC Tryz.Cn) (bW Tryz.bX)
def EI (o:D aA):cN:=[
 (0,fun st=>{X:=Nat,inv:=fun i=>i<=o.1.length,bA:=fun i=>o.1.length - i,aS:=fun i=>[(5,sI i),(4,sS (kB o i))],aX:=[1,2,3]}),
 (2,fun st=>{X:=Nat,inv:=fun i=>i<=o.2.1.length,bA:=fun i=>o.2.1.length - i,aS:=fun i=>[(6,sI i),(4,sS (jX o i))],aX:=[1,2,3]}),
 (4,fun st=>{X:=Nat,inv:=fun i=>i<=o.2.2.1.length,bA:=fun i=>o.2.2.1.length - i,aS:=fun i=>[(7,sI i),(4,sS (iy o i))],aX:=[1,2,3]}),
 (6,fun st=>{X:=Nat,inv:=fun i=>i<=o.2.2.2.1.length,bA:=fun i=>o.2.2.2.1.length - i,aS:=fun i=>[(9,sI i),(4,sS (eK o i))],aX:=[1,2,3,8]})]
theorem PV (o:D aA) (hw:eE [aA] o) (hp:(fun o=>cB o=0) o):(cM Tryz.B Tryz.EH Tryz.f117 (EI o) [aA] [.str, .int .i64] (fun x y=>y=(fun o=>kS o) x) o).holds:=by
 refine holds_of (p:=
  let za:=List.length o.1
  let zb:=fun (x_0:Nat)=>(↑x_0:Int)
  let zc:=[(110:UInt8),101,101,100,32]
  let zd:=fun (x_0:Nat)=>(0:Int)<=zb x_0
  let ze:=fun (x_0:Nat)=>kB o x_0++zc++nth Ty.str o.1 x_0
  let zf:=[(10:UInt8)]
  let zg:=List.length zf
  let zh:=fun (x_0:Nat)=>aE (zb x_0)
  let zi:=aE (1:Int)
  let zj:=fun (x_0:Nat)=>zb x_0 + (1:Int)
  let zk:=fun (x_0:Nat)=>aE (zj x_0)
  let zl:=o.2.1
  let zm:=o.2.2.1
  let zn:=o.2.2.2.1
  let zo:=(o.1=o.1/\zl=zl/\zm=zm/\zn=zn/\True)/\True
  let zp:=List.length zl
  let zq:=[(119:UInt8),111,114,100,32]
  let zr:=fun (x_1:Nat)=>jX o x_1++zq++Lib.itoa (nth (Ty.int IntKind.i64) zl x_1)
  let zs:=List.length zm
  let zt:=fun (x_2:Nat)=>zd x_2/\zb x_2 < (↑zs:Int)
  let zu:=[(119:UInt8),101,97,107,32]
  let zv:=[(115:UInt8),121,109,98,111,108,32]
  let zw:=fun (x_2:Nat)=>iy o x_2++zu++zv
  let zx:=fun (x_2:Nat)=>(nth aN zm x_2).1
  let zy:=[(32:UInt8)]
  let zz:=List.length zy
  let zaa:=fun (x_2:Nat)=>Lib.itoa (nth aN zm x_2).2.1
  let zab:=fun (x_2:Nat)=>zw x_2++zx x_2++zy++zaa x_2
  let zac:=fun (x_2:Nat)=>iy o x_2++zv++zx x_2
  let zad:=List.length zn
  let zae:=fun (x_3:Nat)=>List.length (eK o x_3)
  let zaf:=fun (x_3:Nat)=>(nth aO zn x_3).2.1
  let zag:=[@List.nil UInt8,[(98:UInt8),97,115,101],[(119:UInt8),104,111,108,101],[(110:UInt8),101,97,114]]
  let zah:=fun (x_3:Nat)=>(0:Int)<=zaf x_3/\zaf x_3 < (↑(List.length zag):Int)
  let zai:=fun (x_3:Nat)=>nth Ty.str zag (Int.toNat (zaf x_3))
  let zaj:=fun (x_3:Nat)=>eK o x_3++zu++zai x_3
  let zak:=fun (x_3:Nat)=>Lib.itoa (nth aO zn x_3).1
  let zal:=fun (x_3:Nat)=>zaj x_3++zy++zak x_3++zy
  let zam:=fun (x_3:Nat)=>Lib.itoa (nth aO zn x_3).2.2.1
  let zan:=fun (x_3:Nat)=>zal x_3++zam x_3
  let zao:=fun (x_3:Nat)=>(nth aO zn x_3).2.2.2.1
  let zap:=fun (x_3:Nat)=>eK o x_3++zai x_3++zy
  let zaq:=fun (x_3:Nat)=>zap x_3++zak x_3++zy++zam x_3
  (∃(x:Nat),x<=za/\((0:Int)=(↑x:Int)/\@List.nil UInt8=kB o x/\True)/\True)/\(∀x_0:Nat,((x_0<=za)->((za<=aJ)->(((decide (zb x_0 < (↑za:Int)))=true->(List.length (kB o x_0) + List.length zc<=aJ)/\(zd x_0/\zb x_0 < (↑za:Int))/\(List.length (kB o x_0++zc) + List.length (nth Ty.str o.1 x_0)<=aJ)/\(List.length (ze x_0) + zg<=aJ)/\((zh x_0)->((zi)->(zk x_0)/\(∃(x':Nat),x'<=za/\za - x' < za - x_0/\(zj x_0=(↑x':Int)/\ze x_0++zf=kB o x'/\True)/\zo))))/\((decide (zb x_0 < (↑za:Int)))=false->(∃(x:Nat),x<=zp/\((0:Int)=(↑x:Int)/\kB o x_0=jX o x/\True)/\True)/\(∀x_1:Nat,((x_1<=zp)->((zp<=aJ)->(((decide (zb x_1 < (↑zp:Int)))=true->(List.length (jX o x_1) + List.length zq<=aJ)/\(zd x_1/\zb x_1 < (↑zp:Int))/\(True)/\(List.length (jX o x_1++zq) + List.length (Lib.itoa (nth (Ty.int IntKind.i64) zl x_1))<=aJ)/\(List.length (zr x_1) + zg<=aJ)/\((zh x_1)->((zi)->(zk x_1)/\(∃(x':Nat),x'<=zp/\zp - x' < zp - x_1/\(zj x_1=(↑x':Int)/\zr x_1++zf=jX o x'/\True)/\zo))))/\((decide (zb x_1 < (↑zp:Int)))=false->(∃(x:Nat),x<=zs/\((0:Int)=(↑x:Int)/\jX o x_1=iy o x/\True)/\True)/\(∀x_2:Nat,((x_2<=zs)->((zs<=aJ)->(((decide (zb x_2 < (↑zs:Int)))=true->(zt x_2)/\((((nth aN zm x_2).2.2.1)=true->(List.length (iy o x_2) + List.length zu<=aJ)/\(List.length (iy o x_2++zu) + List.length zv<=aJ)/\(zt x_2)/\(List.length (zw x_2) + List.length (zx x_2)<=aJ)/\(List.length (zw x_2++zx x_2) + zz<=aJ)/\(zt x_2)/\(True)/\(List.length (zw x_2++zx x_2++zy) + List.length (zaa x_2)<=aJ)/\(List.length (zab x_2) + zg<=aJ)/\((zh x_2)->((zi)->(zk x_2)/\(∃(x':Nat),x'<=zs/\zs - x' < zs - x_2/\(zj x_2=(↑x':Int)/\zab x_2++zf=iy o x'/\True)/\zo))))/\(((nth aN zm x_2).2.2.1)=false->(List.length (iy o x_2) + List.length zv<=aJ)/\(zt x_2)/\(List.length (iy o x_2++zv) + List.length (zx x_2)<=aJ)/\(List.length (zac x_2) + zz<=aJ)/\(zt x_2)/\(True)/\(List.length (zac x_2++zy) + List.length (zaa x_2)<=aJ)/\(List.length (zac x_2++zy++zaa x_2) + zg<=aJ)/\((zh x_2)->((zi)->(zk x_2)/\(∃(x':Nat),x'<=zs/\zs - x' < zs - x_2/\(zj x_2=(↑x':Int)/\zac x_2++zy++zaa x_2++zf=iy o x'/\True)/\zo))))))/\((decide (zb x_2 < (↑zs:Int)))=false->(∃(x:Nat),x<=zad/\((0:Int)=(↑x:Int)/\iy o x_2=eK o x/\True)/\True)/\(∀x_3:Nat,((x_3<=zad)->((zad<=aJ)->(((decide (zb x_3 < (↑zad:Int)))=true->(zd x_3/\zb x_3 < (↑zad:Int))/\((((nth aO zn x_3).2.2.2.2.1)=true->(zae x_3 + List.length zu<=aJ)/\(zah x_3)/\(List.length (eK o x_3++zu) + List.length (zai x_3)<=aJ)/\(List.length (zaj x_3) + zz<=aJ)/\(True)/\(List.length (zaj x_3++zy) + List.length (zak x_3)<=aJ)/\(List.length (zaj x_3++zy++zak x_3) + zz<=aJ)/\(True)/\(List.length (zal x_3) + List.length (zam x_3)<=aJ)/\(((decide (zaf x_3 > (1:Int)))=true->(List.length (zan x_3) + zz<=aJ)/\(List.length (zan x_3++zy) + List.length (zao x_3)<=aJ)/\(List.length (zan x_3++zy++zao x_3) + zg<=aJ)/\((zh x_3)->((zi)->(zk x_3)/\(∃(x':Nat),x'<=zad/\zad - x' < zad - x_3/\(zj x_3=(↑x':Int)/\zan x_3++zy++zao x_3++zf=eK o x'/\True)/\zo))))/\((decide (zaf x_3 > (1:Int)))=false->(List.length (zan x_3) + zg<=aJ)/\((zh x_3)->((zi)->(zk x_3)/\(∃(x':Nat),x'<=zad/\zad - x' < zad - x_3/\(zj x_3=(↑x':Int)/\zan x_3++zf=eK o x'/\True)/\zo))))))/\(((nth aO zn x_3).2.2.2.2.1)=false->(zah x_3)/\(zae x_3 + List.length (zai x_3)<=aJ)/\(List.length (eK o x_3++zai x_3) + zz<=aJ)/\(True)/\(List.length (zap x_3) + List.length (zak x_3)<=aJ)/\(List.length (zap x_3++zak x_3) + zz<=aJ)/\(True)/\(List.length (zap x_3++zak x_3++zy) + List.length (zam x_3)<=aJ)/\(((decide (zaf x_3 > (1:Int)))=true->(List.length (zaq x_3) + zz<=aJ)/\(List.length (zaq x_3++zy) + List.length (zao x_3)<=aJ)/\(List.length (zaq x_3++zy++zao x_3) + zg<=aJ)/\((zh x_3)->((zi)->(zk x_3)/\(∃(x':Nat),x'<=zad/\zad - x' < zad - x_3/\(zj x_3=(↑x':Int)/\zaq x_3++zy++zao x_3++zf=eK o x'/\True)/\zo))))/\((decide (zaf x_3 > (1:Int)))=false->(List.length (zaq x_3) + zg<=aJ)/\((zh x_3)->((zi)->(zk x_3)/\(∃(x':Nat),x'<=zad/\zad - x' < zad - x_3/\(zj x_3=(↑x':Int)/\zaq x_3++zf=eK o x'/\True)/\zo))))))))/\((decide (zb x_3 < (↑zad:Int)))=false->((zae x_3<=aJ)->(((decide ((↑(zae x_3):Int) > (1200:Int)))=true->(([],(2:Int))=kS o))/\((decide ((↑(zae x_3):Int) > (1200:Int)))=false->((eK o x_3,(0:Int))=kS o))))))))))))))))))))))))) (by kernel_rfl) ?_
 dsimp -iota -proj -eta only
 refine ⟨(⟨0,by omega,⟨rfl,rfl,trivial⟩,trivial⟩),fun x_0 q_0 h0=>iL (fun h1=>⟨?a,?b,?c,?d,fun h2 h3=>⟨?e,(⟨x_0 + 1,by omega,by omega,⟨by omega,Vb (by omega),trivial⟩,(by trivial)⟩)⟩⟩) (fun h1=>⟨(⟨0,by omega,⟨rfl,by rw [D2,show x_0=o.1.length by omega],trivial⟩,trivial⟩),fun x_1 q_1 h2=>iL (fun h3=>⟨?f,?g,trivial,?h,?i,fun h4 h5=>⟨?j,(⟨x_1 + 1,by omega,by omega,⟨by omega,Vc (by omega),trivial⟩,(by trivial)⟩)⟩⟩) (fun h3=>⟨(⟨0,by omega,⟨rfl,by rw [D3,show x_1=o.2.1.length by omega],trivial⟩,trivial⟩),fun x_2 q_2 h4=>iL (fun h5=>⟨?k,⟨fun h6=>⟨?l,?m,?n,?o,?p,?q,trivial,?r,?s,fun h7 h8=>⟨?t,(⟨x_2 + 1,by omega,by omega,⟨by omega,UB (by omega) h6,trivial⟩,(by trivial)⟩)⟩⟩,fun h6=>⟨?u,?v,?w,?x,?y,trivial,?z,?a0,fun h7 h8=>⟨?a1,(⟨x_2 + 1,by omega,by omega,⟨by omega,UC (by omega) h6,trivial⟩,(by trivial)⟩)⟩⟩⟩⟩) (fun h5=>⟨(⟨0,by omega,⟨rfl,by rw [D4,show x_2=o.2.2.1.length by omega],trivial⟩,trivial⟩),fun x_3 q_3 h6=>iL (fun h7=>⟨?a2,⟨fun h8=>⟨?a3,?a4,?a5,?a6,trivial,?a7,?a8,trivial,?a9,iL (fun h9=>⟨?aa,?ab,?ac,fun h10 h11=>⟨?ad,(⟨x_3 + 1,by omega,by omega,⟨by omega,Uy (by omega) (gC hp) h8 (Lc h9),trivial⟩,(by trivial)⟩)⟩⟩) (fun h9=>⟨?ae,fun h10 h11=>⟨?af,(absurd (h8.symm.trans (((gC hp).tie (i:=x_3) (by omega)).base (O0 (Int.not_lt.2 h9) ((gC hp).kind (by omega)))).2) (by decide))⟩⟩)⟩,fun h8=>⟨?ag,?ah,?ai,trivial,?aj,?ak,trivial,?al,iL (fun h9=>⟨?am,?an,?ao,fun h10 h11=>⟨?ap,(⟨x_3 + 1,by omega,by omega,⟨by omega,Uz (by omega) (gC hp) h8 (Lc h9),trivial⟩,(by trivial)⟩)⟩⟩) (fun h9=>⟨?aq,fun h10 h11=>⟨?ar,(⟨x_3 + 1,by omega,by omega,⟨by omega,UA (by omega) (O0 (Int.not_lt.2 h9) ((gC hp).kind (by omega))),trivial⟩,(by trivial)⟩)⟩⟩)⟩⟩⟩) (fun h7 h8=>iL (fun h9=>(by rw [BI (show x_3=_ by omega) (by omega)])) (fun h9=>(by rw [u7 (show x_3=_ by omega) (by omega)])))⟩)⟩)⟩)⟩
 case a|c|d=>have a:=xm (gC hp) (i:=x_0) (by omega);simp only [List.length_append,List.length_cons,List.length_nil,List.length_map,aJ];omega
 case b|g|k|n|q|v|y|a2=>omega
 case e|j|t|a1|ad|af|ap|ar=>simp only [aE,aJ] at *;omega
 case f|h|i=>have a:=xn (gC hp) (i:=x_1) (by omega);simp only [List.length_append,List.length_cons,List.length_nil,List.length_map,aJ];omega
 case l|m|o|p|r|s|u|w|x|z|a0=>have a:=Ao (gC hp) (i:=x_2) (by omega);simp only [List.length_append,List.length_cons,List.length_nil,List.length_map,aJ];omega
 case a3|a5|a6|a7|a8|a9|aa|ab|ac|ae|ah|ai|aj|ak|al|am|an|ao|aq=>have a:=Ap (gC hp) (i:=x_3) (by omega);have b:=Rs (Int.toNat (nth aO o.2.2.2.1 x_3).2.1);simp only [List.length_append,List.length_cons,List.length_nil,List.length_map,aJ];omega
 case a4|ag=>obtain ⟨a,b⟩:=(gC hp).kind (i:=x_3) (by omega);exact ⟨Int.le_trans (by decide) a,Int.lt_of_le_of_lt b (by decide)⟩
theorem Tryz.PW:bK Tryz.prog Tryz.B.eT Tryz.X 117 [aA] [.str, .int .i64] (fun o=>cB o=0) (fun x y=>y=(fun o=>kS o) x):=
 bM (X:=Tryz.X) Tryz.J3 Tryz.func117 (by kernel_rfl) (fun x=>EI x) (fun x hw hp=>PV x hw hp)
end Go.Proofs.YtgokjhhcfemnhabGreatDoor

namespace Go.Proofs.YtgokjhhcfemnhabGreatDoor
open Go.Vg Go.Mrl
def EJ (s:List UInt8):cN:=[(0,fun st=>{X:=Nat × List (List UInt8) × List UInt8,inv:=fun x=>iT 32 s x.1 x.2.1 x.2.2,bA:=fun x=>s.length - x.1,aS:=fun x=>[(5,sI x.1),(3, .s (.one (.app .str x.2.1 (aQ st 3)))),(4,sS x.2.2)],aK:=fun x=>[(aQ st 3, .tok .str x.2.1)],aX:=[0,2],eD:=[aQ st 3]})]
theorem PX (s:List UInt8) (hw:eE [.str] s) (hp:(fun s=>s.length<=1000000) s):(cM Tryz.B [] Tryz.f67 (EJ s) [.str] [.slice .str] (fun x y=>y=(fun s=>parts 32 s) x) s).holds:=by
 refine holds_of (p:=
  let za:=Nat × List (List UInt8) × List UInt8
  let zb:=List.length s
  let zc:=fun (x_0:Nat × List (List UInt8) × List UInt8)=>(↑x_0.1:Int)
  let zd:=fun (x_0:Nat × List (List UInt8) × List UInt8)=>x_0.2.1=x_0.2.1/\List.length x_0.2.1 + List.length [x_0.2.2]<=(1000000000:Nat)
  let ze:=aE (1:Int)
  let zf:=fun (x_0:Nat × List (List UInt8) × List UInt8)=>zc x_0 + (1:Int)
  let zg:=fun (x_0:Nat × List (List UInt8) × List UInt8)=>x_0.2.1++[x_0.2.2]
  let zh:=@List.nil (List UInt8) = @List.nil (List UInt8)/\True
  let zi:=fun (x_0:Nat × List (List UInt8) × List UInt8)=>List.drop x_0.1 (List.take (Int.toNat (zf x_0)) s)
  (∃(x:za),iT (32:UInt8) s (Prod.fst x) (Prod.snd x).1 (Prod.snd x).2/\((0:Int)=(↑(Prod.fst x):Int)/\@List.nil (List UInt8)=(Prod.snd x).1/\@List.nil UInt8=(Prod.snd x).2/\True)/\@List.nil (List UInt8)=(Prod.snd x).1/\True)/\(∀x_0:Nat × List (List UInt8) × List UInt8,((iT (32:UInt8) s x_0.1 x_0.2.1 x_0.2.2)->((zb<=aJ)->(((decide (zc x_0 < (↑zb:Int)))=true->((0:Int)<=zc x_0/\zc x_0 < (↑zb:Int))/\((((↑(UInt8.toNat (cF s x_0.1)):Int) == (32:Int))=true->(zd x_0)/\((aE (zc x_0))->((ze)->(aE (zf x_0))/\(∃(x':za),iT (32:UInt8) s (Prod.fst x') (Prod.snd x').1 (Prod.snd x').2/\zb - Prod.fst x' < zb - x_0.1/\(zf x_0=(↑(Prod.fst x'):Int)/\zg x_0=(Prod.snd x').1/\@List.nil UInt8=(Prod.snd x').2/\True)/\zg x_0=(Prod.snd x').1/\zh))))/\(((↑(UInt8.toNat (cF s x_0.1)):Int) == (32:Int))=false->((aE (zc x_0))->((ze)->(aE (zf x_0))/\((0:Int)<=zc x_0/\zc x_0<=zf x_0/\zf x_0<=(↑zb:Int))/\(List.length x_0.2.2 + List.length (zi x_0)<=aJ)/\((aE (zc x_0))->((ze)->(aE (zf x_0))/\(∃(x':za),iT (32:UInt8) s (Prod.fst x') (Prod.snd x').1 (Prod.snd x').2/\zb - Prod.fst x' < zb - x_0.1/\(zf x_0=(↑(Prod.fst x'):Int)/\x_0.2.1=(Prod.snd x').1/\x_0.2.2++zi x_0=(Prod.snd x').2/\True)/\x_0.2.1=(Prod.snd x').1/\zh))))))))/\((decide (zc x_0 < (↑zb:Int)))=false->(zd x_0)/\(zg x_0=parts (32:UInt8) s))))))) (by kernel_rfl) ?_
 dsimp -iota -proj -eta only
 refine ⟨(⟨(0,[],[]),iT.zero _ _,⟨rfl,rfl,rfl,trivial⟩,rfl,trivial⟩),fun x_0 q_0 h0=>iL (fun h1=>⟨?a,iQ (fun h2=>⟨?b,fun h3 h4=>⟨?c,(by exact ⟨(x_0.1 + 1,_,_),q_0.cut (by omega) (Lf (n:=32) h2 rfl),by simp only;omega,⟨by simp only;omega,rfl,rfl,trivial⟩,rfl,(by trivial)⟩)⟩⟩) (fun h2 h3 h4=>⟨?d,?e,(by have:=q_0.lx;have:=q_0.le;rw [BR (by omega)];simp only [List.length_singleton,aJ];omega),fun h5 h6=>⟨?f,(by rw [BR (by omega)];exact ⟨(x_0.1 + 1,x_0.2.1,x_0.2.2++[cF s x_0.1]),q_0.more (by omega) (Lg (n:=32) h2 rfl),by simp only;omega,⟨by simp only;omega,rfl,rfl,trivial⟩,rfl,(by trivial)⟩)⟩⟩)⟩) (fun h1=>⟨?g,(q_0.done (by omega))⟩)⟩
 case a|e=>omega
 case b|g=>have:=q_0.len;have:=q_0.le;exact ⟨rfl,by simp only [List.length_singleton];omega⟩
 case c|d|f=>simp only [aE,aJ] at *;omega
theorem Tryz.EK:bK Tryz.prog Tryz.B.eT Tryz.X 67 [.str] [.slice .str] (fun s=>s.length<=1000000) (fun x y=>y=(fun s=>parts 32 s) x):=
 bM (X:=Tryz.X) (bW Tryz.bX) Tryz.func67 (by kernel_rfl) (fun x=>EJ x) (fun x hw hp=>PX x hw hp)
def EL (s:List UInt8):cN:=[(0,fun st=>{X:=Nat × List (List UInt8) × Nat,inv:=fun x=>iU 10 s x.1 x.2.1 x.2.2,bA:=fun x=>s.length - x.1,aS:=fun x=>[(6,sI x.1),(4, .s (.one (.app .str x.2.1 (aQ st 4)))),(5,sI x.2.2)],aK:=fun x=>[(aQ st 4, .tok .str x.2.1)],aX:=[0,2,3],eD:=[aQ st 4]})]
theorem PY (s:List UInt8) (hw:eE [.str] s) (hp:(fun s=>s.length<=1000000) s):(cM Tryz.B [] Tryz.f66 (EL s) [.str] [.slice .str, .bool] (fun x y=>y=(fun s=>(eM s,pj s)) x) s).holds:=by
 refine holds_of (p:=
  let za:=Nat × List (List UInt8) × Nat
  let zb:=List.length s
  let zc:=fun (x_0:Nat × List (List UInt8) × Nat)=>(↑x_0.1:Int)
  let zd:=(↑zb:Int)
  let ze:=fun (x_0:Nat × List (List UInt8) × Nat)=>(↑x_0.2.2:Int)
  let zf:=fun (x_0:Nat × List (List UInt8) × Nat)=>[List.drop x_0.2.2 (List.take x_0.1 s)]
  let zg:=aE (1:Int)
  let zh:=fun (x_0:Nat × List (List UInt8) × Nat)=>zc x_0 + (1:Int)
  let zi:=@List.nil (List UInt8) = @List.nil (List UInt8)/\True
  (∃(x:za),iU (10:UInt8) s (Prod.fst x) (Prod.snd x).1 (Prod.snd x).2/\((0:Int)=(↑(Prod.fst x):Int)/\@List.nil (List UInt8)=(Prod.snd x).1/\(0:Int)=(↑(Prod.snd x).2:Int)/\True)/\@List.nil (List UInt8)=(Prod.snd x).1/\True)/\(∀x_0:Nat × List (List UInt8) × Nat,((iU (10:UInt8) s x_0.1 x_0.2.1 x_0.2.2)->((zb<=aJ)->(((decide (zc x_0 < zd))=true->((0:Int)<=zc x_0/\zc x_0 < zd)/\((((↑(UInt8.toNat (cF s x_0.1)):Int) == (10:Int))=true->((0:Int)<=ze x_0/\ze x_0<=zc x_0/\zc x_0<=zd)/\(x_0.2.1=x_0.2.1/\List.length x_0.2.1 + List.length (zf x_0)<=(1000000000:Nat))/\((aE (zc x_0))->((zg)->(aE (zh x_0))/\((aE (zc x_0))->((zg)->(aE (zh x_0))/\(∃(x':za),iU (10:UInt8) s (Prod.fst x') (Prod.snd x').1 (Prod.snd x').2/\zb - Prod.fst x' < zb - x_0.1/\(zh x_0=(↑(Prod.fst x'):Int)/\x_0.2.1++zf x_0=(Prod.snd x').1/\zh x_0=(↑(Prod.snd x').2:Int)/\True)/\x_0.2.1++zf x_0=(Prod.snd x').1/\zi))))))/\(((↑(UInt8.toNat (cF s x_0.1)):Int) == (10:Int))=false->((aE (zc x_0))->((zg)->(aE (zh x_0))/\(∃(x':za),iU (10:UInt8) s (Prod.fst x') (Prod.snd x').1 (Prod.snd x').2/\zb - Prod.fst x' < zb - x_0.1/\(zh x_0=(↑(Prod.fst x'):Int)/\x_0.2.1=(Prod.snd x').1/\ze x_0=(↑(Prod.snd x').2:Int)/\True)/\x_0.2.1=(Prod.snd x').1/\zi))))))/\((decide (zc x_0 < zd))=false->((zb<=aJ)->((x_0.2.1,ze x_0 == zd)=(eM s,pj s))))))))) (by kernel_rfl) ?_
 dsimp -iota -proj -eta only
 refine ⟨(⟨(0,[],0),iU.zero _ _,⟨rfl,rfl,rfl,trivial⟩,rfl,trivial⟩),fun x_0 q_0 h0=>iL (fun h1=>⟨(by omega),iQ (fun h2=>⟨(by have:=q_0.fi;omega),(by have:=q_0.len;have:=q_0.le;exact ⟨rfl,by simp only [List.length_singleton];omega⟩),fun h3 h4=>⟨?a,fun h5 h6=>⟨?b,(by exact ⟨(x_0.1 + 1,_,x_0.1 + 1),q_0.cut (by omega) (Lf (n:=10) h2 rfl),by simp only;omega,⟨by simp only;omega,rfl,by simp only;omega,trivial⟩,rfl,(by trivial)⟩)⟩⟩⟩) (fun h2 h3 h4=>⟨?c,(by exact ⟨(x_0.1 + 1,x_0.2.1,x_0.2.2),q_0.more (by omega) (Lg (n:=10) h2 rfl),by simp only;omega,⟨by simp only;omega,rfl,rfl,trivial⟩,rfl,(by trivial)⟩)⟩)⟩) (fun h1 h2=>(by rw [show (eM s,pj s)=qw s from rfl,<-q_0.done (by omega)];congr 1;rw [Bool.eq_iff_iff];simp;omega))⟩
 case a|b|c=>simp only [aE,aJ] at *;omega
theorem Tryz.EM:bK Tryz.prog Tryz.B.eT Tryz.X 66 [.str] [.slice .str, .bool] (fun s=>s.length<=1000000) (fun x y=>y=(fun s=>(eM s,pj s)) x):=
 bM (X:=Tryz.X) (bW Tryz.bX) Tryz.func66 (by kernel_rfl) (fun x=>EL x) (fun x hw hp=>PY x hw hp)
def Lz (s:List UInt8):cN:=[(0,fun st=>{X:=Nat,inv:=fun i=>i<=(dL s).length/\∀j,j < i->jx (cF (dL s) j)=true,bA:=fun i=>(dL s).length - i,aS:=fun i=>[(6,sI i),(5,sI (kA ((dL s).take i)))],aX:=[0,4]})]
theorem Np (s:List UInt8) (hw:eE [.str] s):(cM Tryz.B [] Tryz.f68 (Lz s) [.str] [.int .i64, .bool] (fun x y=>y=(fun s=>(cJ s,fW s)) x) s).holds:=by
 refine holds_of (p:=
  let za:=List.length s
  let zb:=za<=aJ
  let zc:=(↑za:Int)
  let zd:=(0:Int)<=(0:Int)
  let ze:=zd/\(0:Int) < zc
  let zf:=(↑(UInt8.toNat (cF s (0:Nat))):Int)
  let zg:=List.drop (1:Nat) (List.take za s)
  let zh:=List.length zg<=aJ
  let zi:=(↑(List.length zg):Int)
  let zj:=(cJ s,fW s)
  let zk:=((0:Int),false)=zj
  let zl:=decide (zc > (1:Int))
  let zm:=dL s
  let zn:=List.length zm
  let zo:=∃(x:Nat),(x<=zn/\∀(j:Nat),j < x->jx (cF zm j)=true)/\((0:Int)=(↑x:Int)/\(0:Int)=(↑(kA (List.take x zm)):Int)/\True)/\True
  let zp:=fun (x_0:Nat)=>x_0<=zn/\∀(j:Nat),j < x_0->jx (cF zm j)=true
  let zq:=fun (x_0:Nat)=>(0:Int)<=(↑x_0:Int)/\(↑x_0:Int) < zi
  let zr:=fun (x_0:Nat)=>(↑(UInt8.toNat (cF zg x_0)):Int)
  let zs:=fun (x_0:Nat)=>(↑(kA (List.take x_0 zm)):Int)
  let zt:=fun (x_1:Int) (x_2:Int) (x_0:Nat)=>((aE x_1)->((aE x_2)->(aE (x_1 + x_2))/\((aE (↑x_0:Int))->((aE (1:Int))->(aE ((↑x_0:Int) + (1:Int)))/\(∃(x':Nat),(x'<=zn/\∀(j:Nat),j < x'->jx (cF zm j)=true)/\zn - x' < zn - x_0/\((↑x_0:Int) + (1:Int)=(↑x':Int)/\x_1 + x_2=(↑(kA (List.take x' zm)):Int)/\True)/\True)))))
  let zu:=fun (x_0:Nat)=>((aE (0:Int))->((aE (zs x_0))->(aE ((0:Int) - zs x_0))/\(((0:Int) - zs x_0,true)=zj)))
  let zv:=(zo)/\(∀x_0:Nat,((zp x_0)->((zh)->(((decide ((↑x_0:Int) < zi))=true->(zq x_0)/\(((decide (zr x_0 < (48:Int)))=true->(zk))/\((decide (zr x_0 < (48:Int)))=false->(zq x_0)/\(((decide (zr x_0 > (57:Int)))=true->(zk))/\((decide (zr x_0 > (57:Int)))=false->(∀x_1:Int,((x_1=(10:Int) * zs x_0)->((aE (10:Int))->((aE (zs x_0))->(aE x_1)/\(zq x_0)/\(∀x_2:Int,((x_2=IntKind.wrap IntKind.u8 (zr x_0 - (48:Int)))->(zt x_1 x_2 x_0))))))))))))/\((decide ((↑x_0:Int) < zi))=false->((zh)->((zb)->(((decide (zi < zc))=true->(zu x_0))/\((decide (zi < zc))=false->((zs x_0,true)=zj))))))))))
  let zw:=fun (x_0:Nat)=>(0:Int)<=(↑x_0:Int)/\(↑x_0:Int) < zc
  let zx:=fun (x_0:Nat)=>(↑(UInt8.toNat (cF s x_0)):Int)
  let zy:=(zo)/\(∀x_0:Nat,((zp x_0)->((zb)->(((decide ((↑x_0:Int) < zc))=true->(zw x_0)/\(((decide (zx x_0 < (48:Int)))=true->(zk))/\((decide (zx x_0 < (48:Int)))=false->(zw x_0)/\(((decide (zx x_0 > (57:Int)))=true->(zk))/\((decide (zx x_0 > (57:Int)))=false->(∀x_1:Int,((x_1=(10:Int) * zs x_0)->((aE (10:Int))->((aE (zs x_0))->(aE x_1)/\(zw x_0)/\(∀x_2:Int,((x_2=IntKind.wrap IntKind.u8 (zx x_0 - (48:Int)))->(zt x_1 x_2 x_0))))))))))))/\((decide ((↑x_0:Int) < zc))=false->((zb)->((zb)->(((decide (zc < zc))=true->(zu x_0))/\((decide (zc < zc))=false->((zs x_0,true)=zj))))))))))
  let zz:=((zb)->(((decide (zc < (1:Int)))=true->(zk))/\((decide (zc < (1:Int)))=false->((zb)->(((decide (zc > (18:Int)))=true->(zk))/\((decide (zc > (18:Int)))=false->(ze)/\(((zf == (48:Int))=true->((zb)->(((zl)=true->(zk))/\((zl)=false->(zy)))))/\((zf == (48:Int))=false->(zy)))))))))
  ((zb)->(((decide (zc > (0:Int)))=true->(ze)/\(((zf == (45:Int))=true->((0:Int)<=(1:Int)/\(1:Int)<=zc/\zc<=zc)/\((zh)->(((decide (zi < (1:Int)))=true->(zk))/\((decide (zi < (1:Int)))=false->((zh)->(((decide (zi > (18:Int)))=true->(zk))/\((decide (zi > (18:Int)))=false->(zd/\(0:Int) < zi)/\((((↑(UInt8.toNat (cF zg (0:Nat))):Int) == (48:Int))=true->((zb)->(((zl)=true->(zk))/\((zl)=false->(zv)))))/\(((↑(UInt8.toNat (cF zg (0:Nat))):Int) == (48:Int))=false->(zv))))))))))/\((zf == (45:Int))=false->(zz))))/\((decide (zc > (0:Int)))=false->(zz))))) (by kernel_rfl) ?_
 dsimp -iota -proj -eta only
 refine fun h0=>iL (fun h1=>⟨?a,iQ (fun h2=>⟨?b,fun h3=>iL (fun h4 => ?c) (fun h4 h5=>iL (fun h6 => ?d) (fun h6=>⟨?e,iQ (fun h7 h8=>iL (fun h9 => ?f) (fun h9=>⟨?g,fun x_0 q_0 h10=>iL (fun h11=>⟨?h,iL (fun h12 => ?i) (fun h12=>⟨?j,iL (fun h13 => ?k) (fun h13 x_1 q_1 h14 h15=>⟨?l,?m,fun x_2 q_2 h16 h17=>⟨?n,fun h18 h19=>⟨?o,?p⟩⟩⟩)⟩)⟩) (fun h11 h12 h13=>iL (fun h14 h15 h16=>⟨?q,?r⟩) (fun h14 => ?s))⟩)) (fun h7=>⟨?t,fun x_0 q_0 h8=>iL (fun h9=>⟨?u,iL (fun h10 => ?v) (fun h10=>⟨?w,iL (fun h11 => ?x) (fun h11 x_1 q_1 h12 h13=>⟨?y,?z,fun x_2 q_2 h14 h15=>⟨?a0,fun h16 h17=>⟨?a1,?a2⟩⟩⟩)⟩)⟩) (fun h9 h10 h11=>iL (fun h12 h13 h14=>⟨?a3,?a4⟩) (fun h12 => ?a5))⟩)⟩))⟩) (fun h2 h3=>iL (fun h4 => ?a6) (fun h4 h5=>iL (fun h6 => ?a7) (fun h6=>⟨?a8,iQ (fun h7 h8=>iL (fun h9 => ?a9) (fun h9=>⟨?aa,fun x_0 q_0 h10=>iL (fun h11=>⟨?ab,iL (fun h12 => ?ac) (fun h12=>⟨?ad,iL (fun h13 => ?ae) (fun h13 x_1 q_1 h14 h15=>⟨?af,?ag,fun x_2 q_2 h16 h17=>⟨?ah,fun h18 h19=>⟨?ai,?aj⟩⟩⟩)⟩)⟩) (fun h11 h12 h13=>iL (fun h14 h15 h16=>⟨?ak,?al⟩) (fun h14 => ?am))⟩)) (fun h7=>⟨?an,fun x_0 q_0 h8=>iL (fun h9=>⟨?ao,iL (fun h10 => ?ap) (fun h10=>⟨?aq,iL (fun h11 => ?ar) (fun h11 x_1 q_1 h12 h13=>⟨?au,?av,fun x_2 q_2 h14 h15=>⟨?aw,fun h16 h17=>⟨?ax,?ay⟩⟩⟩)⟩)⟩) (fun h9 h10 h11=>iL (fun h12 h13 h14=>⟨?az,?b0⟩) (fun h12 => ?b1))⟩)⟩)))⟩) (fun h1 h2=>iL (fun h3 => ?b2) (fun h3 h4=>iL (fun h5 => ?b3) (fun h5=>⟨?b4,iQ (fun h6 h7=>iL (fun h8 => ?b5) (fun h8=>⟨?b6,fun x_0 q_0 h9=>iL (fun h10=>⟨?b7,iL (fun h11 => ?b8) (fun h11=>⟨?b9,iL (fun h12 => ?ba) (fun h12 x_1 q_1 h13 h14=>⟨?bb,?bc,fun x_2 q_2 h15 h16=>⟨?bd,fun h17 h18=>⟨?be,?bf⟩⟩⟩)⟩)⟩) (fun h10 h11 h12=>iL (fun h13 h14 h15=>⟨?bg,?bh⟩) (fun h13 => ?bi))⟩)) (fun h6=>⟨?bj,fun x_0 q_0 h7=>iL (fun h8=>⟨?bk,iL (fun h9 => ?bl) (fun h9=>⟨?bm,iL (fun h10 => ?bn) (fun h10 x_1 q_1 h11 h12=>⟨?bo,?bp,fun x_2 q_2 h13 h14=>⟨?bq,fun h15 h16=>⟨?br,?bs⟩⟩⟩)⟩)⟩) (fun h8 h9 h10=>iL (fun h11 h12 h13=>⟨?bt,?bu⟩) (fun h11 => ?bv))⟩)⟩)))
 case a|e|a8|b4=>trivial
 case b|h|j|m|u|w|z|ab|ad|ag|ao|aq|av|b7|b9|bc|bk|bm|bp=>omega
 case c|d|f|i|k|v|x|a6|a7|a9|ac|ae|ap|ar|b2|b3|b5|b8|ba|bl|bn=>(first | have hm:=BO h1 h2 | have hm:=BP h2 | have hm:=BQ h1);first | exact Rv hm (by omega) | exact O8 hm (by omega) (by assumption) (by omega) | exact Rw hm (i:=x_0) (by omega) (by omega)
 case g|t|aa|an|b6|bj=>exact ⟨0,⟨by omega,fun j hj=>by omega⟩,⟨rfl,rfl,trivial⟩,trivial⟩
 case l|y|af|au|bb|bo=>(first | have hm:=BO h1 h2 | have hm:=BP h2 | have hm:=BQ h1);have hi:x_0 < (dL s).length:=(by rw [hm];omega);have hs:=yV (s:=dL s) (i:=x_0) hi (by rw [hm];omega) q_0.2;simp only [aE];omega
 case n|a0|ah|aw|bd|bq=>(first | have hm:=BO h1 h2 | have hm:=BP h2 | have hm:=BQ h1);have hi:x_0 < (dL s).length:=(by rw [hm];omega);have hs:=yV (s:=dL s) (i:=x_0) hi (by rw [hm];omega) q_0.2;have hn:=Hl hm (i:=x_0) (by omega) (by assumption) (by assumption) q_1 q_2;simp only [aE];omega
 case o|q|a1|a3|ai|ak|ax|az|be|bg|br|bt=>simp only [aE] at *;omega
 case p|a2|aj|ay|bf|bs=>
  (first | have hm:=BO h1 h2 | have hm:=BP h2 | have hm:=BQ h1)
  have hi:x_0 < (dL s).length:=(by rw [hm];omega)
  exact ⟨x_0 + 1,⟨by omega,jA q_0.2 (by rw [hm];exact Rx (by assumption) (by assumption))⟩,by omega,⟨by omega,(Hl hm (i:=x_0) (by omega) (by assumption) (by assumption) q_1 q_2).1,trivial⟩,(by trivial)⟩
 case r|s|a4|a5|al|am|b0|b1|bh|bi|bu|bv=>(first | have hm:=BO h1 h2 | have hm:=BP h2 | have hm:=BQ h1);first | exact Ry hm (by omega) (by omega) (by first | (intro;omega) | (intro h;exact absurd h (by assumption))) (i:=x_0) (by omega) q_0.2 (by omega) | exact Rz hm (by omega) (by omega) (by first | (intro;omega) | (intro h;exact absurd h (by assumption))) (i:=x_0) (by omega) q_0.2 (by omega)
theorem Tryz.Co:bK Tryz.prog Tryz.B.eT Tryz.X 68 [.str] [.int .i64, .bool] (fun _=>True) (fun x y=>y=(fun s=>(cJ s,fW s)) x):=
 bM (X:=Tryz.X) (bW Tryz.bX) Tryz.func68 (by kernel_rfl) (fun x=>Lz x) (fun x hw hp=>Np x hw)
end Go.Proofs.YtgokjhhcfemnhabGreatDoor

namespace Go.Proofs.YtgokjhhcfemnhabGreatDoor
open Go.Vg Go.Mrl
noncomputable def Tryz.PZ:List (FuncId × (Bool × bQ)):=[(67,(true,aL [.str] [.slice .str] (fun s=>s.length<=1000000) (fun s=>parts 32 s))),
 (66,(true,aL [.str] [.slice .str, .bool] (fun s=>s.length<=1000000) (fun s=>(eM s,pj s)))),
 (68,(true,aL [.str] [.int .i64, .bool] (fun _=>True) (fun s=>(cJ s,fW s)))),
 (116,(true,aL [aA] [.int .i64] (fun _=>True) (fun o=>cB o))),
 (117,(true,aL [aA] [.str, .int .i64] (fun o=>cB o=0) (fun o=>kS o)))]
theorem Tryz.Sa:bT Tryz.prog Tryz.B Tryz.X Tryz.PZ:=
 aP (aC Tryz.EK) (aP (aC Tryz.EM) (aP (aC Tryz.Co) (aP (aC Tryz.PU) (aP (aC Tryz.PW) (bW Tryz.bX)))))
def P0 (s:List UInt8):cN:=[
 (0,fun st=>{X:=Nat × D aA,inv:=fun x=>ld (eM s) x.1 x.2,bA:=fun x=>(eM s).length - x.1,aS:=fun x=>[(7,sI x.1)],aX:=[0,2,4,6],aK:=fun x=>[(aQ st 6, .cells 148 [.app .str x.2.1 (eL st (aQ st 6) 0), .app (.int .i64) x.2.2.1 (eL st (aQ st 6) 1), .app aN x.2.2.2.1 (eL st (aQ st 6) 2), .app aO x.2.2.2.2.1 (eL st (aQ st 6) 3)]),(eL st (aQ st 6) 0, .tok .str x.2.1),(eL st (aQ st 6) 1, .tok (.int .i64) x.2.2.1),(eL st (aQ st 6) 2, .tok aN x.2.2.2.1),(eL st (aQ st 6) 3, .tok aO x.2.2.2.2.1)],eD:=[aQ st 6,eL st (aQ st 6) 0,eL st (aQ st 6) 1,eL st (aQ st 6) 2,eL st (aQ st 6) 3]}),
 (300010,fun st=>{X:=List (List UInt8),inv:=fun w=>w=parts 32 (nth .str (eM s) (Int.toNat (aZ (.int .i64) st 7))),bA:=fun _=>0,aS:=fun w=>[(8,sD (.slice .str) w)],aX:=[0,2,3,4,6,7,29,30,31,32]}),
 (400013,fun st=>{X:=List (List UInt8),inv:=fun w=>∀o:D aA,kv o (nth .str (eM s) (Int.toNat (aZ (.int .i64) st 7)))=il o (nth .str (aZ (.slice .str) st 8) 0 == nq) w,bA:=fun _=>0,aS:=fun w=>[(8,sD (.slice .str) w)],aX:=[0,2,3,4,6,7,9,29,30,31,32,35,36,37,38,39,40,41,42,43,44]}),
 (2,fun st=>{X:=Nat,inv:=fun k=>1<=k/\k<=3/\(k=1\/k<=List.length (aZ (.slice .str) st 8)),bA:=fun k=>3 - k,aS:=fun k=>[(11,sI k),(10, .s (.one (.app (.int .i64) (eB (aZ (.slice .str) st 8) k) (aQ st 10))))],aK:=fun k=>[(aQ st 10, .tok (.int .i64) (eB (aZ (.slice .str) st 8) k))],aX:=[0,2,3,4,6,7,8,9,29,30,31,32,35,36,37,38,39,40,41,42,43,44,45,46],eD:=[aQ st 10]}),
 (300016,fun st=>{X:=Bool,inv:=fun c=>c=true ↔ ((aZ (.int .i64) st 11) < List.length (aZ (.slice .str) st 8)/\(aZ (.int .i64) st 11) < 3),bA:=fun _=>0,aS:=fun c=>[(54,sB c)],aX:=[0,2,3,4,6,7,8,9,10,11,29,30,31,32,35,36,37,38,39,40,41,42,43,44,45,46]}),
 (300023,fun st=>{X:=Bool,inv:=fun c=>c=true ↔ (List.length (aZ (.slice .str) st 8)=2/\nth .str (aZ (.slice .str) st 8) 0=gD),bA:=fun _=>0,aS:=fun c=>[(72,sB c)],aX:=[0,2,3,4,6,7,8,9,10,11,12,13,29,30,31,32,35,36,37,38,39,40,41,42,43,44,45,46,47,48,49,50,51,52,53,54,55,56,57,58,59,60,61,62,63,64,65,66,67,68,69,70]}),
 (300025,fun st=>{X:=Bool,inv:=fun c=>c=true ↔ (List.length (aZ (.slice .str) st 8)=2/\nth .str (aZ (.slice .str) st 8) 0=fZ),bA:=fun _=>0,aS:=fun c=>[(90,sB c)],aX:=[0,2,3,4,6,7,8,9,10,11,12,13,29,30,31,32,35,36,37,38,39,40,41,42,43,44,45,46,47,48,49,50,51,52,53,54,55,56,57,58,59,60,61,62,63,64,65,66,67,68,69,70,72,73,74,75,76,77,78,79,80,81,82,83,84,85,86,87,88,89]}),
 (300027,fun st=>{X:=Bool,inv:=fun c=>c=true ↔ (List.length (aZ (.slice .str) st 8)=3/\nth .str (aZ (.slice .str) st 8) 0=eR),bA:=fun _=>0,aS:=fun c=>[(108,sB c)],aX:=[0,2,3,4,6,7,8,9,10,11,12,13,29,30,31,32,35,36,37,38,39,40,41,42,43,44,45,46,47,48,49,50,51,52,53,54,55,56,57,58,59,60,61,62,63,64,65,66,67,68,69,70,72,73,74,75,76,77,78,79,80,81,82,83,84,85,86,87,88,89,90,91,92,93,94,95,96,97,98,99,100,101,102,103,104,105,106,107]}),
 (300029,fun st=>{X:=Bool,inv:=fun c=>c=true ↔ (List.length (aZ (.slice .str) st 8)=3/\nth .str (aZ (.slice .str) st 8) 0=je),bA:=fun _=>0,aS:=fun c=>[(131,sB c)],aX:=[0,2,3,4,6,7,8,9,10,11,12,13,29,30,31,32,35,36,37,38,39,40,41,42,43,44,45,46,47,48,49,50,51,52,53,54,55,56,57,58,59,60,61,62,63,64,65,66,67,68,69,70,72,73,74,75,76,77,78,79,80,81,82,83,84,85,86,87,88,89,90,91,92,93,94,95,96,97,98,99,100,101,102,103,104,105,106,107,108,109,110,111,112,113,114,115,116,117,118,119,120,121,122,123,124,125,126,127,128,129,130]}),
 (300031,fun st=>{X:=Bool,inv:=fun c=>c=true ↔ (List.length (aZ (.slice .str) st 8)=4/\nth .str (aZ (.slice .str) st 8) 0=gQ),bA:=fun _=>0,aS:=fun c=>[(154,sB c)],aX:=[0,2,3,4,6,7,8,9,10,11,12,13,29,30,31,32,35,36,37,38,39,40,41,42,43,44,45,46,47,48,49,50,51,52,53,54,55,56,57,58,59,60,61,62,63,64,65,66,67,68,69,70,72,73,74,75,76,77,78,79,80,81,82,83,84,85,86,87,88,89,90,91,92,93,94,95,96,97,98,99,100,101,102,103,104,105,106,107,108,109,110,111,112,113,114,115,116,117,118,119,120,121,122,123,124,125,126,127,128,129,130,131,132,133,134,135,136,137,138,139,140,141,142,143,144,145,146,147,148,149,150,151,152,153]}),
 (300033,fun st=>{X:=Bool,inv:=fun c=>c=true ↔ (List.length (aZ (.slice .str) st 8)=4/\nth .str (aZ (.slice .str) st 8) 0=iu),bA:=fun _=>0,aS:=fun c=>[(180,sB c)],aX:=[0,2,3,4,6,7,8,9,10,11,12,13,29,30,31,32,35,36,37,38,39,40,41,42,43,44,45,46,47,48,49,50,51,52,53,54,55,56,57,58,59,60,61,62,63,64,65,66,67,68,69,70,72,73,74,75,76,77,78,79,80,81,82,83,84,85,86,87,88,89,90,91,92,93,94,95,96,97,98,99,100,101,102,103,104,105,106,107,108,109,110,111,112,113,114,115,116,117,118,119,120,121,122,123,124,125,126,127,128,129,130,131,132,133,134,135,136,137,138,139,140,141,142,143,144,145,146,147,148,149,150,151,152,153,154,155,156,157,158,159,160,161,162,163,164,165,166,167,168,169,170,171,172,173,174,175,176,177,178,179]})]
theorem H9 (s:List UInt8) (hw:eE [.str] s):(cM Tryz.B Tryz.PZ Tryz.f76 (P0 s) [.str] [aA, .int .i64] (fun x y=>y=(fun s=>bP s) x) s).holds:=by
 refine holds_of (p:=
  let za:=List.length s
  let zb:=([],[],[],[],())
  let zc:=(zb,(4:Int))=bP s
  let zd:=List UInt8
  let ze:=List zd
  let zf:=ze × List Int × List (zd × Int × Bool × Unit) × List (Int × Int × Int × zd × Bool × Unit) × Unit
  let zg:=Nat × zf
  let zh:=eM s
  let zi:=fun (x_0:Nat × List (List UInt8) × List Int × List (List UInt8 × Int × Bool × Unit) × List (Int × Int × Int × List UInt8 × Bool × Unit) × Unit)=>(↑x_0.1:Int) < (↑(List.length zh):Int)
  let zj:=fun (x_0:Nat × List (List UInt8) × List Int × List (List UInt8 × Int × Bool × Unit) × List (Int × Int × Int × List UInt8 × Bool × Unit) × Unit)=>nth Ty.str zh x_0.1
  let zk:=fun (x_0:Nat × List (List UInt8) × List Int × List (List UInt8 × Int × Bool × Unit) × List (Int × Int × Int × List UInt8 × Bool × Unit) × Unit)=>parts (32:UInt8) (zj x_0)
  let zl:=fun (x_0:Nat × List (List UInt8) × List Int × List (List UInt8 × Int × Bool × Unit) × List (Int × Int × Int × List UInt8 × Bool × Unit) × Unit)=>x_0.2.1=x_0.2.1
  let zm:=fun (x_0:Nat × List (List UInt8) × List Int × List (List UInt8 × Int × Bool × Unit) × List (Int × Int × Int × List UInt8 × Bool × Unit) × Unit)=>x_0.2.2.1
  let zn:=fun (x_0:Nat × List (List UInt8) × List Int × List (List UInt8 × Int × Bool × Unit) × List (Int × Int × Int × List UInt8 × Bool × Unit) × Unit)=>x_0.2.2.2.1
  let zo:=fun (x_0:Nat × List (List UInt8) × List Int × List (List UInt8 × Int × Bool × Unit) × List (Int × Int × Int × List UInt8 × Bool × Unit) × Unit)=>x_0.2.2.2.2.1
  let zp:=fun (x_0:Nat × List (List UInt8) × List Int × List (List UInt8 × Int × Bool × Unit) × List (Int × Int × Int × List UInt8 × Bool × Unit) × Unit)=>zo x_0=zo x_0
  let zq:=@List.nil (Int × Int × Int × List UInt8 × Bool × Unit) = @List.nil (Int × Int × Int × List UInt8 × Bool × Unit)
  let zr:=@List.nil (List UInt8 × Int × Bool × Unit) = @List.nil (List UInt8 × Int × Bool × Unit)
  let zs:=@List.nil Int = @List.nil Int
  let zt:=@List.nil (List UInt8) = @List.nil (List UInt8)
  let zu:=zq/\zr/\zs/\zt/\(zt/\zs/\zr/\zq/\True)/\zq/\zr/\zs/\zt/\True
  let zv:=fun (x_0:Nat × List (List UInt8) × List Int × List (List UInt8 × Int × Bool × Unit) × List (Int × Int × Int × List UInt8 × Bool × Unit) × Unit)=>(zl x_0/\zm x_0=zm x_0/\zn x_0=zn x_0/\zp x_0/\True)/\zl x_0/\zm x_0=zm x_0/\zn x_0=zn x_0/\zp x_0/\zu
  let zw:=(0:Int)<=(0:Int)
  let zx:=fun (x_1:List (List UInt8))=>List.length x_1
  let zy:=fun (x_1:List (List UInt8))=>(↑(zx x_1):Int)
  let zz:=fun (x_1:List (List UInt8))=>zw/\(0:Int) < zy x_1
  let zaa:=fun (x_1:List (List UInt8))=>nth Ty.str x_1 (0:Nat)
  let zab:=fun (x_1:List (List UInt8))=>zaa x_1 == [(119:UInt8),101,97,107]
  let zac:=(0:Int)<=(1:Int)
  let zad:=fun (x_2:List (List UInt8))=>zx x_2<=aJ
  let zae:=fun (x_3:Nat) (x_2:List (List UInt8))=>(↑x_3:Int) < zy x_2/\(↑x_3:Int) < (3:Int)
  let zaf:=fun (x_2:List (List UInt8)) (x_3:Nat)=>eB x_2 x_3=eB x_2 x_3
  let zag:=fun (x_2:List (List UInt8)) (x_3:Nat) (x_0:Nat × List (List UInt8) × List Int × List (List UInt8 × Int × Bool × Unit) × List (Int × Int × Int × List UInt8 × Bool × Unit) × Unit)=>zaf x_2 x_3/\zv x_0
  let zah:=aE (1:Int)
  let zai:=fun (x_3:Nat)=>(↑x_3:Int) + (1:Int)
  let zaj:=fun (x_2:List (List UInt8))=>zx x_2=(2:Nat)/\zaa x_2=gD
  let zak:=fun (x_0:Nat × List (List UInt8) × List Int × List (List UInt8 × Int × Bool × Unit) × List (Int × Int × Int × List UInt8 × Bool × Unit) × Unit)=>aE (↑x_0.1:Int)
  let zal:=fun (x_0:Nat × List (List UInt8) × List Int × List (List UInt8 × Int × Bool × Unit) × List (Int × Int × Int × List UInt8 × Bool × Unit) × Unit)=>(↑x_0.1:Int) + (1:Int)
  let zam:=fun (x_0:Nat × List (List UInt8) × List Int × List (List UInt8 × Int × Bool × Unit) × List (Int × Int × Int × List UInt8 × Bool × Unit) × Unit)=>aE (zal x_0)
  let zan:=List.length zh
  let zao:=fun (x_0:Nat × List (List UInt8) × List Int × List (List UInt8 × Int × Bool × Unit) × List (Int × Int × Int × List UInt8 × Bool × Unit) × Unit)=>zan - x_0.1
  let zap:=fun (x_2:List (List UInt8))=>zx x_2=(2:Nat)/\zaa x_2=fZ
  let zaq:=fun (x_2:List (List UInt8)) (x_3:Nat)=>zw/\(0:Int) < (↑(List.length (eB x_2 x_3)):Int)
  let zar:=fun (x_2:List (List UInt8)) (x_3:Nat)=>nth (Ty.int IntKind.i64) (eB x_2 x_3) (0:Nat)
  let zas:=fun (x_2:List (List UInt8))=>zx x_2=(3:Nat)/\zaa x_2=eR
  let zat:=fun (x_2:List (List UInt8)) (x_3:Nat)=>zac/\(1:Int) < (↑(List.length (eB x_2 x_3)):Int)
  let zau:=fun (x_2:List (List UInt8)) (x_3:Nat)=>nth (Ty.int IntKind.i64) (eB x_2 x_3) (1:Nat)
  let zav:=fun (x_2:List (List UInt8))=>zx x_2=(3:Nat)/\zaa x_2=je
  let zaw:=fun (x_2:List (List UInt8)) (x_3:Nat) (x_1:List (List UInt8))=>[(zar x_2 x_3,(1:Int),zau x_2 x_3,@List.nil UInt8,zab x_1,())]
  let zax:=fun (x_2:List (List UInt8))=>zx x_2=(4:Nat)/\zaa x_2=gQ
  let zay:=fun (x_2:List (List UInt8))=>(0:Int)<=(3:Int)/\(3:Int) < zy x_2
  let zaz:=fun (x_2:List (List UInt8)) (x_3:Nat) (x_1:List (List UInt8))=>[(zar x_2 x_3,(2:Int),zau x_2 x_3,nth Ty.str x_2 (3:Nat),zab x_1,())]
  let zba:=fun (x_2:List (List UInt8))=>zx x_2=(4:Nat)/\zaa x_2=iu
  let zbb:=fun (x_2:List (List UInt8)) (x_3:Nat) (x_1:List (List UInt8))=>[(zar x_2 x_3,(3:Int),zau x_2 x_3,nth Ty.str x_2 (3:Nat),zab x_1,())]
  ((za<=aJ)->(((decide ((↑za:Int) > (1200:Int)))=true->((zb,(2:Int))=bP s))/\((decide ((↑za:Int) > (1200:Int)))=false->(za<=(1000000:Nat))/\(((!pj s)=true->(zc))/\((!pj s)=false->(∃(x:zg),ld zh (Prod.fst x) (Prod.snd x)/\((0:Int)=(↑(Prod.fst x):Int)/\True)/\(@List.nil (List UInt8)=(Prod.snd x).1/\@List.nil Int=(Prod.snd x).2.1/\@List.nil (List UInt8 × Int × Bool × Unit)=(Prod.snd x).2.2.1/\@List.nil (Int × Int × Int × List UInt8 × Bool × Unit)=(Prod.snd x).2.2.2.1/\True)/\@List.nil (List UInt8)=(Prod.snd x).1/\@List.nil Int=(Prod.snd x).2.1/\@List.nil (List UInt8 × Int × Bool × Unit)=(Prod.snd x).2.2.1/\@List.nil (Int × Int × Int × List UInt8 × Bool × Unit)=(Prod.snd x).2.2.2.1/\True)/\(∀x_0:Nat × List (List UInt8) × List Int × List (List UInt8 × Int × Bool × Unit) × List (Int × Int × Int × List UInt8 × Bool × Unit) × Unit,((ld zh x_0.1 x_0.2)->((List.length zh<=aJ)->(((decide (zi x_0))=true->((((0:Int)<=(↑x_0.1:Int)/\zi x_0)/\(List.length (zj x_0)<=(1000000:Nat))/\(∃(x':ze),x'=zk x_0/\(zk x_0=x'/\True)/\zv x_0))/\((∀x_1:List (List UInt8),((x_1=zk x_0)->(zz x_1)/\(((((zab x_1)=true->(zac/\(1:Int)<=zy x_1/\zy x_1<=zy x_1)/\(∃(x':ze),(∀(o:zf),kv o (zj x_0)=il o (zaa x_1 == nq) x')/\(List.drop (1:Nat) (List.take (zx x_1) x_1)=x'/\True)/\zv x_0))/\((zab x_1)=false->(∃(x':ze),(∀(o:zf),kv o (zj x_0)=il o (zaa x_1 == nq) x')/\(x_1=x'/\True)/\zv x_0))))/\((∀x_2:List (List UInt8),((∀(o:zf),kv o (zj x_0)=il o (zaa x_1 == nq) x_2)->(∃(x:Nat),((1:Nat)<=x/\x<=(3:Nat)/\(x=(1:Nat)\/x<=zx x_2))/\((1:Int)=(↑x:Int)/\@List.nil Int=eB x_2 x/\True)/\@List.nil Int=eB x_2 x/\True)/\(∀x_3:Nat,(((1:Nat)<=x_3/\x_3<=(3:Nat)/\(x_3=(1:Nat)\/x_3<=zx x_2))->((((zad x_2)->(((decide ((↑x_3:Int) < zy x_2))=true->(∃(x':Bool),(x'=true ↔ zae x_3 x_2)/\(decide ((↑x_3:Int) < (3:Int))=x'/\True)/\zag x_2 x_3 x_0))/\((decide ((↑x_3:Int) < zy x_2))=false->(∃(x':Bool),(x'=true ↔ zae x_3 x_2)/\(false=x'/\True)/\zag x_2 x_3 x_0)))))/\((∀x_4:Bool,((x_4=true ↔ zae x_3 x_2)->(((x_4)=true->((0:Int)<=(↑x_3:Int)/\(↑x_3:Int) < zy x_2)/\(True)/\(((!fW (nth Ty.str x_2 x_3))=true->(zaf x_2 x_3/\List.length (eB x_2 x_3) + List.length [(-1099511627776:Int)]<=(1000000000:Nat))/\((aE (↑x_3:Int))->((zah)->(aE (zai x_3))/\(∃(x':Nat),((1:Nat)<=x'/\x'<=(3:Nat)/\(x'=(1:Nat)\/x'<=zx x_2))/\(3:Nat) - x' < (3:Nat) - x_3/\(zai x_3=(↑x':Int)/\eB x_2 x_3++[(-1099511627776:Int)]=eB x_2 x'/\True)/\eB x_2 x_3++[(-1099511627776:Int)]=eB x_2 x'/\zv x_0))))/\((!fW (nth Ty.str x_2 x_3))=false->(zaf x_2 x_3/\List.length (eB x_2 x_3) + List.length [cJ (nth Ty.str x_2 x_3)]<=(1000000000:Nat))/\((aE (↑x_3:Int))->((zah)->(aE (zai x_3))/\(∃(x':Nat),((1:Nat)<=x'/\x'<=(3:Nat)/\(x'=(1:Nat)\/x'<=zx x_2))/\(3:Nat) - x' < (3:Nat) - x_3/\(zai x_3=(↑x':Int)/\eB x_2 x_3++[cJ (nth Ty.str x_2 x_3)]=eB x_2 x'/\True)/\eB x_2 x_3++[cJ (nth Ty.str x_2 x_3)]=eB x_2 x'/\zv x_0))))))/\((x_4)=false->((((zad x_2)->(((zy x_2 == (2:Int))=true->(zz x_2)/\(∃(x':Bool),(x'=true ↔ zaj x_2)/\((zaa x_2 == [(110:UInt8),101,101,100])=x'/\True)/\zag x_2 x_3 x_0))/\((zy x_2 == (2:Int))=false->(∃(x':Bool),(x'=true ↔ zaj x_2)/\(false=x'/\True)/\zag x_2 x_3 x_0)))))/\((∀x_5:Bool,((x_5=true ↔ zaj x_2)->(((x_5)=true->(zac/\(1:Int) < zy x_2)/\(zl x_0/\List.length x_0.2.1 + List.length [nth Ty.str x_2 (1:Nat)]<=(1000000000:Nat))/\((zak x_0)->((zah)->(zam x_0)/\(∃(x':zg),ld zh (Prod.fst x') (Prod.snd x')/\zan - Prod.fst x' < zao x_0/\(zal x_0=(↑(Prod.fst x'):Int)/\True)/\(x_0.2.1++[nth Ty.str x_2 (1:Nat)]=(Prod.snd x').1/\zm x_0=(Prod.snd x').2.1/\zn x_0=(Prod.snd x').2.2.1/\zo x_0=(Prod.snd x').2.2.2.1/\True)/\x_0.2.1++[nth Ty.str x_2 (1:Nat)]=(Prod.snd x').1/\zm x_0=(Prod.snd x').2.1/\zn x_0=(Prod.snd x').2.2.1/\zo x_0=(Prod.snd x').2.2.2.1/\zu))))/\((x_5)=false->((((zad x_2)->(((zy x_2 == (2:Int))=true->(zz x_2)/\(∃(x':Bool),(x'=true ↔ zap x_2)/\((zaa x_2 == [(119:UInt8),111,114,100])=x'/\True)/\zag x_2 x_3 x_0))/\((zy x_2 == (2:Int))=false->(∃(x':Bool),(x'=true ↔ zap x_2)/\(false=x'/\True)/\zag x_2 x_3 x_0)))))/\((∀x_6:Bool,((x_6=true ↔ zap x_2)->(((x_6)=true->(zaq x_2 x_3)/\(zm x_0=zm x_0/\List.length (zm x_0) + List.length [zar x_2 x_3]<=(1000000000:Nat))/\((zak x_0)->((zah)->(zam x_0)/\(∃(x':zg),ld zh (Prod.fst x') (Prod.snd x')/\zan - Prod.fst x' < zao x_0/\(zal x_0=(↑(Prod.fst x'):Int)/\True)/\(x_0.2.1=(Prod.snd x').1/\zm x_0++[zar x_2 x_3]=(Prod.snd x').2.1/\zn x_0=(Prod.snd x').2.2.1/\zo x_0=(Prod.snd x').2.2.2.1/\True)/\x_0.2.1=(Prod.snd x').1/\zm x_0++[zar x_2 x_3]=(Prod.snd x').2.1/\zn x_0=(Prod.snd x').2.2.1/\zo x_0=(Prod.snd x').2.2.2.1/\zu))))/\((x_6)=false->((((zad x_2)->(((zy x_2 == (3:Int))=true->(zz x_2)/\(∃(x':Bool),(x'=true ↔ zas x_2)/\((zaa x_2 == [(115:UInt8),121,109,98,111,108])=x'/\True)/\zag x_2 x_3 x_0))/\((zy x_2 == (3:Int))=false->(∃(x':Bool),(x'=true ↔ zas x_2)/\(false=x'/\True)/\zag x_2 x_3 x_0)))))/\((∀x_7:Bool,((x_7=true ↔ zas x_2)->(((x_7)=true->(zac/\(1:Int) < zy x_2)/\(zat x_2 x_3)/\(zn x_0=zn x_0/\List.length (zn x_0) + List.length [(nth Ty.str x_2 (1:Nat),zau x_2 x_3,zab x_1,())]<=(1000000000:Nat))/\((zak x_0)->((zah)->(zam x_0)/\(∃(x':zg),ld zh (Prod.fst x') (Prod.snd x')/\zan - Prod.fst x' < zao x_0/\(zal x_0=(↑(Prod.fst x'):Int)/\True)/\(x_0.2.1=(Prod.snd x').1/\zm x_0=(Prod.snd x').2.1/\zn x_0++[(nth Ty.str x_2 (1:Nat),zau x_2 x_3,zab x_1,())]=(Prod.snd x').2.2.1/\zo x_0=(Prod.snd x').2.2.2.1/\True)/\x_0.2.1=(Prod.snd x').1/\zm x_0=(Prod.snd x').2.1/\zn x_0++[(nth Ty.str x_2 (1:Nat),zau x_2 x_3,zab x_1,())]=(Prod.snd x').2.2.1/\zo x_0=(Prod.snd x').2.2.2.1/\zu))))/\((x_7)=false->((((zad x_2)->(((zy x_2 == (3:Int))=true->(zz x_2)/\(∃(x':Bool),(x'=true ↔ zav x_2)/\((zaa x_2 == [(98:UInt8),97,115,101])=x'/\True)/\zag x_2 x_3 x_0))/\((zy x_2 == (3:Int))=false->(∃(x':Bool),(x'=true ↔ zav x_2)/\(false=x'/\True)/\zag x_2 x_3 x_0)))))/\((∀x_8:Bool,((x_8=true ↔ zav x_2)->(((x_8)=true->(zaq x_2 x_3)/\(zat x_2 x_3)/\(zp x_0/\List.length (zo x_0) + List.length (zaw x_2 x_3 x_1)<=(1000000000:Nat))/\((zak x_0)->((zah)->(zam x_0)/\(∃(x':zg),ld zh (Prod.fst x') (Prod.snd x')/\zan - Prod.fst x' < zao x_0/\(zal x_0=(↑(Prod.fst x'):Int)/\True)/\(x_0.2.1=(Prod.snd x').1/\zm x_0=(Prod.snd x').2.1/\zn x_0=(Prod.snd x').2.2.1/\zo x_0++zaw x_2 x_3 x_1=(Prod.snd x').2.2.2.1/\True)/\x_0.2.1=(Prod.snd x').1/\zm x_0=(Prod.snd x').2.1/\zn x_0=(Prod.snd x').2.2.1/\zo x_0++zaw x_2 x_3 x_1=(Prod.snd x').2.2.2.1/\zu))))/\((x_8)=false->((((zad x_2)->(((zy x_2 == (4:Int))=true->(zz x_2)/\(∃(x':Bool),(x'=true ↔ zax x_2)/\((zaa x_2 == [(119:UInt8),104,111,108,101])=x'/\True)/\zag x_2 x_3 x_0))/\((zy x_2 == (4:Int))=false->(∃(x':Bool),(x'=true ↔ zax x_2)/\(false=x'/\True)/\zag x_2 x_3 x_0)))))/\((∀x_9:Bool,((x_9=true ↔ zax x_2)->(((x_9)=true->(zaq x_2 x_3)/\(zat x_2 x_3)/\(zay x_2)/\(zp x_0/\List.length (zo x_0) + List.length (zaz x_2 x_3 x_1)<=(1000000000:Nat))/\((zak x_0)->((zah)->(zam x_0)/\(∃(x':zg),ld zh (Prod.fst x') (Prod.snd x')/\zan - Prod.fst x' < zao x_0/\(zal x_0=(↑(Prod.fst x'):Int)/\True)/\(x_0.2.1=(Prod.snd x').1/\zm x_0=(Prod.snd x').2.1/\zn x_0=(Prod.snd x').2.2.1/\zo x_0++zaz x_2 x_3 x_1=(Prod.snd x').2.2.2.1/\True)/\x_0.2.1=(Prod.snd x').1/\zm x_0=(Prod.snd x').2.1/\zn x_0=(Prod.snd x').2.2.1/\zo x_0++zaz x_2 x_3 x_1=(Prod.snd x').2.2.2.1/\zu))))/\((x_9)=false->((((zad x_2)->(((zy x_2 == (4:Int))=true->(zz x_2)/\(∃(x':Bool),(x'=true ↔ zba x_2)/\((zaa x_2 == [(110:UInt8),101,97,114])=x'/\True)/\zag x_2 x_3 x_0))/\((zy x_2 == (4:Int))=false->(∃(x':Bool),(x'=true ↔ zba x_2)/\(false=x'/\True)/\zag x_2 x_3 x_0)))))/\((∀x_10:Bool,((x_10=true ↔ zba x_2)->(((x_10)=true->(zaq x_2 x_3)/\(zat x_2 x_3)/\(zay x_2)/\(zp x_0/\List.length (zo x_0) + List.length (zbb x_2 x_3 x_1)<=(1000000000:Nat))/\((zak x_0)->((zah)->(zam x_0)/\(∃(x':zg),ld zh (Prod.fst x') (Prod.snd x')/\zan - Prod.fst x' < zao x_0/\(zal x_0=(↑(Prod.fst x'):Int)/\True)/\(x_0.2.1=(Prod.snd x').1/\zm x_0=(Prod.snd x').2.1/\zn x_0=(Prod.snd x').2.2.1/\zo x_0++zbb x_2 x_3 x_1=(Prod.snd x').2.2.2.1/\True)/\x_0.2.1=(Prod.snd x').1/\zm x_0=(Prod.snd x').2.1/\zn x_0=(Prod.snd x').2.2.1/\zo x_0++zbb x_2 x_3 x_1=(Prod.snd x').2.2.2.1/\zu))))/\((x_10)=false->(zc))))))))))))))))))))))))))))))))))))))))))))))))))))))/\((decide (zi x_0))=false->(True)/\(((decide (cB x_0.2 > (0:Int)))=true->(zc))/\((decide (cB x_0.2 > (0:Int)))=false->(cB x_0.2=(0:Int))/\(((decide ((kS x_0.2).2 > (0:Int)))=true->(zc))/\((decide ((kS x_0.2).2 > (0:Int)))=false->(((!(kS x_0.2).1 == s)=true->(zc))/\((!(kS x_0.2).1 == s)=false->((x_0.2,(0:Int))=bP s)))))))))))))))))) (by kernel_rfl) ?_
 dsimp -iota -proj -eta only
 refine fun h0=>iL (fun h1=>(Pe (by omega))) (fun h1=>⟨?a,iB (fun h2=>(MQ (by omega) h2)) (fun h2=>⟨(⟨(0,bO aA),ld.zero _,⟨rfl,trivial⟩,(by trivial)⟩),fun x_0 q_0 h3=>iL (fun h4=>⟨⟨?b,(by have:=MR (s:=s) (by omega) x_0.1;omega),(⟨_,rfl,⟨rfl,trivial⟩,(by trivial)⟩)⟩,fun x_1 q_1=>⟨?c,⟨iQ (fun h5=>⟨?d,(⟨_,fun _=>Pd q_1 h5 rfl,⟨by rw [List.take_length],trivial⟩,(by trivial)⟩)⟩) (fun h5=>(⟨_,fun _=>RE q_1 h5,⟨rfl,trivial⟩,(by trivial)⟩)),fun x_2 q_2=>⟨(⟨1,⟨by omega,by omega, .inl rfl⟩,⟨rfl,rfl,trivial⟩,(by trivial)⟩),fun x_3 q_3=>⟨fun h5=>iL (fun h6=>(⟨_,eT h6,⟨rfl,trivial⟩,(by trivial)⟩)) (fun h6=>(⟨_,eF h6,⟨rfl,trivial⟩,(by trivial)⟩)),fun x_4 q_4=>⟨fun h5=>⟨?e,trivial,iB (fun h6=>⟨?f,fun h7 h8=>⟨?g,(by have hc:=q_4.1 (by assumption);exact ⟨x_3 + 1,⟨by omega,by omega, .inr (by omega)⟩,by omega,⟨by omega,Eh (by omega) h6,trivial⟩,Eh (by omega) h6,(by trivial)⟩)⟩⟩) (fun h6=>⟨?h,fun h7 h8=>⟨?i,(by have hc:=q_4.1 (by assumption);exact ⟨x_3 + 1,⟨by omega,by omega, .inr (by omega)⟩,by omega,⟨by omega,Hp (by omega) h6,trivial⟩,Hp (by omega) h6,(by trivial)⟩)⟩⟩)⟩,fun h5=>⟨fun h6=>iQ (fun h7=>⟨?j,(⟨_,jT h7 rfl,⟨rfl,trivial⟩,(by trivial)⟩)⟩) (fun h7=>(⟨_,jF h7 rfl,⟨rfl,trivial⟩,(by trivial)⟩)),fun x_5 q_5=>⟨fun h6=>⟨?k,?l,fun h7 h8=>⟨?m,(by (have hk:=vh q_3 (gR q_4 (by assumption)));(first | have hc:=q_10.1 (by assumption) | have hc:=q_9.1 (by assumption) | have hc:=q_8.1 (by assumption) | have hc:=q_7.1 (by assumption) | have hc:=q_6.1 (by assumption) | have hc:=q_5.1 (by assumption));exact ⟨(x_0.1 + 1,_),q_0.next (by omega) ((q_2 _).trans (JA (q_5.1 (by assumption)))) (oA.rI _ _),by simp only;omega,⟨by simp only;omega,trivial⟩,(by trivial)⟩)⟩⟩,fun h6=>⟨fun h7=>iQ (fun h8=>⟨?n,(⟨_,jT h8 rfl,⟨rfl,trivial⟩,(by trivial)⟩)⟩) (fun h8=>(⟨_,jF h8 rfl,⟨rfl,trivial⟩,(by trivial)⟩)),fun x_6 q_6=>⟨fun h7=>⟨?o,?p,fun h8 h9=>⟨?q,(by (have hk:=vh q_3 (gR q_4 (by assumption)));(first | have hc:=q_10.1 (by assumption) | have hc:=q_9.1 (by assumption) | have hc:=q_8.1 (by assumption) | have hc:=q_7.1 (by assumption) | have hc:=q_6.1 (by assumption) | have hc:=q_5.1 (by assumption));exact ⟨(x_0.1 + 1,_),q_0.next (by omega) ((q_2 _).trans (JB (k:=x_3) (gR q_5 (by assumption)) (q_6.1 (by assumption)) (by omega))) (oA.word _ _),by simp only;omega,⟨by simp only;omega,trivial⟩,(by trivial)⟩)⟩⟩,fun h7=>⟨fun h8=>iQ (fun h9=>⟨?r,(⟨_,jT h9 rfl,⟨rfl,trivial⟩,(by trivial)⟩)⟩) (fun h9=>(⟨_,jF h9 rfl,⟨rfl,trivial⟩,(by trivial)⟩)),fun x_7 q_7=>⟨fun h8=>⟨?s,?t,?u,fun h9 h10=>⟨?v,(by (have hk:=vh q_3 (gR q_4 (by assumption)));(first | have hc:=q_10.1 (by assumption) | have hc:=q_9.1 (by assumption) | have hc:=q_8.1 (by assumption) | have hc:=q_7.1 (by assumption) | have hc:=q_6.1 (by assumption) | have hc:=q_5.1 (by assumption));exact ⟨(x_0.1 + 1,_),q_0.next (by omega) ((q_2 _).trans (MN (k:=x_3) (q_7.1 (by assumption)) (by omega))) (oA.sym _ _),by simp only;omega,⟨by simp only;omega,trivial⟩,(by trivial)⟩)⟩⟩,fun h8=>⟨fun h9=>iQ (fun h10=>⟨?w,(⟨_,jT h10 rfl,⟨rfl,trivial⟩,(by trivial)⟩)⟩) (fun h10=>(⟨_,jF h10 rfl,⟨rfl,trivial⟩,(by trivial)⟩)),fun x_8 q_8=>⟨fun h9=>⟨?x,?y,?z,fun h10 h11=>⟨?a0,(by (have hk:=vh q_3 (gR q_4 (by assumption)));(first | have hc:=q_10.1 (by assumption) | have hc:=q_9.1 (by assumption) | have hc:=q_8.1 (by assumption) | have hc:=q_7.1 (by assumption) | have hc:=q_6.1 (by assumption) | have hc:=q_5.1 (by assumption));exact ⟨(x_0.1 + 1,_),q_0.next (by omega) ((q_2 _).trans (JC (k:=x_3) (gR q_7 (by assumption)) (q_8.1 (by assumption)) (by omega))) (oA.tie _ _),by simp only;omega,⟨by simp only;omega,trivial⟩,(by trivial)⟩)⟩⟩,fun h9=>⟨fun h10=>iQ (fun h11=>⟨?a1,(⟨_,jT h11 rfl,⟨rfl,trivial⟩,(by trivial)⟩)⟩) (fun h11=>(⟨_,jF h11 rfl,⟨rfl,trivial⟩,(by trivial)⟩)),fun x_9 q_9=>⟨fun h10=>⟨?a2,?a3,?a4,?a5,fun h11 h12=>⟨?a6,(by (have hk:=vh q_3 (gR q_4 (by assumption)));(first | have hc:=q_10.1 (by assumption) | have hc:=q_9.1 (by assumption) | have hc:=q_8.1 (by assumption) | have hc:=q_7.1 (by assumption) | have hc:=q_6.1 (by assumption) | have hc:=q_5.1 (by assumption));exact ⟨(x_0.1 + 1,_),q_0.next (by omega) ((q_2 _).trans (Hq (k:=x_3) (q_9.1 (by assumption)) (by omega))) (oA.tie _ _),by simp only;omega,⟨by simp only;omega,trivial⟩,(by trivial)⟩)⟩⟩,fun h10=>⟨fun h11=>iQ (fun h12=>⟨?a7,(⟨_,jT h12 rfl,⟨rfl,trivial⟩,(by trivial)⟩)⟩) (fun h12=>(⟨_,jF h12 rfl,⟨rfl,trivial⟩,(by trivial)⟩)),fun x_10 q_10=>⟨fun h11=>⟨?a8,?a9,?aa,?ab,fun h12 h13=>⟨?ac,(by (have hk:=vh q_3 (gR q_4 (by assumption)));(first | have hc:=q_10.1 (by assumption) | have hc:=q_9.1 (by assumption) | have hc:=q_8.1 (by assumption) | have hc:=q_7.1 (by assumption) | have hc:=q_6.1 (by assumption) | have hc:=q_5.1 (by assumption));exact ⟨(x_0.1 + 1,_),q_0.next (by omega) ((q_2 _).trans (JD (k:=x_3) (gR q_9 (by assumption)) (q_10.1 (by assumption)) (by omega))) (oA.tie _ _),by simp only;omega,⟨by simp only;omega,trivial⟩,(by trivial)⟩)⟩⟩,fun h11=>(MO (by omega) q_0 (by omega) ((q_2 _).trans (JE (gR q_5 (by assumption)) (gR q_6 (by assumption)) (gR q_7 (by assumption)) (gR q_8 (by assumption)) (gR q_9 (by assumption)) (gR q_10 (by assumption)))))⟩⟩⟩⟩⟩⟩⟩⟩⟩⟩⟩⟩⟩⟩⟩⟩⟩⟩) (fun h4=>⟨trivial,iL (fun h5=>(xv (by omega) q_0 (by omega) (.inl h5))) (fun h5=>⟨(Int.le_antisymm h5 (vQ _)),iL (fun h6=>(xv (by omega) q_0 (by omega) (.inr (.inl h6)))) (fun h6=>⟨fun h7 => ?ad,fun h7 => ?ae⟩)⟩)⟩)⟩)⟩)
 case a|b|j|n|r|w|a1|a7=>omega
 case c|d=>have:=UI q_1;omega
 case e|k|s|a4|aa=>simp_all
 case f|h|l|p|u|z|a5|ab=>have a1:=q_0.l1;have a2:=q_0.l2;have a3:=q_0.l3;have a4:=q_0.l4;have a5:=q_0.le;have a6:=RG (s:=s) (by omega);exact ⟨rfl,by simp only [List.length_singleton];first | omega | (rw [Eg];omega)⟩
 case g|i|m|q|v|a0|a6|ac=>simp only [aE,aJ] at *;omega
 case o|t|x|y|a2|a3|a8|a9=>(have hk:=vh q_3 (gR q_4 (by assumption)));(first | have hc:=q_10.1 (by assumption) | have hc:=q_9.1 (by assumption) | have hc:=q_8.1 (by assumption) | have hc:=q_7.1 (by assumption) | have hc:=q_6.1 (by assumption) | have hc:=q_5.1 (by assumption));rw [Eg];omega
 case ad=>
  simp only [bl,reduceCtorEq] at h7
  exact xv (by omega) q_0 (by omega) (.inr (.inr h7))
 case ae=>
  simp only [bl,reduceCtorEq] at h7
  exact MP (by omega) (by assumption) (by assumption) h7
theorem Tryz.xM:bK Tryz.prog Tryz.B.eT Tryz.X 76 [.str] [aA, .int .i64] (fun _=>True) (fun x y=>y=(fun s=>bP s) x):=
 bM (X:=Tryz.X) Tryz.Sa Tryz.func76 (by kernel_rfl) (fun x=>P0 x) (fun x hw hp=>H9 x hw)
end Go.Proofs.YtgokjhhcfemnhabGreatDoor

namespace Go.Proofs.YtgokjhhcfemnhabGreatDoor
open Go.Vg Go.Mrl
noncomputable def Tryz.EN:List (FuncId × (Bool × bQ)):=[(51,(false,bF Tryz.aV [.obj 0, .d .str] (fun _ _=>True) Tryz.lF)),
 (76,(true,aL [.str] [aA, .int .i64] (fun _=>True) (fun s=>bP s)))]
theorem Tryz.J4:bT Tryz.prog Tryz.B Tryz.X Tryz.EN:=
 aP (Tryz.pO) (aP (aC Tryz.xM) (bW Tryz.bX))
def Tryz.EO (s:List UInt8) (f:RS):cN:=[
 (0,fun st=>{X:=Nat × List (List UInt8) × List (D aA),inv:=fun y=>jO (bG f.1) s y.1 y.2.1 y.2.2,bA:=fun y=>7 - y.1,aS:=fun y=>[(9,sI y.1),(7, .s (.one (.app .str y.2.1 (aQ st 7)))),(8, .s (.one (.app aA y.2.2 (aQ st 8))))],aK:=fun y=>[(aQ st 7, .tok .str y.2.1),(aQ st 8, .tok aA y.2.2)],aX:=[0],eD:=[aQ st 7,aQ st 8]}),
 (2,fun st=>{X:=Nat,inv:=fun k=>k<=List.length (aZ aA st 41).1,bA:=fun k=>List.length (aZ aA st 41).1 - k,aS:=fun k=>[(14,sI k),(7, .s (.one (.app .str (eN (aZ (.slice .str) st 7) (List.take k (aZ aA st 41).1)) (aQ st 7))))],aK:=fun k=>[(aQ st 7, .tok .str (eN (aZ (.slice .str) st 7) (List.take k (aZ aA st 41).1)))],aX:=[0,4,5,6,8,9,10,12,13,19,20,21,22,25,26,27,28,29,30,31,32,33,34,35,36,37,38,39,40,41,42,43,44,45,46,47,48,49],eD:=[aQ st 7]}),
 (4,fun st=>{X:=Nat,inv:=fun j=>j<=List.length (aZ (.slice .str) st 7),bA:=fun j=>List.length (aZ (.slice .str) st 7) - j,aS:=fun j=>[(16,sI j),(15,sB (List.any (List.take j (aZ (.slice .str) st 7)) fun x=>x == (nth .str (aZ aA st 41).1 (Int.toNat (aZ (.int .i64) st 14)))))],aX:=[0,4,5,6,7,8,9,10,12,13,14,19,20,21,22,25,26,27,28,29,30,31,32,33,34,35,36,37,38,39,40,41,42,43,44,45,46,47,48,49,50,51,52,53,54]})]
noncomputable def Tryz.vA:List (Alt Tryz.aV [.obj 0, .d .str]):=[{cG:=Tryz.aV,res:=[.d (.slice .str), .d (.slice aA), .d (.int .i64)],out:=fun _ x=>x,ret:=fun a x=>((aR (bG x.1.1) a.1).1,(aR (bG x.1.1) a.1).2.1,(aR (bG x.1.1) a.1).2.2,())}]
theorem J5 (s:List UInt8) (f:RS) (hw:kn [.obj 0, .d .str] (s,())) (hp:(fun _ x=>x.1.1.length<=6) (s,()) (f,())):(fD (jV Tryz.B [18]) Tryz.EN Tryz.f100 (Tryz.EO s f) Tryz.aV [.obj 0, .d .str] Tryz.vA (s,()) (f,())).holds:=by
 refine holds_of (p:=
  let za:=List UInt8
  let zb:=Nat × List za × List (List za × List Int × List (za × Int × Bool × Unit) × List (Int × Int × Int × za × Bool × Unit) × Unit)
  let zc:=bG f.1
  let zd:=fun (x_0:Nat × List (List UInt8) × List (List (List UInt8) × List Int × List (List UInt8 × Int × Bool × Unit) × List (Int × Int × Int × List UInt8 × Bool × Unit) × Unit))=>(↑x_0.1:Int) < (↑(List.length x_0.2.1):Int)
  let ze:=fun (x_0:Nat × List (List UInt8) × List (List (List UInt8) × List Int × List (List UInt8 × Int × Bool × Unit) × List (Int × Int × Int × List UInt8 × Bool × Unit) × Unit))=>bG f.1 (nth Ty.str x_0.2.1 x_0.1)
  let zf:=(f,())=(f,())
  let zg:=aR (bG f.1) s
  let zh:=(zg.1,zg.2.1,zg.2.2,())
  let zi:=fun (x_0:Nat × List (List UInt8) × List (List (List UInt8) × List Int × List (List UInt8 × Int × Bool × Unit) × List (Int × Int × Int × List UInt8 × Bool × Unit) × Unit))=>(bP (ze x_0).1).1.1
  let zj:=fun (x_0:Nat × List (List UInt8) × List (List (List UInt8) × List Int × List (List UInt8 × Int × Bool × Unit) × List (Int × Int × Int × List UInt8 × Bool × Unit) × Unit))=>List.length (zi x_0)
  let zk:=fun (x_0:Nat × List (List UInt8) × List (List (List UInt8) × List Int × List (List UInt8 × Int × Bool × Unit) × List (Int × Int × Int × List UInt8 × Bool × Unit) × Unit)) (x_1:Nat)=>eN x_0.2.1 (List.take x_1 (zi x_0))
  let zl:=fun (x_0:Nat × List (List UInt8) × List (List (List UInt8) × List Int × List (List UInt8 × Int × Bool × Unit) × List (Int × Int × Int × List UInt8 × Bool × Unit) × Unit)) (x_1:Nat)=>List.length (zk x_0 x_1)
  let zm:=fun (x_0:Nat × List (List UInt8) × List (List (List UInt8) × List Int × List (List UInt8 × Int × Bool × Unit) × List (Int × Int × Int × List UInt8 × Bool × Unit) × Unit)) (x_1:Nat) (x:List UInt8)=>x == nth Ty.str (zi x_0) x_1
  let zn:=fun (x_2:Nat)=>aE (↑x_2:Int)
  let zo:=aE (1:Int)
  let zp:=fun (x_2:Nat)=>(↑x_2:Int) + (1:Int)
  let zq:=@List.nil (List UInt8) = @List.nil (List UInt8)
  let zr:=f.1=f.1/\f.2.1=f.2.1/\True
  let zs:=fun (x_0:Nat × List (List UInt8) × List (List (List UInt8) × List Int × List (List UInt8 × Int × Bool × Unit) × List (Int × Int × Int × List UInt8 × Bool × Unit) × Unit))=>x_0.2.2++[(bP (ze x_0).1).1]
  let zt:=@List.nil (List (List UInt8) × List Int × List (List UInt8 × Int × Bool × Unit) × List (Int × Int × Int × List UInt8 × Bool × Unit) × Unit) = @List.nil (List (List UInt8) × List Int × List (List UInt8 × Int × Bool × Unit) × List (Int × Int × Int × List UInt8 × Bool × Unit) × Unit)
  let zu:=fun (x_0:Nat × List (List UInt8) × List (List (List UInt8) × List Int × List (List UInt8 × Int × Bool × Unit) × List (Int × Int × Int × List UInt8 × Bool × Unit) × Unit))=>(zi x_0=zi x_0/\(bP (ze x_0).1).1.2.1=(bP (ze x_0).1).1.2.1/\(bP (ze x_0).1).1.2.2.1=(bP (ze x_0).1).1.2.2.1/\(bP (ze x_0).1).1.2.2.2.1=(bP (ze x_0).1).1.2.2.2.1/\True)/\@List.nil (Int × Int × Int × List UInt8 × Bool × Unit) = @List.nil (Int × Int × Int × List UInt8 × Bool × Unit)/\@List.nil (List UInt8 × Int × Bool × Unit) = @List.nil (List UInt8 × Int × Bool × Unit)/\@List.nil Int = @List.nil Int/\zq/\zr/\zs x_0=zs x_0/\zt/\zq/\True
  let zv:=fun (x_1:Nat) (x_0:Nat × List (List UInt8) × List (List (List UInt8) × List Int × List (List UInt8 × Int × Bool × Unit) × List (Int × Int × Int × List UInt8 × Bool × Unit) × Unit))=>(0:Int)<=(↑x_1:Int)/\(↑x_1:Int) < (↑(zj x_0):Int)
  (∃(x:zb),jO zc s (Prod.fst x) (Prod.snd x).1 (Prod.snd x).2/\((0:Int)=(↑(Prod.fst x):Int)/\[s]=(Prod.snd x).1/\@List.nil (List (List UInt8) × List Int × List (List UInt8 × Int × Bool × Unit) × List (Int × Int × Int × List UInt8 × Bool × Unit) × Unit)=(Prod.snd x).2/\True)/\[s]=(Prod.snd x).1/\@List.nil (List (List UInt8) × List Int × List (List UInt8 × Int × Bool × Unit) × List (Int × Int × Int × List UInt8 × Bool × Unit) × Unit)=(Prod.snd x).2/\True)/\(∀x_0:Nat × List (List UInt8) × List (List (List UInt8) × List Int × List (List UInt8 × Int × Bool × Unit) × List (Int × Int × Int × List UInt8 × Bool × Unit) × Unit),((jO zc s x_0.1 x_0.2.1 x_0.2.2)->((List.length x_0.2.1<=aJ)->(((decide (zd x_0))=true->((0:Int)<=(↑x_0.1:Int)/\zd x_0)/\(True)/\((True)->(((decide ((ze x_0).2.2 > (0:Int)))=true->(True/\zf/\([],[],(ze x_0).2.2,())=zh))/\((decide ((ze x_0).2.2 > (0:Int)))=false->(True)/\(((decide ((bP (ze x_0).1).2 > (0:Int)))=true->(True/\zf/\([],[],(bP (ze x_0).1).2,())=zh))/\((decide ((bP (ze x_0).1).2 > (0:Int)))=false->(x_0.2.2=x_0.2.2/\List.length x_0.2.2 + List.length [(bP (ze x_0).1).1]<=(1000000000:Nat))/\(∃(x:Nat),x<=zj x_0/\((0:Int)=(↑x:Int)/\x_0.2.1=eN x_0.2.1 (List.take x (zi x_0))/\True)/\x_0.2.1=eN x_0.2.1 (List.take x (zi x_0))/\True)/\(∀x_1:Nat,((x_1<=zj x_0)->((zj x_0<=aJ)->(((decide ((↑x_1:Int) < (↑(zj x_0):Int)))=true->(∃(x:Nat),x<=zl x_0 x_1/\((0:Int)=(↑x:Int)/\false=List.any (List.take x (zk x_0 x_1)) (zm x_0 x_1)/\True)/\True)/\(∀x_2:Nat,((x_2<=zl x_0 x_1)->((zl x_0 x_1<=aJ)->(((decide ((↑x_2:Int) < (↑(zl x_0 x_1):Int)))=true->(((List.any (List.take x_2 (zk x_0 x_1)) (zm x_0 x_1))=true->((zn x_2)->((zo)->(aE (zp x_2))/\(∃(x':Nat),x'<=zl x_0 x_1/\zl x_0 x_1 - x' < zl x_0 x_1 - x_2/\(zp x_2=(↑x':Int)/\true=List.any (List.take x' (zk x_0 x_1)) (zm x_0 x_1)/\True)/\zk x_0 x_1=zk x_0 x_1/\zu x_0))))/\((List.any (List.take x_2 (zk x_0 x_1)) (zm x_0 x_1))=false->((0:Int)<=(↑x_2:Int)/\(↑x_2:Int) < (↑(zl x_0 x_1):Int))/\(zv x_1 x_0)/\((zn x_2)->((zo)->(aE (zp x_2))/\(∃(x':Nat),x'<=zl x_0 x_1/\zl x_0 x_1 - x' < zl x_0 x_1 - x_2/\(zp x_2=(↑x':Int)/\(nth Ty.str (zk x_0 x_1) x_2 == nth Ty.str (zi x_0) x_1)=List.any (List.take x' (zk x_0 x_1)) (zm x_0 x_1)/\True)/\zk x_0 x_1=zk x_0 x_1/\zu x_0))))))/\((decide ((↑x_2:Int) < (↑(zl x_0 x_1):Int)))=false->(((!List.any (List.take x_2 (zk x_0 x_1)) (zm x_0 x_1))=true->(zv x_1 x_0)/\(zk x_0 x_1=zk x_0 x_1/\zl x_0 x_1 + List.length [nth Ty.str (zi x_0) x_1]<=(1000000000:Nat))/\((zn x_1)->((zo)->(aE (zp x_1))/\(∃(x':Nat),x'<=zj x_0/\zj x_0 - x' < zj x_0 - x_1/\(zp x_1=(↑x':Int)/\zk x_0 x_1++[nth Ty.str (zi x_0) x_1]=eN x_0.2.1 (List.take x' (zi x_0))/\True)/\zk x_0 x_1++[nth Ty.str (zi x_0) x_1]=eN x_0.2.1 (List.take x' (zi x_0))/\zu x_0))))/\((!List.any (List.take x_2 (zk x_0 x_1)) (zm x_0 x_1))=false->((zn x_1)->((zo)->(aE (zp x_1))/\(∃(x':Nat),x'<=zj x_0/\zj x_0 - x' < zj x_0 - x_1/\(zp x_1=(↑x':Int)/\zk x_0 x_1=eN x_0.2.1 (List.take x' (zi x_0))/\True)/\zk x_0 x_1=eN x_0.2.1 (List.take x' (zi x_0))/\zu x_0)))))))))))/\((decide ((↑x_1:Int) < (↑(zj x_0):Int)))=false->((aE (↑x_0.1:Int))->((zo)->(aE ((↑x_0.1:Int) + (1:Int)))/\(∃(x':zb),jO zc s (Prod.fst x') (Prod.snd x').1 (Prod.snd x').2/\(7:Nat) - Prod.fst x' < (7:Nat) - x_0.1/\((↑x_0.1:Int) + (1:Int)=(↑(Prod.fst x'):Int)/\zk x_0 x_1=(Prod.snd x').1/\zs x_0=(Prod.snd x').2/\True)/\zk x_0 x_1=(Prod.snd x').1/\zs x_0=(Prod.snd x').2/\zt/\zq/\zr/\True))))))))))))))/\((decide (zd x_0))=false->(True/\zf/\(x_0.2.1,x_0.2.2,(0:Int),())=zh))))))) (by kernel_rfl) ?_
 dsimp -iota -proj -eta only
 dsimp only at hp
 refine ⟨(⟨(0,[s],[]),jO.zero _ _,⟨rfl,rfl,rfl,trivial⟩,(by trivial)⟩),fun x_0 q_0 h0=>iL (fun h1=>⟨?a,trivial,fun h2=>iL (fun h3=>(by rw [q_0.Ht (cS hp) (by omega) (by omega)];exact ⟨trivial,rfl,rfl⟩)) (fun h3=>⟨trivial,iL (fun h4=>(by rw [q_0.Ll (by omega) (sE (cS hp) (by omega)) (by omega)];exact ⟨trivial,rfl,rfl⟩)) (fun h4=>⟨⟨rfl,q_0.UJ⟩,?b,fun x_1 q_1 h5=>iL (fun h6=>⟨?c,fun x_2 q_2 h7=>iL (fun h8=>⟨fun h9 h10 h11=>⟨?d,(⟨x_2 + 1,by omega,by omega,⟨by omega,RI (by assumption),trivial⟩,(by trivial)⟩)⟩,fun h9=>⟨?e,?f,fun h10 h11=>⟨?g,(⟨x_2 + 1,by omega,by omega,⟨by omega,RJ (by omega) (by assumption),trivial⟩,(by trivial)⟩)⟩⟩⟩) (fun h8=>iB (fun h9=>⟨?h,⟨rfl,q_0.Ph (cS hp) (q8 (sE (cS hp) (by omega)) (C1 (by omega))) _⟩,fun h10 h11=>⟨?i,(⟨x_1 + 1,by omega,by omega,⟨by omega,yh (by omega) (yk (j:=x_2) (by omega) (by assumption)),trivial⟩,yh (by omega) (yk (j:=x_2) (by omega) (by assumption)),(by trivial)⟩)⟩⟩) (fun h9 h10 h11=>⟨?j,(⟨x_1 + 1,by omega,by omega,⟨by omega,yi (by omega) (yk (j:=x_2) (by omega) (by assumption)),trivial⟩,yi (by omega) (yk (j:=x_2) (by omega) (by assumption)),(by trivial)⟩)⟩))⟩) (fun h6 h7 h8=>⟨?k,(by exact ⟨(x_0.1 + 1,_,_),q_0.next (cS hp) (by omega) (q8 (sE (cS hp) (by omega)) (C1 (by omega))),by have:=q_0.room (cS hp) (by omega) (q8 (sE (cS hp) (by omega)) (C1 (by omega)));simp only;omega,⟨by simp only;omega,yj (by omega),rfl,trivial⟩,yj (by omega),rfl,(by trivial)⟩)⟩)⟩)⟩)⟩) (fun h1=>(by rw [q_0.done (by omega)];exact ⟨trivial,rfl,rfl⟩))⟩
 case a|e|f|h=>omega
 case b|c=>exact ⟨0,Nat.zero_le _,⟨rfl,rfl,trivial⟩,(by trivial)⟩
 case d|g|i|j|k=>simp only [aE,aJ] at *;omega
theorem Tryz.J6:dK Tryz.prog Tryz.B.eT Tryz.X 100 false (bF Tryz.aV [.obj 0, .d .str] (fun _ x=>x.1.1.length<=6) Tryz.vA):=
 cH (B:=(jV Tryz.B [18])) (X:=Tryz.X) (bT.hint (l:=[18]) Tryz.J4) Tryz.func100 (by kernel_rfl) (fun (a:CD [.obj 0, .d .str]) (x:PD Tryz.aV)=>Tryz.EO a.1 x.1) (fun (a:CD [.obj 0, .d .str]) (x:PD Tryz.aV) hw hp=>J5 a.1 x.1 hw hp)
end Go.Proofs.YtgokjhhcfemnhabGreatDoor

namespace Go.Proofs.YtgokjhhcfemnhabGreatDoor
open Go.Vg Go.Mrl
theorem Sb (n:Int) (hw:eE [.int .i64] n) (hp:(fun n=>0<=n/\n<=1000000) n):(cM Tryz.B [] Tryz.f142 [] [.int .i64] [.int .i64] (fun x y=>y=(fun n=>dU n) x) n).holds:=by
 refine holds_of (p:=
  let za:=aE (16:Int)
  let zb:=aE (n + (16:Int))
  let zc:=n + (16:Int) - (1:Int)
  ((aE n)->((za)->(zb)/\((zb)->((aE (1:Int))->(aE zc)/\((16:Int)≠(0:Int))/\(∀x_0:Int,((x_0=Int.tdiv zc (16:Int))->((aE zc)->((za)->(aE x_0)/\(∀x_1:Int,((x_1=x_0 * (16:Int))->((aE x_0)->((za)->(aE x_1)/\(x_1=dU n)))))))))))))) (by kernel_rfl) ?_
 dsimp -iota -proj -eta only
 refine fun h0 h1=>⟨?a,fun h2 h3=>⟨?b,(by omega),fun x_0 q_0 h4 h5=>⟨?c,fun x_1 q_1 h6 h7=>⟨?d,?e⟩⟩⟩⟩
 case a|b=>simp only [aE] at *;omega
 case c|d|e=>subst_vars;rw [Int.tdiv_eq_ediv_of_nonneg (by omega)];(try unfold dU);(try simp only [aE]);omega
theorem Tryz.Sc:bK Tryz.prog Tryz.B.eT Tryz.X 142 [.int .i64] [.int .i64] (fun n=>0<=n/\n<=1000000) (fun x y=>y=(fun n=>dU n) x):=
 bM (X:=Tryz.X) (bW Tryz.bX) Tryz.func142 (by kernel_rfl) (fun _=>[]) (fun x hw hp=>Sb x hw hp)
theorem Sd (a:Int × Int × Unit) (b:Int × Int × Unit) (hw:eE [aW,aW] (a,b)) (hp:(fun x=>nz x.1/\nz x.2) (a,b)):(cM Tryz.B [] Tryz.f188 [] [aW,aW] [.bool] (fun x y=>y=(fun x=>hU x.1 x.2) x) (a,b)).holds:=by
 refine holds_of (p:=
  let za:=true=hU a b
  let zb:=a.1 + a.2.1
  let zc:=b.1 + b.2.1
  (((decide (a.2.1<=(0:Int)))=true->(za))/\((decide (a.2.1<=(0:Int)))=false->(((decide (b.2.1<=(0:Int)))=true->(za))/\((decide (b.2.1<=(0:Int)))=false->((aE a.1)->((aE a.2.1)->(aE zb)/\(((decide (zb<=b.1))=true->(za))/\((decide (zb<=b.1))=false->((aE b.1)->((aE b.2.1)->(aE zc)/\(decide (zc<=a.1)=hU a b)))))))))))) (by kernel_rfl) ?_
 dsimp -iota -proj -eta only
 dsimp only at hp
 simp only [nz] at hp
 refine iE (fun h0 => ?a) (fun h0=>iE (fun h1 => ?b) (fun h1 h2 h3=>⟨?c,iE (fun h4 => ?d) (fun h4 h5 h6=>⟨?e,?f⟩)⟩))
 case a|b|d|f=>rw [Bool.eq_iff_iff];simp only [hU,Bool.or_eq_true,decide_eq_true_eq,true_iff];omega
 case c|e=>simp only [aE] at *;omega
theorem Tryz.Ia:bK Tryz.prog Tryz.B.eT Tryz.X 188 [aW,aW] [.bool] (fun x=>nz x.1/\nz x.2) (fun x y=>y=(fun x=>hU x.1 x.2) x):=
 bM (X:=Tryz.X) (bW Tryz.bX) Tryz.func188 (by kernel_rfl) (fun _=>[]) (fun x hw hp=>Sd x.1 x.2 hw hp)
noncomputable def Tryz.EP:List (FuncId × (Bool × bQ)):=[(188,(true,aL [aW,aW] [.bool] (fun x=>nz x.1/\nz x.2) (fun x=>hU x.1 x.2)))]
theorem Tryz.J7:bT Tryz.prog Tryz.B Tryz.X Tryz.EP:=
 aP (aC Tryz.Ia) (bW Tryz.bX)
noncomputable def Tryz.Ib:List (FuncId × (Bool × bQ)):=[(187,(false,kM Tryz.B Tryz.EP Tryz.f187 []))]
theorem Tryz.Nq:bT Tryz.prog Tryz.B Tryz.X Tryz.Ib:=
 aP (kC Tryz.J7 Tryz.func187 (by kernel_rfl) []) (bW Tryz.bX)
def ER:cN:=[(0,fun st=>{X:=Nat,inv:=fun i=>i<=(aZ (.slice aW) st 0).length/\∀j,j < i->hU (Uo aW st (SW st 1 0)) (nth aW (aZ (.slice aW) st 0) j)=true,bA:=fun i=>(aZ (.slice aW) st 0).length - i,aS:=fun i=>[(8,sI i)],aX:=[0,1,7]})]
noncomputable def Tryz.Ic:List (FuncId × (Bool × bQ)):=[(217,(false,kM Tryz.B Tryz.Ib Tryz.f217 ER))]
theorem Tryz.Nr:bT Tryz.prog Tryz.B Tryz.X Tryz.Ic:=
 aP (kC Tryz.Nq Tryz.func217 (by kernel_rfl) ER) (bW Tryz.bX)
noncomputable def Tryz.Ie:List (FuncId × (Bool × bQ)):=[(186,(false,kM Tryz.B Tryz.Ic Tryz.f186 []))]
theorem Tryz.Ns:bT Tryz.prog Tryz.B Tryz.X Tryz.Ie:=
 aP (kC Tryz.Nr Tryz.func186 (by kernel_rfl) []) (bW Tryz.bX)
theorem TH (r:Int × Int × Unit) (l:List (D aW)) (hw:eE [aW, .slice aW] (r,l)) (hp:(fun x=>nz x.1/\∀y∈x.2,nz y) (r,l)):(cM Tryz.B Tryz.Ie Tryz.f143 [] [aW, .slice aW] [.bool] (fun x y=>y=(fun x=>ir x.1 x.2) x) (r,l)).holds:=by
 refine holds_of (p:=
  let za:=List.length l
  ((za<=aJ)->(∃(x:Nat),(x<=za/\∀(j:Nat),j < x->hU r (nth aW l j)=true)/\((0:Int)=(↑x:Int)/\True)/\True)/\(∀x_0:Nat,((x_0<=za/\∀(j:Nat),j < x_0->hU r (nth aW l j)=true)->(((decide ((↑x_0:Int) < (↑za:Int)))=true->((0:Int)<=(↑x_0:Int)/\(↑x_0:Int) < (↑za:Int))/\(nz r/\nz (nth aW l x_0))/\(((!hU r (nth aW l x_0))=true->((!decide ((↑x_0:Int)>=(0:Int)))=ir r l))/\((!hU r (nth aW l x_0))=false->((aE (↑x_0:Int))->((aE (1:Int))->(aE ((↑x_0:Int) + (1:Int)))/\(∃(x':Nat),(x'<=za/\∀(j:Nat),j < x'->hU r (nth aW l j)=true)/\za - x' < za - x_0/\((↑x_0:Int) + (1:Int)=(↑x':Int)/\True)/\(r.1=r.1/\r.2.1=r.2.1/\True)/\True))))))/\((decide ((↑x_0:Int) < (↑za:Int)))=false->((!decide ((-1:Int)>=(0:Int)))=ir r l))))))) (by kernel_rfl) ?_
 dsimp -iota -proj -eta only
 dsimp only at hp
 refine fun h0=>⟨?a,fun x_0 q_0=>iL (fun h1=>⟨(by omega),⟨hp.1,hp.2 _ (ie (by omega))⟩,iB (fun h2=>(by rw [Jo (j:=x_0) (by omega) h2];simp)) (fun h2 h3 h4=>⟨(by simp only [aE,aJ] at *;omega),(by exact ⟨x_0 + 1,⟨by omega,fun j hj=>by by_cases e:j=x_0;(subst e;exact h2);exact q_0.2 j (by omega)⟩,by omega,⟨by omega,trivial⟩,(by trivial)⟩)⟩)⟩) (fun h1=>(by rw [Mo fun j hj=>q_0.2 j (by omega)];simp))⟩
 case a=>refine ⟨0,?_⟩;(repeat' (first | exact trivial | rfl | omega | assumption | apply And.intro))
theorem Tryz.TI:bK Tryz.prog Tryz.B.eT Tryz.X 143 [aW, .slice aW] [.bool] (fun x=>nz x.1/\∀y∈x.2,nz y) (fun x y=>y=(fun x=>ir x.1 x.2) x):=
 bM (X:=Tryz.X) Tryz.Ns Tryz.func143 (by kernel_rfl) (fun _=>[]) (fun x hw hp=>TH x.1 x.2 hw hp)
noncomputable def Tryz.Ig:List (FuncId × (Bool × bQ)):=[(49,(true,aL [.str] [.err] (fun _=>True) (fun s=>aT (aG s)))),
 (50,(true,aL [.str] [.int .i64] (fun _=>True) (fun s=>aG s))),
 (156,(true,aL [.str] [.int .u32] (fun _=>True) (fun s=>(dD s:Int)))),
 (83,(true,aL [.str] [.int .i64] (fun _=>True) (fun s=>(dD s:Int)))),
 (11,(true,aL [.err, .int .i64] [.bool] (fun _=>True) (fun x=>cT x.1 x.2))),
 (142,(true,aL [.int .i64] [.int .i64] (fun n=>0<=n/\n<=1000000) (fun n=>dU n))),
 (188,(true,aL [aW,aW] [.bool] (fun x=>nz x.1/\nz x.2) (fun x=>hU x.1 x.2))),
 (143,(true,aL [aW, .slice aW] [.bool] (fun x=>nz x.1/\∀y∈x.2,nz y) (fun x=>ir x.1 x.2)))]
theorem Tryz.Nt:bT Tryz.prog Tryz.B Tryz.X Tryz.Ig:=
 aP (aC Tryz.iR) (aP (aC Tryz.eY) (aP (aC Tryz.jC) (aP (aC Tryz.iS) (aP (aC Tryz.jl) (aP (aC Tryz.Sc) (aP (aC Tryz.Ia) (aP (aC Tryz.TI) (bW Tryz.bX))))))))
def Ih (s:List Int) (l:List (D aW)):cN:=[
 (0,fun st=>{X:=Nat,inv:=fun i=>i<=s.length/\∀j,j < i->1<=(nth (.int .i64) s j:Int)/\(nth (.int .i64) s j:Int)<=40,bA:=fun i=>s.length - i,aS:=fun i=>[(26,sI i)],aX:=[0,1,24,25]}),
 (2,fun st=>{X:=Nat,inv:=fun i=>i<=l.length/\∀j,j < i->jn (nth aW l j),bA:=fun i=>l.length - i,aS:=fun i=>[(40,sI i)],aX:=[0,1,38,39]}),
 (4,fun st=>{X:=Nat × List (D aW) × List Int,inv:=fun x=>x.1<=s.length/\hH x.2.1 (s.drop x.1) x.2.2=hH l s []/\(∀y∈x.2.1,jn y)/\x.2.1.length=l.length + x.1/\x.2.2.length=x.1,bA:=fun x=>s.length - x.1,aS:=fun x=>[(68,sI x.1),(10, .s (.one (.app aW x.2.1 (aQ st 10)))),(11, .s (.one (.app (.int .i64) x.2.2 (aQ st 11))))],aK:=fun x=>[(aQ st 10, .tok aW x.2.1),(aQ st 11, .tok (.int .i64) x.2.2)],aX:=[66,67],eD:=[aQ st 10,aQ st 11]}),
 (6,fun st=>{X:=Nat,inv:=fun j=>j<=32/\ig (aZ (.slice aW) st 10) (L7 (.int .i64) st (aQ st 14) 1) (40 - j) (16 * (j:Int))=ig (aZ (.slice aW) st 10) (L7 (.int .i64) st (aQ st 14) 1) 40 0,bA:=fun j=>40 - j,aS:=fun j=>[],aK:=fun j=>[(aQ st 14, .cells 226 [.d (.int .i64) (16 * (j:Int)), .d (.int .i64) (L7 (.int .i64) st (aQ st 14) 1)])],aX:=[4,5,10,11,13,14,66,67,68,69,70,71,72,73,74],eD:=[aQ st 14]})]
theorem Se (s:List Int) (l:List (D aW)) (hw:eE [.slice (.int .i64), .slice aW] (s,l)):(cM (jV Tryz.B [65]) Tryz.Ig Tryz.f109 (Ih s l) [.slice (.int .i64), .slice aW] [.slice (.int .i64), .err] (fun x y=>y=(fun x=>cL x) x) (s,l)).holds:=by
 refine holds_of (p:=
  let za:=List.length s
  let zb:=za<=aJ
  let zc:=(↑za:Int)
  let zd:=cL (s,l)
  let ze:=([],bC.no (2:Int))=zd
  let zf:=List.length l
  let zg:=Ty.int IntKind.i64
  let zh:=fun (x_0:Nat)=>(↑x_0:Int)
  let zi:=([],bC.no (1:Int))=zd
  let zj:=aE (1:Int)
  let zk:=@List.nil Int = @List.nil Int/\True
  let zl:=Int × Int × Unit
  let zm:=Nat × List zl × List Int
  let zn:=hH l s (@List.nil Int)
  let zo:=fun (x_2:Nat × List (Int × Int × Unit) × List Int)=>dU (nth zg s x_2.1)
  let zp:=fun (x_2:Nat × List (Int × Int × Unit) × List Int)=>ig x_2.2.1 (zo x_2) (40:Nat) (0:Int)
  let zq:=fun (x_3:Nat)=>(16:Int) * zh x_3
  ((zb)->(((decide (zc > (6:Int)))=true->(ze))/\((decide (zc > (6:Int)))=false->((zf<=aJ)->(((decide ((↑zf:Int) > (20:Int)))=true->(ze))/\((decide ((↑zf:Int) > (20:Int)))=false->((zb)->(∃(x:Nat),(x<=za/\∀(j:Nat),j < x->(1:Int)<=nth zg s j/\nth zg s j<=(40:Int))/\((0:Int)=(↑x:Int)/\True)/\True)/\(∀x_0:Nat,((x_0<=za/\∀(j:Nat),j < x_0->(1:Int)<=nth zg s j/\nth zg s j<=(40:Int))->(((decide (zh x_0 < zc))=true->((0:Int)<=zh x_0/\zh x_0 < zc)/\(((decide (nth zg s x_0 < (1:Int)))=true->(zi))/\((decide (nth zg s x_0 < (1:Int)))=false->(((decide (nth zg s x_0 > (40:Int)))=true->(zi))/\((decide (nth zg s x_0 > (40:Int)))=false->((aE (zh x_0))->((zj)->(aE (zh x_0 + (1:Int)))/\(∃(x':Nat),(x'<=za/\∀(j:Nat),j < x'->(1:Int)<=nth zg s j/\nth zg s j<=(40:Int))/\za - x' < za - x_0/\(zh x_0 + (1:Int)=(↑x':Int)/\True)/\zk))))))))/\((decide (zh x_0 < zc))=false->((zf<=aJ)->(∃(x:Nat),(x<=zf/\∀(j:Nat),j < x->jn (nth aW l j))/\((0:Int)=(↑x:Int)/\True)/\True)/\(∀x_1:Nat,((x_1<=zf/\∀(j:Nat),j < x_1->jn (nth aW l j))->(((decide (zh x_1 < (↑zf:Int)))=true->((0:Int)<=zh x_1/\zh x_1 < (↑zf:Int))/\(((decide ((nth aW l x_1).1 < (0:Int)))=true->(zi))/\((decide ((nth aW l x_1).1 < (0:Int)))=false->(((decide ((nth aW l x_1).1 > (256:Int)))=true->(zi))/\((decide ((nth aW l x_1).1 > (256:Int)))=false->(((decide ((nth aW l x_1).2.1 < (0:Int)))=true->(zi))/\((decide ((nth aW l x_1).2.1 < (0:Int)))=false->(((decide ((nth aW l x_1).2.1 > (256:Int)))=true->(zi))/\((decide ((nth aW l x_1).2.1 > (256:Int)))=false->((aE (zh x_1))->((zj)->(aE (zh x_1 + (1:Int)))/\(∃(x':Nat),(x'<=zf/\∀(j:Nat),j < x'->jn (nth aW l j))/\zf - x' < zf - x_1/\(zh x_1 + (1:Int)=(↑x':Int)/\True)/\zk))))))))))))/\((decide (zh x_1 < (↑zf:Int)))=false->(zf<=(1000000000:Nat))/\((zb)->(∃(x:zm),(Prod.fst x<=za/\hH (Prod.snd x).1 (List.drop (Prod.fst x) s) (Prod.snd x).2=zn/\(∀(y:zl),y∈(Prod.snd x).1->jn y)/\List.length (Prod.snd x).1=zf + Prod.fst x/\List.length (Prod.snd x).2=Prod.fst x)/\((0:Int)=(↑(Prod.fst x):Int)/\l=(Prod.snd x).1/\@List.nil Int=(Prod.snd x).2/\True)/\l=(Prod.snd x).1/\@List.nil Int=(Prod.snd x).2/\True)/\(∀x_2:Nat × List (Int × Int × Unit) × List Int,((x_2.1<=za/\hH x_2.2.1 (List.drop x_2.1 s) x_2.2.2=zn/\(∀(y:zl),y∈x_2.2.1->jn y)/\List.length x_2.2.1=zf + x_2.1/\List.length x_2.2.2=x_2.1)->(((decide ((↑x_2.1:Int) < zc))=true->((0:Int)<=(↑x_2.1:Int)/\(↑x_2.1:Int) < zc)/\((0:Int)<=nth zg s x_2.1/\nth zg s x_2.1<=(1000000:Int))/\(∃(x:Nat),(x<=(32:Nat)/\ig x_2.2.1 (zo x_2) ((40:Nat) - x) ((16:Int) * (↑x:Int))=zp x_2)/\True/\((0:Int)=(16:Int) * (↑x:Int)/\zo x_2=zo x_2/\True)/\True)/\(∀x_3:Nat,((x_3<=(32:Nat)/\ig x_2.2.1 (zo x_2) ((40:Nat) - x_3) (zq x_3)=zp x_2)->(nz (zq x_3,zo x_2,())/\∀(y:zl),y∈x_2.2.1->nz y)/\(((!ir (zq x_3,zo x_2,()) x_2.2.1)=true->((aE (zq x_3))->((aE (16:Int))->(aE (zq x_3 + (16:Int)))/\(∃(x':Nat),(x'<=(32:Nat)/\ig x_2.2.1 (zo x_2) ((40:Nat) - x') ((16:Int) * (↑x':Int))=zp x_2)/\(40:Nat) - x' < (40:Nat) - x_3/\True/\(zq x_3 + (16:Int)=(16:Int) * (↑x':Int)/\zo x_2=zo x_2/\True)/\x_2.2.1=x_2.2.1/\x_2.2.2=x_2.2.2/\zk))))/\((!ir (zq x_3,zo x_2,()) x_2.2.1)=false->((aE (zq x_3))->((aE (zo x_2))->(aE (zq x_3 + zo x_2))/\(((decide (zq x_3 + zo x_2 > (256:Int)))=true->(([],bC.no (8:Int))=zd))/\((decide (zq x_3 + zo x_2 > (256:Int)))=false->(x_2.2.1=x_2.2.1/\List.length x_2.2.1 + List.length [(zq x_3,zo x_2,())]<=(1000000000:Nat))/\(x_2.2.2=x_2.2.2/\List.length x_2.2.2 + List.length [zq x_3]<=(1000000000:Nat))/\((aE (↑x_2.1:Int))->((zj)->(aE ((↑x_2.1:Int) + (1:Int)))/\(∃(x':zm),(Prod.fst x'<=za/\hH (Prod.snd x').1 (List.drop (Prod.fst x') s) (Prod.snd x').2=zn/\(∀(y:zl),y∈(Prod.snd x').1->jn y)/\List.length (Prod.snd x').1=zf + Prod.fst x'/\List.length (Prod.snd x').2=Prod.fst x')/\za - Prod.fst x' < za - x_2.1/\((↑x_2.1:Int) + (1:Int)=(↑(Prod.fst x'):Int)/\x_2.2.1++[(zq x_3,zo x_2,())]=(Prod.snd x').1/\x_2.2.2++[zq x_3]=(Prod.snd x').2/\True)/\x_2.2.1++[(zq x_3,zo x_2,())]=(Prod.snd x').1/\x_2.2.2++[zq x_3]=(Prod.snd x').2/\zk))))))))))))/\((decide ((↑x_2.1:Int) < zc))=false->((x_2.2.2,bC.nil)=zd))))))))))))))))))))))) (by kernel_rfl) ?_
 dsimp -iota -proj -eta only
 refine fun h0=>iL (fun h1 => ?a) (fun h1 h2=>iL (fun h3 => ?b) (fun h3 h4=>⟨?c,fun x_0 q_0=>iL (fun h5=>⟨?d,iL (fun h6 => ?e) (fun h6=>iL (fun h7 => ?f) (fun h7 h8 h9=>⟨?g,(by (try dsimp only [D] at *);exact ⟨x_0 + 1,⟨by omega,fun j hj=>by by_cases e:j=x_0;(subst e;(try dsimp only [D]);omega);exact q_0.2 j (by omega)⟩,by omega,⟨by omega,trivial⟩,(by trivial)⟩)⟩))⟩) (fun h5 h6=>⟨?h,fun x_1 q_1=>iL (fun h7=>⟨?i,iL (fun h8 => ?j) (fun h8=>iL (fun h9 => ?k) (fun h9=>iL (fun h10 => ?l) (fun h10=>iL (fun h11 => ?m) (fun h11 h12 h13=>⟨?n,(by (try dsimp only [D] at *);exact ⟨x_1 + 1,⟨by omega,fun j hj=>by by_cases e:j=x_1;(subst e;unfold jn;(try dsimp only [D]);omega);exact q_1.2 j (by omega)⟩,by omega,⟨by omega,trivial⟩,(by trivial)⟩)⟩))))⟩) (fun h7=>⟨?o,fun h8=>⟨(⟨(0,l,[]),⟨Nat.zero_le _,rfl,(fun y (hy:y∈l)=>by obtain ⟨i,hi,e⟩:=kf (t:=aW) hy;rw [<-e];exact q_1.2 i (by omega)),rfl,rfl⟩,(by trivial),(by trivial)⟩),fun x_2 q_2=>iL (fun h9=>⟨?p,(by have:=q_0.2 x_2.1 (by omega);(try dsimp only [D] at *);omega),?q,fun x_3 q_3=>⟨?r,iB (fun h10 h11 h12=>⟨?s,?t⟩) (fun h10 h11 h12=>⟨?u,iL (fun h13 => ?v) (fun h13=>⟨?w,?x,fun h14 h15=>⟨?y,?z⟩⟩)⟩)⟩⟩) (fun h9=>(by rw [sj (by omega) (fun j hj=>q_0.2 j (by omega)) (fun j hj=>q_1.2 j (by omega)),<-q_2.2.1,yI (by omega)]))⟩⟩)⟩)⟩))
 case a|b=>rw [yJ (by omega)]
 case c|h|q=>refine ⟨0,?_⟩;(repeat' (first | exact trivial | rfl | omega | assumption | apply And.intro))
 case d|i|o|p=>omega
 case e|f=>(try dsimp only [D] at *);rw [yK (by omega) (i:=x_0) (by omega) (by (try dsimp only [D]);omega)]
 case g|n|s|y=>simp only [aE,aJ] at *;omega
 case j|k|l|m=>(try dsimp only [D] at *);rw [wP (by omega) (i:=x_1) (by omega) (by unfold jn;(try dsimp only [D]);omega)]
 case r=>
  have hs:=q_0.2 x_2.1 (by omega);have hr:=eI hs.1 hs.2
  exact ⟨by refine ⟨?_,?_,?_,?_⟩ <;> simp only <;> omega,fun y hy=>(q_2.2.2.1 y hy).nz⟩
 case t=>
  have hf:ir (16 * (x_3:Int),dU (nth (.int .i64) s x_2.1),()) x_2.2.1=false:=by assumption
  have hn:=DG q_2.2.2.1 hf
  exact ⟨x_3 + 1,⟨by omega,by rw [<-q_3.2,show 40 - x_3=(40 - (x_3 + 1)) + 1 by omega,OH hf,show 16 * ((x_3 + 1:Nat):Int)=16 * (x_3:Int) + 16 by omega]⟩,by omega,trivial,⟨by omega,rfl,trivial⟩,(by trivial)⟩
 case u=>
  have hs:=q_0.2 x_2.1 (by omega);have hr:=eI hs.1 hs.2;have hf:ir (16 * (x_3:Int),dU (nth (.int .i64) s x_2.1),()) x_2.2.1=true:=by assumption
  have hb:=q_3.2.symm.trans (sX hf)
  simp only [aE];omega
 case v=>
  have hs:=q_0.2 x_2.1 (by omega);have hr:=eI hs.1 hs.2;have hf:ir (16 * (x_3:Int),dU (nth (.int .i64) s x_2.1),()) x_2.2.1=true:=by assumption
  have hb:=q_3.2.symm.trans (sX hf)
  rw [sj (by omega) (fun j hj=>q_0.2 j (by omega)) (fun j hj=>q_1.2 j (by omega)),<-q_2.2.1,o5 (by omega),if_pos (by rw [hb];omega)]
 case w|x=>simp only [List.length_singleton,true_and];omega
 case z=>
  have hs:=q_0.2 x_2.1 (by omega);have hr:=eI hs.1 hs.2;have hf:ir (16 * (x_3:Int),dU (nth (.int .i64) s x_2.1),()) x_2.2.1=true:=by assumption
  have hb:=q_3.2.symm.trans (sX hf)
  exact ⟨(x_2.1 + 1,_,_),⟨by omega,by rw [<-q_2.2.1,o5 (k:=x_2.1) (by omega),if_neg (by rw [hb];omega),hb],GS q_2.2.2.1 (by refine ⟨?_,?_,?_,?_⟩ <;> simp only <;> omega),by simp only [List.length_append,List.length_singleton];omega,by simp only [List.length_append,List.length_singleton];omega⟩,by simp only;omega,⟨by simp only;omega,rfl,rfl,trivial⟩,(by trivial)⟩
theorem Tryz.Sf:bK Tryz.prog Tryz.B.eT Tryz.X 109 [.slice (.int .i64), .slice aW] [.slice (.int .i64), .err] (fun _=>True) (fun x y=>y=(fun x=>cL x) x):=
 bM (B:=(jV Tryz.B [65])) (X:=Tryz.X) (bT.hint (l:=[65]) Tryz.Nt) Tryz.func109 (by kernel_rfl) (fun x=>Ih x.1 x.2) (fun x hw hp=>Se x.1 x.2 hw)
end Go.Proofs.YtgokjhhcfemnhabGreatDoor

namespace Go.Proofs.YtgokjhhcfemnhabGreatDoor
open Go.Vg Go.Mrl
theorem P1 (n:Int) (hw:eE [.int .i64] n) (hp:(fun n=>0<=n/\n<=1000000) n):(cM Tryz.B [] Tryz.f130 [] [.int .i64] [.int .i64] (fun x y=>y=(fun n=>dU n) x) n).holds:=by
 refine holds_of (p:=
  let za:=(16:Int)≠(0:Int)
  let zb:=aE (n + (16:Int))
  (za)/\(∀x_0:Int,((x_0=Int.tmod n (16:Int))->(((decide (x_0 > (0:Int)))=true->((aE n)->((aE (16:Int))->(zb)/\(za)/\(∀x_1:Int,((x_1=Int.tmod n (16:Int))->((zb)->((aE x_1)->(aE (n + (16:Int) - x_1))/\(n + (16:Int) - x_1=dU n))))))))/\((decide (x_0 > (0:Int)))=false->(n=dU n)))))) (by kernel_rfl) ?_
 dsimp -iota -proj -eta only
 refine ⟨?a,fun x_0 q_0=>iL (fun h0 h1 h2=>⟨?b,?c,fun x_1 q_1 h3 h4=>⟨?d,?e⟩⟩) (fun h0 => ?f)⟩
 case a|c=>omega
 case b|d=>simp only [aE] at *;omega
 case e|f=>subst_vars;simp only [Int.tmod_eq_emod_of_nonneg hp.1] at *;(try unfold dU);(try simp only [aE]);omega
theorem Tryz.P2:bK Tryz.prog Tryz.B.eT Tryz.X 130 [.int .i64] [.int .i64] (fun n=>0<=n/\n<=1000000) (fun x y=>y=(fun n=>dU n) x):=
 bM (X:=Tryz.X) (bW Tryz.bX) Tryz.func130 (by kernel_rfl) (fun _=>[]) (fun x hw hp=>P1 x hw hp)
noncomputable def Tryz.ES:List (FuncId × (Bool × bQ)):=[(130,(true,aL [.int .i64] [.int .i64] (fun n=>0<=n/\n<=1000000) (fun n=>dU n)))]
theorem Tryz.J8:bT Tryz.prog Tryz.B Tryz.X Tryz.ES:=
 aP (aC Tryz.P2) (bW Tryz.bX)
def ET (s:List Int) (l:List (D aW)):cN:=[
 (0,fun st=>{X:=Nat,inv:=fun i=>i<=s.length/\∀j,j < i->1<=(nth (.int .i64) s j:Int)/\(nth (.int .i64) s j:Int)<=40,bA:=fun i=>s.length - i,aS:=fun i=>[(6,sI i)],aX:=[0,1]}),
 (2,fun st=>{X:=Nat,inv:=fun i=>i<=l.length/\∀j,j < i->jn (nth aW l j),bA:=fun i=>l.length - i,aS:=fun i=>[(7,sI i)],aX:=[0,1]}),
 (4,fun st=>{X:=Nat,inv:=fun i=>i<=l.length,bA:=fun i=>l.length - i,aS:=fun i=>[(10,sI i)],aK:=fun i=>[(aQ st 9, .arr .bool (kr (l.take i)))],aX:=[0,1,4,5,9],eD:=[aQ st 9]}),
 (6,fun st=>{X:=Nat,inv:=fun k=>(k:Int)<=(nth aW l (aZ (.int .i64) st 10).toNat).2.1,bA:=fun k=>300 - k,aS:=fun k=>[(11,sI k)],aK:=fun k=>[(aQ st 9, .arr .bool (iH (rowOf .bool st (aQ st 9)) (nth aW l (aZ (.int .i64) st 10).toNat).1 k))],aX:=[0,1,4,5,9,10,73,74,75,76],eD:=[aQ st 9]}),
 (8,fun st=>{X:=Nat × List (D aW) × List Int,inv:=fun x=>x.1<=s.length/\hH x.2.1 (s.drop x.1) x.2.2=hH l s []/\(∀y∈x.2.1,jn y)/\x.2.1.length=l.length + x.1/\x.2.2.length=x.1,bA:=fun x=>s.length - x.1,aS:=fun x=>[(13,sI x.1),(12, .s (.one (.app (.int .i64) x.2.2 (aQ st 12))))],aK:=fun x=>[(aQ st 9, .arr .bool (kr x.2.1)),(aQ st 12, .tok (.int .i64) x.2.2)],aX:=[0,9],eD:=[aQ st 9,aQ st 12]}),
 (10,fun st=>{X:=Nat,inv:=fun j=>j<=32/\mn (rowOf .bool st (aQ st 9)) (aZ (.int .i64) st 14) (40 - j) (16 * (j:Int))=mn (rowOf .bool st (aQ st 9)) (aZ (.int .i64) st 14) 40 0,bA:=fun j=>40 - j,aS:=fun j=>[(15,sI (16 * (j:Int)))],aX:=[0,4,5,9,12,13,14,96,97,98,99,102,103,104,105,106]}),
 (12,fun st=>{X:=Nat,inv:=fun k=>(k:Int)<=aZ (.int .i64) st 14,bA:=fun k=>300 - k,aS:=fun k=>[(17,sI k),(16,sB (iG (rowOf .bool st (aQ st 9)) (aZ (.int .i64) st 15) k))],aX:=[0,4,5,9,12,13,14,15,96,97,98,99,102,103,104,105,106]}),
 (14,fun st=>{X:=Nat,inv:=fun k=>(k:Int)<=aZ (.int .i64) st 14,bA:=fun k=>300 - k,aS:=fun k=>[(18,sI k)],aK:=fun k=>[(aQ st 9, .arr .bool (iH (rowOf .bool st (aQ st 9)) (aZ (.int .i64) st 15) k))],aX:=[0,4,5,9,12,13,14,15,16,17,96,97,98,99,102,103,104,105,106,107,108,109,110,111,112,113,114,115,116,117,118,119,120,121,122,123,124,125,126,127,128,129,130,131,132,133],eD:=[aQ st 9]})]
theorem P3 (s:List Int) (l:List (D aW)) (hw:eE [.slice (.int .i64), .slice aW] (s,l)):(cM Tryz.B Tryz.ES Tryz.f101 (ET s l) [.slice (.int .i64), .slice aW] [.slice (.int .i64), .int .i64] (fun x y=>y=(fun x=>nj x) x) (s,l)).holds:=by
 refine holds_of (p:=
  let za:=List.length s
  let zb:=za<=aJ
  let zc:=(↑za:Int)
  let zd:=nj (s,l)
  let ze:=([],(2:Int))=zd
  let zf:=List.length l
  let zg:=zf<=aJ
  let zh:=Ty.int IntKind.i64
  let zi:=fun (x_0:Nat)=>(↑x_0:Int)
  let zj:=fun (x_0:Nat)=>(0:Int)<=zi x_0/\zi x_0 < zc
  let zk:=([],(1:Int))=zd
  let zl:=fun (x_0:Nat)=>aE (zi x_0)
  let zm:=aE (1:Int)
  let zn:=fun (x_0:Nat)=>zi x_0 + (1:Int)
  let zo:=fun (x_0:Nat)=>aE (zn x_0)
  let zp:=@List.nil Int = @List.nil Int/\True
  let zq:=fun (x_1:Nat)=>decide (zi x_1 < (↑zf:Int))
  let zr:=fun (x_1:Nat)=>(0:Int)<=zi x_1/\zi x_1 < (↑zf:Int)
  let zs:=fun (x_1:Nat)=>(nth aW l x_1).1
  let zt:=fun (x_1:Nat)=>(nth aW l x_1).2.1
  let zu:=fun (x_2:Nat)=>kr (List.take x_2 l)
  let zv:=(↑(600:Nat):Int)
  let zw:=Int × Int × Unit
  let zx:=Nat × List zw × List Int
  let zy:=hH l s (@List.nil Int)
  let zz:=fun (x_3:Nat × List (Int × Int × Unit) × List Int)=>kr x_3.2.1
  let zaa:=fun (x_3:Nat × List (Int × Int × Unit) × List Int)=>dU (nth zh s x_3.1)
  let zab:=fun (x_3:Nat × List (Int × Int × Unit) × List Int)=>mn (zz x_3) (zaa x_3) (40:Nat) (0:Int)
  let zac:=fun (x_4:Nat)=>(16:Int) * zi x_4
  let zad:=fun (x_4 x_5:Nat)=>zac x_4 + zi x_5
  let zae:=fun (x_3:Nat × List (Int × Int × Unit) × List Int)=>zz x_3=zz x_3/\x_3.2.2=x_3.2.2/\zp
  let zaf:=fun (x_3:Nat × List (Int × Int × Unit) × List Int) (x_4:Nat) (x_5:Nat)=>(((iG (zz x_3) (zac x_4) x_5)=true->((aE (zac x_4))->((aE (zaa x_3))->(aE (zac x_4 + zaa x_3))/\(((decide (zac x_4 + zaa x_3 > (256:Int)))=true->(([],(8:Int))=zd))/\((decide (zac x_4 + zaa x_3 > (256:Int)))=false->(∃(x:Nat),(↑x:Int)<=zaa x_3/\((0:Int)=(↑x:Int)/\True)/\zz x_3=iH (zz x_3) (zac x_4) x/\True)/\(∀x_6:Nat,((zi x_6<=zaa x_3)->(((decide (zi x_6 < zaa x_3))=true->((aE (zac x_4))->((zl x_6)->(aE (zad x_4 x_6))/\((0:Int)<=zad x_4 x_6/\zad x_4 x_6 < zv/\zad x_4 x_6 < (↑(List.length (iH (zz x_3) (zac x_4) x_6)):Int))/\(Int.toNat (zad x_4 x_6) < List.length (iH (zz x_3) (zac x_4) x_6))/\((zl x_6)->((zm)->(zo x_6)/\(∃(x':Nat),(↑x':Int)<=zaa x_3/\(300:Nat) - x' < (300:Nat) - x_6/\(zn x_6=(↑x':Int)/\True)/\List.set (iH (zz x_3) (zac x_4) x_6) (Int.toNat (zad x_4 x_6)) true=iH (zz x_3) (zac x_4) x'/\x_3.2.2=x_3.2.2/\zp))))))/\((decide (zi x_6 < zaa x_3))=false->(x_3.2.2=x_3.2.2/\List.length x_3.2.2 + List.length [zac x_4]<=(1000000000:Nat))/\((aE (↑x_3.1:Int))->((zm)->(aE ((↑x_3.1:Int) + (1:Int)))/\(∃(x':zx),(Prod.fst x'<=za/\hH (Prod.snd x').1 (List.drop (Prod.fst x') s) (Prod.snd x').2=zy/\(∀(y:zw),y∈(Prod.snd x').1->jn y)/\List.length (Prod.snd x').1=zf + Prod.fst x'/\List.length (Prod.snd x').2=Prod.fst x')/\za - Prod.fst x' < za - x_3.1/\((↑x_3.1:Int) + (1:Int)=(↑(Prod.fst x'):Int)/\x_3.2.2++[zac x_4]=(Prod.snd x').2/\True)/\iH (zz x_3) (zac x_4) x_6=kr (Prod.snd x').1/\x_3.2.2++[zac x_4]=(Prod.snd x').2/\zp))))))))))))/\((iG (zz x_3) (zac x_4) x_5)=false->((aE (zac x_4))->((aE (16:Int))->(aE (zac x_4 + (16:Int)))/\(∃(x':Nat),(x'<=(32:Nat)/\mn (zz x_3) (zaa x_3) ((40:Nat) - x') ((16:Int) * (↑x':Int))=zab x_3)/\(40:Nat) - x' < (40:Nat) - x_4/\(zac x_4 + (16:Int)=(16:Int) * (↑x':Int)/\True)/\zae x_3)))))
  ((zb)->(((decide (zc > (6:Int)))=true->(ze))/\((decide (zc > (6:Int)))=false->((zg)->(((decide ((↑zf:Int) > (20:Int)))=true->(ze))/\((decide ((↑zf:Int) > (20:Int)))=false->(∃(x:Nat),(x<=za/\∀(j:Nat),j < x->(1:Int)<=nth zh s j/\nth zh s j<=(40:Int))/\((0:Int)=(↑x:Int)/\True)/\True)/\(∀x_0:Nat,((x_0<=za/\∀(j:Nat),j < x_0->(1:Int)<=nth zh s j/\nth zh s j<=(40:Int))->((zb)->(((decide (zi x_0 < zc))=true->(zj x_0)/\(((decide (nth zh s x_0 < (1:Int)))=true->(zk))/\((decide (nth zh s x_0 < (1:Int)))=false->(zj x_0)/\(((decide (nth zh s x_0 > (40:Int)))=true->(zk))/\((decide (nth zh s x_0 > (40:Int)))=false->((zl x_0)->((zm)->(zo x_0)/\(∃(x':Nat),(x'<=za/\∀(j:Nat),j < x'->(1:Int)<=nth zh s j/\nth zh s j<=(40:Int))/\za - x' < za - x_0/\(zn x_0=(↑x':Int)/\True)/\zp))))))))/\((decide (zi x_0 < zc))=false->(∃(x:Nat),(x<=zf/\∀(j:Nat),j < x->jn (nth aW l j))/\((0:Int)=(↑x:Int)/\True)/\True)/\(∀x_1:Nat,((x_1<=zf/\∀(j:Nat),j < x_1->jn (nth aW l j))->((zg)->(((zq x_1)=true->(zr x_1)/\(((decide (zs x_1 < (0:Int)))=true->(zk))/\((decide (zs x_1 < (0:Int)))=false->(((decide (zs x_1 > (256:Int)))=true->(zk))/\((decide (zs x_1 > (256:Int)))=false->(((decide (zt x_1 < (0:Int)))=true->(zk))/\((decide (zt x_1 < (0:Int)))=false->(((decide (zt x_1 > (256:Int)))=true->(zk))/\((decide (zt x_1 > (256:Int)))=false->((zl x_1)->((zm)->(zo x_1)/\(∃(x':Nat),(x'<=zf/\∀(j:Nat),j < x'->jn (nth aW l j))/\zf - x' < zf - x_1/\(zn x_1=(↑x':Int)/\True)/\zp))))))))))))/\((zq x_1)=false->(∃(x:Nat),x<=zf/\((0:Int)=(↑x:Int)/\True)/\List.replicate (600:Nat) (bO Ty.bool)=kr (List.take x l)/\True)/\(∀x_2:Nat,((x_2<=zf)->((zg)->(((zq x_2)=true->(∃(x:Nat),(↑x:Int)<=zt x_2/\((0:Int)=(↑x:Int)/\True)/\zu x_2=iH (zu x_2) (zs x_2) x/\True)/\(∀x_3:Nat,((zi x_3<=zt x_2)->(zr x_2)/\(((decide (zi x_3 < zt x_2))=true->(zr x_2)/\((aE (zs x_2))->((zl x_3)->(aE (zs x_2 + zi x_3))/\((0:Int)<=zs x_2 + zi x_3/\zs x_2 + zi x_3 < zv/\zs x_2 + zi x_3 < (↑(List.length (iH (zu x_2) (zs x_2) x_3)):Int))/\(Int.toNat (zs x_2 + zi x_3) < List.length (iH (zu x_2) (zs x_2) x_3))/\((zl x_3)->((zm)->(zo x_3)/\(∃(x':Nat),(↑x':Int)<=zt x_2/\(300:Nat) - x' < (300:Nat) - x_3/\(zn x_3=(↑x':Int)/\True)/\List.set (iH (zu x_2) (zs x_2) x_3) (Int.toNat (zs x_2 + zi x_3)) true=iH (zu x_2) (zs x_2) x'/\zp))))))/\((decide (zi x_3 < zt x_2))=false->((zl x_2)->((zm)->(zo x_2)/\(∃(x':Nat),x'<=zf/\zf - x' < zf - x_2/\(zn x_2=(↑x':Int)/\True)/\iH (zu x_2) (zs x_2) x_3=kr (List.take x' l)/\zp))))))))/\((zq x_2)=false->(∃(x:zx),(Prod.fst x<=za/\hH (Prod.snd x).1 (List.drop (Prod.fst x) s) (Prod.snd x).2=zy/\(∀(y:zw),y∈(Prod.snd x).1->jn y)/\List.length (Prod.snd x).1=zf + Prod.fst x/\List.length (Prod.snd x).2=Prod.fst x)/\((0:Int)=(↑(Prod.fst x):Int)/\@List.nil Int=(Prod.snd x).2/\True)/\zu x_2=kr (Prod.snd x).1/\@List.nil Int=(Prod.snd x).2/\True)/\(∀x_3:Nat × List (Int × Int × Unit) × List Int,((x_3.1<=za/\hH x_3.2.1 (List.drop x_3.1 s) x_3.2.2=zy/\(∀(y:zw),y∈x_3.2.1->jn y)/\List.length x_3.2.1=zf + x_3.1/\List.length x_3.2.2=x_3.1)->((zb)->(((decide ((↑x_3.1:Int) < zc))=true->((0:Int)<=(↑x_3.1:Int)/\(↑x_3.1:Int) < zc)/\((0:Int)<=nth zh s x_3.1/\nth zh s x_3.1<=(1000000:Int))/\(∃(x:Nat),(x<=(32:Nat)/\mn (zz x_3) (zaa x_3) ((40:Nat) - x) ((16:Int) * (↑x:Int))=zab x_3)/\((0:Int)=(16:Int) * (↑x:Int)/\True)/\True)/\(∀x_4:Nat,((x_4<=(32:Nat)/\mn (zz x_3) (zaa x_3) ((40:Nat) - x_4) (zac x_4)=zab x_3)->(∃(x:Nat),(↑x:Int)<=zaa x_3/\((0:Int)=(↑x:Int)/\true=iG (zz x_3) (zac x_4) x/\True)/\True)/\(∀x_5:Nat,((zi x_5<=zaa x_3)->(((decide (zi x_5 < zaa x_3))=true->(((iG (zz x_3) (zac x_4) x_5)=true->((aE (zac x_4))->((zl x_5)->(aE (zad x_4 x_5))/\(((decide (zad x_4 x_5>=(600:Int)))=true->((zl x_5)->((zm)->(zo x_5)/\(∃(x':Nat),(↑x':Int)<=zaa x_3/\(300:Nat) - x' < (300:Nat) - x_5/\(zn x_5=(↑x':Int)/\true=iG (zz x_3) (zac x_4) x'/\True)/\zae x_3))))/\((decide (zad x_4 x_5>=(600:Int)))=false->((aE (zac x_4))->((zl x_5)->(aE (zad x_4 x_5))/\((0:Int)<=zad x_4 x_5/\zad x_4 x_5 < zv/\zad x_4 x_5 < (↑(List.length (zz x_3)):Int))/\(Int.toNat (zad x_4 x_5) < List.length (zz x_3))/\((zl x_5)->((zm)->(zo x_5)/\(∃(x':Nat),(↑x':Int)<=zaa x_3/\(300:Nat) - x' < (300:Nat) - x_5/\(zn x_5=(↑x':Int)/\(!nth Ty.bool (zz x_3) (Int.toNat (zad x_4 x_5)))=iG (zz x_3) (zac x_4) x'/\True)/\zae x_3))))))))))/\((iG (zz x_3) (zac x_4) x_5)=false->(zaf x_3 x_4 x_5))))/\((decide (zi x_5 < zaa x_3))=false->(zaf x_3 x_4 x_5))))))))/\((decide ((↑x_3.1:Int) < zc))=false->((x_3.2.2,(0:Int))=zd)))))))))))))))))))))))))))) (by kernel_rfl) ?_
 dsimp -iota -proj -eta only
 refine fun h0=>iL (fun h1 => ?a) (fun h1 h2=>iL (fun h3 => ?b) (fun h3=>⟨?c,fun x_0 q_0 h4=>iL (fun h5=>⟨?d,iL (fun h6 => ?e) (fun h6=>⟨?f,iL (fun h7 => ?g) (fun h7 h8 h9=>⟨?h,(by (try dsimp only [D] at *);exact ⟨x_0 + 1,⟨by omega,fun j hj=>by by_cases e:j=x_0;(subst e;(try dsimp only [D]);omega);exact q_0.2 j (by omega)⟩,by omega,⟨by omega,trivial⟩,(by trivial)⟩)⟩)⟩)⟩) (fun h5=>⟨?i,fun x_1 q_1 h6=>iL (fun h7=>⟨?j,iL (fun h8 => ?k) (fun h8=>iL (fun h9 => ?l) (fun h9=>iL (fun h10 => ?m) (fun h10=>iL (fun h11 => ?n) (fun h11 h12 h13=>⟨?o,(by (try dsimp only [D] at *);exact ⟨x_1 + 1,⟨by omega,fun j hj=>by by_cases e:j=x_1;(subst e;unfold jn;(try dsimp only [D]);omega);exact q_1.2 j (by omega)⟩,by omega,⟨by omega,trivial⟩,(by trivial)⟩)⟩))))⟩) (fun h7=>⟨?p,fun x_2 q_2 h8=>iL (fun h9=>⟨?q,fun x_3 q_3=>⟨?r,iL (fun h10=>⟨?s,fun h11 h12=>⟨?t,?u,?v,fun h13 h14=>⟨?w,?x⟩⟩⟩) (fun h10 h11 h12=>⟨?y,(by (try dsimp only [D] at *);exact ⟨x_2 + 1,by omega,by omega,⟨by omega,trivial⟩,Mq (by omega) (by (try dsimp only [D]);omega),(by trivial)⟩)⟩)⟩⟩) (fun h9=>⟨(⟨(0,l,[]),⟨Nat.zero_le _,rfl,(fun y (hy:y∈l)=>by obtain ⟨i,hi,e⟩:=kf (t:=aW) hy;rw [<-e];exact q_1.2 i (by omega)),rfl,rfl⟩,(by trivial),by rw [List.take_of_length_le (by omega)],(by trivial)⟩),fun x_3 q_3 h10=>iL (fun h11=>⟨?z,(by have:=q_0.2 x_3.1 (by omega);(try dsimp only [D] at *);omega),?a0,fun x_4 q_4=>⟨?a1,fun x_5 q_5=>iL (fun h12=>⟨fun h13 h14 h15=>⟨?a2,iE (fun h16 h17 h18=>⟨?a3,?a4⟩) (fun h16 h17 h18=>⟨?a5,?a6,?a7,fun h19 h20=>⟨?a8,?a9⟩⟩)⟩,fun h13=>⟨fun h14 h15 h16=>⟨?aa,iL (fun h17 => ?ab) (fun h17=>⟨?ac,fun x_6 q_6=>iL (fun h18 h19 h20=>⟨?ad,?ae,?af,fun h21 h22=>⟨?ag,?ah⟩⟩) (fun h18=>⟨?ai,fun h19 h20=>⟨?aj,?ak⟩⟩)⟩)⟩,fun h14 h15 h16=>⟨?al,?am⟩⟩⟩) (fun h12=>⟨fun h13 h14 h15=>⟨?an,iL (fun h16 => ?ao) (fun h16=>⟨?ap,fun x_6 q_6=>iL (fun h17 h18 h19=>⟨?aq,?ar,?au,fun h20 h21=>⟨?av,?aw⟩⟩) (fun h17=>⟨(by simp only [List.length_singleton,true_and];omega),fun h18 h19=>⟨?ax,?ay⟩⟩)⟩)⟩,fun h13 h14 h15=>⟨?az,?b0⟩⟩)⟩⟩) (fun h11=>(by unfold nj;rw [sj (by omega) (fun j hj=>q_0.2 j (by omega)) (fun j hj=>q_1.2 j (by omega)),<-q_3.2.1,yI (by omega)];rfl))⟩)⟩)⟩)⟩))
 case a|b=>unfold nj;rw [yJ (by omega)];rfl
 case c|i|p|a0=>refine ⟨0,?_⟩;(repeat' (first | exact trivial | rfl | omega | assumption | apply And.intro))
 case d|f|j|r|s|z=>omega
 case e|g=>(try dsimp only [D] at *);unfold nj;rw [yK (by omega) (i:=x_0) (by omega) (by (try dsimp only [D]);omega)];rfl
 case h|o|y=>simp only [aE,aJ] at *;omega
 case k|l|m|n=>(try dsimp only [D] at *);unfold nj;rw [wP (by omega) (i:=x_1) (by omega) (by unfold jn;(try dsimp only [D]);omega)];rfl
 case q=>
  have ok:=q_1.2 x_2 (by omega);unfold jn at ok;(try dsimp only [D] at *)
  exact ⟨0,by omega,⟨rfl,trivial⟩,(Bs (rA _)).symm,trivial⟩
 case t|w=>
  have ok:=q_1.2 x_2 (by omega);unfold jn at ok;(try dsimp only [D] at *)
  simp only [aE];omega
 case u|v=>
  have ok:=q_1.2 x_2 (by omega);unfold jn at ok;(try dsimp only [D] at *)
  rw [o6];omega
 case x=>
  have ok:=q_1.2 x_2 (by omega);unfold jn at ok;(try dsimp only [D] at *)
  exact ⟨x_3 + 1,by omega,by omega,⟨by omega,trivial⟩,DI (by omega) (by omega),(by trivial)⟩
 case a1=>
  have hs:=q_0.2 x_3.1 (by omega);have hr:=eI hs.1 hs.2
  exact ⟨0,by omega,⟨rfl,rfl,trivial⟩,trivial⟩
 case a2|a3|a5|a8|al|an|aq|av|ax|az=>
  have hs:=q_0.2 x_3.1 (by omega);have hr:=eI hs.1 hs.2
  simp only [aE];omega
 case a4=>
  have hs:=q_0.2 x_3.1 (by omega);have hr:=eI hs.1 hs.2
  exact ⟨x_5 + 1,by omega,by omega,⟨by omega,Jp h13 (by omega),trivial⟩,(by trivial)⟩
 case a6|a7=>
  have hs:=q_0.2 x_3.1 (by omega);have hr:=eI hs.1 hs.2
  rw [rA];omega
 case a9=>
  have hs:=q_0.2 x_3.1 (by omega);have hr:=eI hs.1 hs.2
  exact ⟨x_5 + 1,by omega,by omega,⟨by omega,Jq h13 (by omega),trivial⟩,(by trivial)⟩
 case aa|ab|ac|ad|ae|af|ag|ah|ai|aj|ak=>exact absurd (h14.symm.trans h13) (by decide)
 case am|b0=>
  have hs:=q_0.2 x_3.1 (by omega);have hr:=eI hs.1 hs.2
  have hfu:iG (kr x_3.2.1) (16 * (x_4:Int)) (dU (nth (.int .i64) s x_3.1)).toNat=false:=Mr (by omega) h13
  have hn:=DG q_3.2.2.1 ((Bv q_3.2.2.1 (by omega) (by omega)).symm.trans hfu)
  exact ⟨x_4 + 1,⟨by omega,by rw [<-q_4.2,show 40 - x_4=(40 - (x_4 + 1)) + 1 by omega,Re hfu,show 16 * ((x_4 + 1:Nat):Int)=16 * (x_4:Int) + 16 by omega]⟩,by omega,⟨by omega,trivial⟩,(by trivial)⟩
 case ao=>
  have hs:=q_0.2 x_3.1 (by omega);have hr:=eI hs.1 hs.2;have e5:x_5=Int.toNat (dU (nth (.int .i64) s x_3.1)):=(by omega);rw [e5] at h13;have hb:=q_4.2.symm.trans (Bu h13);rw [Bw q_3.2.2.1 (by omega) _ _ (by omega)] at hb
  unfold nj;rw [sj (by omega) (fun j hj=>q_0.2 j (by omega)) (fun j hj=>q_1.2 j (by omega)),<-q_3.2.1,o5 (by omega),if_pos (by rw [hb];omega)];rfl
 case ap=>
  have hs:=q_0.2 x_3.1 (by omega);have hr:=eI hs.1 hs.2
  exact ⟨0,by omega,⟨rfl,trivial⟩,(Bs (rA _)).symm,trivial⟩
 case ar|au=>
  have hs:=q_0.2 x_3.1 (by omega);have hr:=eI hs.1 hs.2
  rw [o6];omega
 case aw=>
  have hs:=q_0.2 x_3.1 (by omega);have hr:=eI hs.1 hs.2
  exact ⟨x_6 + 1,by omega,by omega,⟨by omega,trivial⟩,DI (by omega) (by omega),(by trivial)⟩
 case ay=>
  have hs:=q_0.2 x_3.1 (by omega);have hr:=eI hs.1 hs.2;have e5:x_5=Int.toNat (dU (nth (.int .i64) s x_3.1)):=(by omega);rw [e5] at h13;have hb:=q_4.2.symm.trans (Bu h13);rw [Bw q_3.2.2.1 (by omega) _ _ (by omega)] at hb
  exact ⟨(x_3.1 + 1,x_3.2.1++[(16 * (x_4:Int),dU (nth (.int .i64) s x_3.1),())],_),⟨by omega,by rw [<-q_3.2.1,o5 (k:=x_3.1) (by omega),if_neg (by rw [hb];omega),hb],GS q_3.2.2.1 (by refine ⟨?_,?_,?_,?_⟩ <;> simp only <;> omega),by simp only [List.length_append,List.length_singleton];omega,by simp only [List.length_append,List.length_singleton];omega⟩,by simp only;omega,⟨by simp only;omega,rfl,trivial⟩,Bt (by omega),(by trivial)⟩
theorem Tryz.P4:bK Tryz.prog Tryz.B.eT Tryz.X 101 [.slice (.int .i64), .slice aW] [.slice (.int .i64), .int .i64] (fun _=>True) (fun x y=>y=(fun x=>nj x) x):=
 bM (X:=Tryz.X) Tryz.J8 Tryz.func101 (by kernel_rfl) (fun x=>ET x.1 x.2) (fun x hw hp=>P3 x.1 x.2 hw)
end Go.Proofs.YtgokjhhcfemnhabGreatDoor

namespace Go.Proofs.YtgokjhhcfemnhabGreatDoor
open Go.Vg Go.Mrl
def Ii (a:List Int) (b:List Int):cN:=[(0,fun st=>{X:=Nat,inv:=fun i=>i<=a.length/\∀j,j < i->nth (.int .i64) a j=nth (.int .i64) b j,bA:=fun i=>a.length - i,aS:=fun i=>[(5,sI i)],aX:=[0,1]})]
theorem C4 (a:List Int) (b:List Int) (hw:eE [.slice (.int .i64), .slice (.int .i64)] (a,b)):(cM Tryz.B [] Tryz.f45 (Ii a b) [.slice (.int .i64), .slice (.int .i64)] [.bool] (fun x y=>y=(fun x=>lP x.1 x.2) x) (a,b)).holds:=by
 refine holds_of (p:=
  let za:=List.length a
  let zb:=(↑(List.length b):Int)
  let zc:=false=lP a b
  let zd:=Ty.int IntKind.i64
  ((za<=aJ)->((List.length b<=aJ)->((((↑za:Int) != zb)=true->(zc))/\(((↑za:Int) != zb)=false->(∃(x:Nat),(x<=za/\∀(j:Nat),j < x->nth zd a j=nth zd b j)/\((0:Int)=(↑x:Int)/\True)/\True)/\(∀x_0:Nat,((x_0<=za/\∀(j:Nat),j < x_0->nth zd a j=nth zd b j)->((za<=aJ)->(((decide ((↑x_0:Int) < (↑za:Int)))=true->((0:Int)<=(↑x_0:Int)/\(↑x_0:Int) < (↑za:Int))/\((0:Int)<=(↑x_0:Int)/\(↑x_0:Int) < zb)/\(((nth zd a x_0 != nth zd b x_0)=true->(zc))/\((nth zd a x_0 != nth zd b x_0)=false->((aE (↑x_0:Int))->((aE (1:Int))->(aE ((↑x_0:Int) + (1:Int)))/\(∃(x':Nat),(x'<=za/\∀(j:Nat),j < x'->nth zd a j=nth zd b j)/\za - x' < za - x_0/\((↑x_0:Int) + (1:Int)=(↑x':Int)/\True)/\True))))))/\((decide ((↑x_0:Int) < (↑za:Int)))=false->(true=lP a b))))))))))) (by kernel_rfl) ?_
 dsimp -iota -proj -eta only
 refine fun h0 h1=>iN (fun h2=>(OI (by assumption))) (fun h2=>⟨(⟨0,⟨by omega,fun j hj=>by omega⟩,⟨rfl,trivial⟩,trivial⟩),fun x_0 q_0 h3=>iL (fun h4=>⟨?a,?b,iN (fun h5=>(Rf (i:=x_0) (by assumption))) (fun h5 h6 h7=>⟨(by simp only [aE,aJ] at *;omega),(⟨x_0 + 1,⟨by omega,sk q_0.2 (by assumption)⟩,by omega,⟨by omega,trivial⟩,(by trivial)⟩)⟩)⟩) (fun h4=>(Ms (by assumption) (fun i hi=>q_0.2 i (by omega))))⟩)
 case a|b=>omega
theorem Tryz.tX:bK Tryz.prog Tryz.B.eT Tryz.X 45 [.slice (.int .i64), .slice (.int .i64)] [.bool] (fun _=>True) (fun x y=>y=(fun x=>lP x.1 x.2) x):=
 bM (X:=Tryz.X) (bW Tryz.bX) Tryz.func45 (by kernel_rfl) (fun x=>Ii x.1 x.2) (fun x hw hp=>C4 x.1 x.2 hw)
def Ij (a:List (List UInt8)) (b:List (List UInt8)):cN:=[(0,fun st=>{X:=Nat,inv:=fun i=>i<=a.length/\∀j,j < i->nth .str a j=nth .str b j,bA:=fun i=>a.length - i,aS:=fun i=>[(5,sI i)],aX:=[0,1]})]
theorem Ik (a:List (List UInt8)) (b:List (List UInt8)) (hw:eE [.slice .str, .slice .str] (a,b)):(cM Tryz.B [] Tryz.f23 (Ij a b) [.slice .str, .slice .str] [.bool] (fun x y=>y=(fun x=>kN x.1 x.2) x) (a,b)).holds:=by
 refine holds_of (p:=
  let za:=List.length a
  let zb:=(↑(List.length b):Int)
  let zc:=false=kN a b
  ((za<=aJ)->((List.length b<=aJ)->((((↑za:Int) != zb)=true->(zc))/\(((↑za:Int) != zb)=false->(∃(x:Nat),(x<=za/\∀(j:Nat),j < x->nth Ty.str a j=nth Ty.str b j)/\((0:Int)=(↑x:Int)/\True)/\True)/\(∀x_0:Nat,((x_0<=za/\∀(j:Nat),j < x_0->nth Ty.str a j=nth Ty.str b j)->((za<=aJ)->(((decide ((↑x_0:Int) < (↑za:Int)))=true->((0:Int)<=(↑x_0:Int)/\(↑x_0:Int) < (↑za:Int))/\((0:Int)<=(↑x_0:Int)/\(↑x_0:Int) < zb)/\(((!nth Ty.str a x_0 == nth Ty.str b x_0)=true->(zc))/\((!nth Ty.str a x_0 == nth Ty.str b x_0)=false->((aE (↑x_0:Int))->((aE (1:Int))->(aE ((↑x_0:Int) + (1:Int)))/\(∃(x':Nat),(x'<=za/\∀(j:Nat),j < x'->nth Ty.str a j=nth Ty.str b j)/\za - x' < za - x_0/\((↑x_0:Int) + (1:Int)=(↑x':Int)/\True)/\True))))))/\((decide ((↑x_0:Int) < (↑za:Int)))=false->(true=kN a b))))))))))) (by kernel_rfl) ?_
 dsimp -iota -proj -eta only
 refine fun h0 h1=>iN (fun h2=>(OJ (by assumption))) (fun h2=>⟨(⟨0,⟨by omega,fun j hj=>by omega⟩,⟨rfl,trivial⟩,trivial⟩),fun x_0 q_0 h3=>iL (fun h4=>⟨?a,?b,⟨fun h5 => ?c,fun h5 h6 h7=>⟨?d,?e⟩⟩⟩) (fun h4=>(Mt (by assumption) (fun i hi=>q_0.2 i (by omega))))⟩)
 case a|b=>omega
 case c=>
  simp only [bl,reduceCtorEq] at h5
  exact Rg (i:=x_0) (by assumption)
 case d=>
  simp only [bl,reduceCtorEq] at h5
  simp only [aE,aJ] at *;omega
 case e=>
  simp only [bl,reduceCtorEq] at h5
  exact ⟨x_0 + 1,⟨by omega,sk q_0.2 (by assumption)⟩,by omega,⟨by omega,trivial⟩,(by trivial)⟩
theorem Tryz.Il:bK Tryz.prog Tryz.B.eT Tryz.X 23 [.slice .str, .slice .str] [.bool] (fun _=>True) (fun x y=>y=(fun x=>kN x.1 x.2) x):=
 bM (X:=Tryz.X) (bW Tryz.bX) Tryz.func23 (by kernel_rfl) (fun x=>Ij x.1 x.2) (fun x hw hp=>Ik x.1 x.2 hw)
end Go.Proofs.YtgokjhhcfemnhabGreatDoor

namespace Go.Proofs.YtgokjhhcfemnhabGreatDoor
open Go.Vg Go.Mrl
def Im (a:List (D aH)) (b:List (D aH)):cN:=[(0,fun st=>{X:=Nat,inv:=fun i=>i<=a.length/\∀j,j < i->nth aH a j=nth aH b j,bA:=fun i=>a.length - i,aS:=fun i=>[(5,sI i)],aX:=[0,1]})]
theorem C5 (a:List (D aH)) (b:List (D aH)) (hw:eE [.slice aH, .slice aH] (a,b)):(cM Tryz.B [] Tryz.f69 (Im a b) [.slice aH, .slice aH] [.bool] (fun x y=>y=(fun x=>oa x.1 x.2) x) (a,b)).holds:=by
 refine holds_of (p:=
  let za:=List.length a
  let zb:=(↑(List.length b):Int)
  let zc:=false=oa a b
  ((za<=aJ)->((List.length b<=aJ)->((((↑za:Int) != zb)=true->(zc))/\(((↑za:Int) != zb)=false->(∃(x:Nat),(x<=za/\∀(j:Nat),j < x->nth aH a j=nth aH b j)/\((0:Int)=(↑x:Int)/\True)/\True)/\(∀x_0:Nat,((x_0<=za/\∀(j:Nat),j < x_0->nth aH a j=nth aH b j)->((za<=aJ)->(((decide ((↑x_0:Int) < (↑za:Int)))=true->((0:Int)<=(↑x_0:Int)/\(↑x_0:Int) < (↑za:Int))/\((0:Int)<=(↑x_0:Int)/\(↑x_0:Int) < zb)/\(((!(decide ((nth aH a x_0).1=(nth aH b x_0).1) && (decide ((nth aH a x_0).2.1=(nth aH b x_0).2.1) && (decide ((nth aH a x_0).2.2.1=(nth aH b x_0).2.2.1) && true))))=true->(zc))/\((!(decide ((nth aH a x_0).1=(nth aH b x_0).1) && (decide ((nth aH a x_0).2.1=(nth aH b x_0).2.1) && (decide ((nth aH a x_0).2.2.1=(nth aH b x_0).2.2.1) && true))))=false->((aE (↑x_0:Int))->((aE (1:Int))->(aE ((↑x_0:Int) + (1:Int)))/\(∃(x':Nat),(x'<=za/\∀(j:Nat),j < x'->nth aH a j=nth aH b j)/\za - x' < za - x_0/\((↑x_0:Int) + (1:Int)=(↑x':Int)/\True)/\True))))))/\((decide ((↑x_0:Int) < (↑za:Int)))=false->(true=oa a b))))))))))) (by kernel_rfl) ?_
 dsimp -iota -proj -eta only
 refine fun h0 h1=>iN (fun h2=>(OO (by assumption))) (fun h2=>⟨(⟨0,⟨by omega,fun j hj=>by omega⟩,⟨rfl,trivial⟩,trivial⟩),fun x_0 q_0 h3=>iL (fun h4=>⟨?a,?b,⟨fun h5 => ?c,fun h5 h6 h7=>⟨?d,?e⟩⟩⟩) (fun h4=>(Mu (by assumption) (fun i hi=>q_0.2 i (by omega))))⟩)
 case a|b=>omega
 case c=>
  simp only [bl,reduceCtorEq] at h5
  exact Rm (i:=x_0) (fun e=>by rw [e] at h5;simp at h5)
 case d=>
  simp only [bl,reduceCtorEq] at h5
  simp only [aE,aJ] at *;omega
 case e=>
  simp only [bl,reduceCtorEq] at h5
  have h:=h5;simp at h;exact ⟨x_0 + 1,⟨by omega,sk q_0.2 (Prod.ext h.1 (Prod.ext h.2.1 (Prod.ext h.2.2 rfl)))⟩,by omega,⟨by omega,trivial⟩,(by trivial)⟩
theorem Tryz.C6:bK Tryz.prog Tryz.B.eT Tryz.X 69 [.slice aH, .slice aH] [.bool] (fun _=>True) (fun x y=>y=(fun x=>oa x.1 x.2) x):=
 bM (X:=Tryz.X) (bW Tryz.bX) Tryz.func69 (by kernel_rfl) (fun x=>Im x.1 x.2) (fun x hw hp=>C5 x.1 x.2 hw)
end Go.Proofs.YtgokjhhcfemnhabGreatDoor

namespace Go.Proofs.YtgokjhhcfemnhabGreatDoor
open Go.Vg Go.Mrl
def Io (l:List (D aA)) (s:List UInt8):cN:=[
 (0,fun st=>{X:=Nat × Int × Int,inv:=fun x=>x.1<=l.length/\iX l s x.1 0 x.2.1 x.2.2,bA:=fun x=>l.length - x.1,aS:=fun x=>[(14,sI x.1),(6,sI x.2.1),(7,sI x.2.2)],aX:=[1,12,13]}),
 (2,fun st=>{X:=Nat × Int × Int,inv:=fun x=>x.1<=(nth aA l (aZ (.int .i64) st 14).toNat).2.2.1.length/\iX l s (aZ (.int .i64) st 14).toNat x.1 x.2.1 x.2.2,bA:=fun x=>(nth aA l (aZ (.int .i64) st 14).toNat).2.2.1.length - x.1,aS:=fun x=>[(22,sI x.1),(6,sI x.2.1),(7,sI x.2.2)],aX:=[1,8,9,12,13,14,15,16,17,18,19,20,21]})]
theorem Sg (l:List (D aA)) (s:List UInt8) (hw:eE [.slice aA, .str] (l,s)):(cM Tryz.B [] Tryz.f218 (Io l s) [.slice aA, .str] [.int .i64, .int .i64] (fun x y=>y=(fun x=>dF x) x) (l,s)).holds:=by
 refine holds_of (p:=
  let za:=List.length l
  let zb:=Nat × Int × Int
  let zc:=fun (x_0:Nat × Int × Int)=>(↑x_0.1:Int)
  let zd:=fun (x_0:Nat × Int × Int)=>(nth aA l x_0.1).2.2.1
  let ze:=fun (x_0:Nat × Int × Int)=>List.length (zd x_0)
  let zf:=aE (1:Int)
  let zg:=fun (x_1:Nat × Int × Int)=>zc x_1 + (1:Int)
  let zh:=fun (x_0:Nat × Int × Int)=>(nth aA l x_0.1).2.2.2.1
  let zi:=fun (x_0:Nat × Int × Int)=>((nth aA l x_0.1).1=(nth aA l x_0.1).1/\(nth aA l x_0.1).2.1=(nth aA l x_0.1).2.1/\zd x_0=zd x_0/\zh x_0=zh x_0/\True)/\@List.nil (Int × Int × Int × List UInt8 × Bool × Unit) = @List.nil (Int × Int × Int × List UInt8 × Bool × Unit)/\@List.nil (List UInt8 × Int × Bool × Unit) = @List.nil (List UInt8 × Int × Bool × Unit)/\@List.nil Int = @List.nil Int/\@List.nil (List UInt8) = @List.nil (List UInt8)/\True
  let zj:=fun (x_1:Nat × Int × Int) (x_0:Nat × Int × Int)=>((aE (zc x_1))->((zf)->(aE (zg x_1))/\(∃(x':zb),(Prod.fst x'<=ze x_0/\iX l s x_0.1 (Prod.fst x') (Prod.snd x').1 (Prod.snd x').2)/\ze x_0 - Prod.fst x' < ze x_0 - x_1.1/\(zg x_1=(↑(Prod.fst x'):Int)/\x_1.2.1=(Prod.snd x').1/\x_1.2.2=(Prod.snd x').2/\True)/\zi x_0)))
  let zk:=dF (l,s)
  ((za<=aJ)->(∃(x:zb),(Prod.fst x<=za/\iX l s (Prod.fst x) (0:Nat) (Prod.snd x).1 (Prod.snd x).2)/\((0:Int)=(↑(Prod.fst x):Int)/\(-1:Int)=(Prod.snd x).1/\(-1:Int)=(Prod.snd x).2/\True)/\True)/\(∀x_0:Nat × Int × Int,((x_0.1<=za/\iX l s x_0.1 (0:Nat) x_0.2.1 x_0.2.2)->(((decide (zc x_0 < (↑za:Int)))=true->((0:Int)<=zc x_0/\zc x_0 < (↑za:Int))/\((ze x_0<=aJ)->(∃(x:zb),(Prod.fst x<=ze x_0/\iX l s x_0.1 (Prod.fst x) (Prod.snd x).1 (Prod.snd x).2)/\((0:Int)=(↑(Prod.fst x):Int)/\x_0.2.1=(Prod.snd x).1/\x_0.2.2=(Prod.snd x).2/\True)/\True)/\(∀x_1:Nat × Int × Int,((x_1.1<=ze x_0/\iX l s x_0.1 x_1.1 x_1.2.1 x_1.2.2)->(((decide (zc x_1 < (↑(ze x_0):Int)))=true->((0:Int)<=zc x_1/\zc x_1 < (↑(ze x_0):Int))/\(((!(nth aN (zd x_0) x_1.1).1 == s)=true->(zj x_1 x_0))/\((!(nth aN (zd x_0) x_1.1).1 == s)=false->(((!(nth aN (zd x_0) x_1.1).2.2.1)=true->((zc x_0,zc x_1)=zk))/\((!(nth aN (zd x_0) x_1.1).2.2.1)=false->(((decide (x_1.2.1 < (0:Int)))=true->((aE (zc x_1))->((zf)->(aE (zg x_1))/\(∃(x':zb),(Prod.fst x'<=ze x_0/\iX l s x_0.1 (Prod.fst x') (Prod.snd x').1 (Prod.snd x').2)/\ze x_0 - Prod.fst x' < ze x_0 - x_1.1/\(zg x_1=(↑(Prod.fst x'):Int)/\zc x_0=(Prod.snd x').1/\zc x_1=(Prod.snd x').2/\True)/\zi x_0))))/\((decide (x_1.2.1 < (0:Int)))=false->(zj x_1 x_0))))))))/\((decide (zc x_1 < (↑(ze x_0):Int)))=false->((aE (zc x_0))->((zf)->(aE (zg x_0))/\(∃(x':zb),(Prod.fst x'<=za/\iX l s (Prod.fst x') (0:Nat) (Prod.snd x').1 (Prod.snd x').2)/\za - Prod.fst x' < za - x_0.1/\(zg x_0=(↑(Prod.fst x'):Int)/\x_1.2.1=(Prod.snd x').1/\x_1.2.2=(Prod.snd x').2/\True)/\True)))))))))/\((decide (zc x_0 < (↑za:Int)))=false->(x_0.2=zk))))))) (by kernel_rfl) ?_
 dsimp -iota -proj -eta only
 refine fun h0=>⟨(⟨(0,-1,-1),⟨by omega,iX.start l s⟩,⟨rfl,rfl,rfl,trivial⟩,trivial⟩),fun x_0 q_0=>iL (fun h1=>⟨?a,fun h2=>⟨(⟨(0,x_0.2),⟨by omega,q_0.2⟩,⟨rfl,rfl,rfl,trivial⟩,trivial⟩),fun x_1 q_1=>iL (fun h3=>⟨?b,⟨fun h4 h5 h6=>⟨?c,?d⟩,fun h4=>iB (fun h5 => ?e) (fun h5=>iL (fun h6 h7 h8=>⟨?f,?g⟩) (fun h6 h7 h8=>⟨?h,?i⟩))⟩⟩) (fun h3 h4 h5=>⟨(by simp only [aE,aJ] at *;omega),(by exact ⟨(x_0.1 + 1,x_1.2),⟨by omega,q_1.2.row (by omega)⟩,by simp only;omega,⟨by simp only;omega,rfl,rfl,trivial⟩,(by trivial)⟩)⟩)⟩⟩) (fun h1=>((q_0.2.done (by omega)).symm))⟩
 case a|b=>omega
 case c|f|h=>
  simp only [bl,reduceCtorEq] at h4
  simp only [aE,aJ] at *;omega
 case d=>
  simp only [bl,reduceCtorEq] at h4
  exact ⟨(x_1.1 + 1,x_1.2),⟨by omega,q_1.2.skip (by assumption)⟩,by simp only;omega,⟨by simp only;omega,rfl,rfl,trivial⟩,(by trivial)⟩
 case e=>
  simp only [bl,reduceCtorEq] at h4
  exact (q_1.2.Ur (by omega) (by omega) (by assumption) (by assumption)).symm
 case g=>
  simp only [bl,reduceCtorEq] at h4
  exact ⟨(x_1.1 + 1,_,_),⟨by omega,q_1.2.CM (by omega) (by omega) (by assumption) (by simp_all) (by omega)⟩,by simp only;omega,⟨by simp only;omega,rfl,rfl,trivial⟩,(by trivial)⟩
 case i=>
  simp only [bl,reduceCtorEq] at h4
  exact ⟨(x_1.1 + 1,x_1.2),⟨by omega,q_1.2.more (by simp_all) (by omega)⟩,by simp only;omega,⟨by simp only;omega,rfl,rfl,trivial⟩,(by trivial)⟩
theorem Tryz.Sh:bK Tryz.prog Tryz.B.eT Tryz.X 218 [.slice aA, .str] [.int .i64, .int .i64] (fun _=>True) (fun x y=>y=(fun x=>dF x) x):=
 bM (X:=Tryz.X) (bW Tryz.bX) Tryz.func218 (by kernel_rfl) (fun x=>Io x.1 x.2) (fun x hw hp=>Sg x.1 x.2 hw)
noncomputable def Tryz.Ip:List (FuncId × (Bool × bQ)):=[(49,(true,aL [.str] [.err] (fun _=>True) (fun s=>aT (aG s)))),
 (50,(true,aL [.str] [.int .i64] (fun _=>True) (fun s=>aG s))),
 (156,(true,aL [.str] [.int .u32] (fun _=>True) (fun s=>(dD s:Int)))),
 (83,(true,aL [.str] [.int .i64] (fun _=>True) (fun s=>(dD s:Int)))),
 (11,(true,aL [.err, .int .i64] [.bool] (fun _=>True) (fun x=>cT x.1 x.2))),
 (218,(true,aL [.slice aA, .str] [.int .i64, .int .i64] (fun _=>True) (fun x=>dF x)))]
theorem Tryz.Nu:bT Tryz.prog Tryz.B Tryz.X Tryz.Ip:=
 aP (aC Tryz.iR) (aP (aC Tryz.eY) (aP (aC Tryz.jC) (aP (aC Tryz.iS) (aP (aC Tryz.jl) (aP (aC Tryz.Sh) (bW Tryz.bX))))))
end Go.Proofs.YtgokjhhcfemnhabGreatDoor

