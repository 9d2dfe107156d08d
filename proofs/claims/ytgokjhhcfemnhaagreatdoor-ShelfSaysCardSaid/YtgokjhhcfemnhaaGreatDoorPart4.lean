/- A part of the proof that the law ShelfSaysCard holds of the given program: facts that are used there. -/
import Derived.Test.YtgokjhhcfemnhaaGreatDoorPart3
import Derived.Test.YtgokjhhcfemnhaaGreatDoorChecked
import Derived.Lib.LaidTab
import Derived.Lib.ItoaNum
import Derived.Shelf.Strconv.Itoa3
import Derived.Shelf.Strconv.AtoiAll
import Derived.Shelf.Strings.Split
import Derived.Shelf.Small.Wraps
import Derived.Shelf.Strings.Prefix
import Derived.Shelf.LaysM
import Derived.Shelf.LaysC
import Derived.Sort.Grow
import Derived.Lib.SplitLaws
import Derived.Lib.Builder
import Derived.Lib.UnsafeStr
import Derived.Lib.Strings
import Derived.Lib.Slices
import Derived.Lib.Walk
import Derived.Laws.Externs
import Derived.Deep.Heap
import Derived.Shelf.RegionOpenPlain
import Derived.RangeFuncLeaves
import Derived.Shelf.Abstract
import Derived.WalkKit
import Derived.OwnWalkIn
import Derived.TacticsInMore
import Derived.LoopNIn
import Derived.LoopIn
import Derived.BigRegionIn
import Derived.Deep.LoopGhost
import Derived.Deep.RegionLaw
import Derived.Lib.SliceRun
import Derived.Shelf.SlicesG.Delete
import Derived.Deep.Upon
set_option linter.unusedSimpArgs false
set_option linter.unusedVariables false
set_option maxRecDepth 100000
set_option maxHeartbeats 4000000
namespace Go.Proofs.YtgokjhhcfemnhaaGreatDoor
open Go.Vg
noncomputable def Tryz.B:Cx:={eT:=95,τ:=[(2,(.int .i64)),(3,(.int .i64)),(4, .bool),(5,(.int .u8)),(7,(.prod (.int .i64) (.prod (.int .i64) (.prod .bool (.prod (.int .u8) .unit))))),(9, .str),(12,(.int .u64)),(13,(.prod .str (.prod (.int .u64) .unit))),(18,(.prod .di .unit)),(21,(.int .i32)),(22,(.slice bW)),(25, .di),(26, .err),(27, .err),(31, .di),(36,(.slice af)),(37,(.prod (.slice af) .unit)),(38,(.prod (.slice af) .unit)),(39,(.int .u64)),(40,(.slice ai)),(41,(.slice aq)),(42,af),(43,af),(44,bW),(45,bW),(54,(.slice .str)),(57,(.slice aD)),(71,(.slice uG)),(77,(.slice (.int .i64))),(83,uG),(84,uG),(85,(.slice eR)),(86,(.slice jV)),(87,aD),(88,aD),(92,ai),(93,ai),(95,(.int .i64)),(99,(.slice mZ)),(100,IE),(101,IE),(104,(.prod .di (.prod (.int .i64) (.prod (.slice af) .unit)))),(105,(.prod .di (.prod (.int .i64) (.prod (.slice af) .unit)))),(121,(.slice yi)),(122,CE),(123,CE),(134,eR),(135,eR),(142,aq),(143,aq),(150,(.int .u64)),(153,(.slice (.int .u8))),(159,mZ),(160,mZ),(170, .di),(171,(.prod .di (.prod (.int .i64) .unit))),(172,(.prod .di (.prod (.int .i64) .unit))),(173,(.prod .str (.prod (.int .i64) .unit))),(174,(.prod .str (.prod (.int .i64) .unit))),(176,jV),(177,jV),(178,yi),(179,yi),(193,(.slice (.slice (.int .i64)))),(197,(.slice zM)),(198,zM),(199,zM),(205,(.int .u32)),(213,(.prod .di (.prod (.slice (.int .u8)) .unit))),(214,(.prod .di (.prod (.slice (.int .u8)) .unit))),(235,(.int .i64)),(244,(.int .i64)),(253,(.int .u64)),(263,(.prod (.int .u8) (.prod (.int .u8) .unit))),(264,(.prod (.int .u8) (.prod (.int .u8) .unit))),(269,(.prod .str (.prod .str (.prod .err .unit)))),(270,(.prod .str (.prod .str (.prod .err .unit)))),(280,(.prod .str .unit)),(281,(.prod .str .unit))],sN:=[(200,(600,4)),(262,(256,5)),(265,(16,264)),(271,(24,5)),(283,(20,39)),(284,(65,5)),(285,(32,5)),(286,(64,5)),(289,(0,16))],Γ:=[],N:=0,eqs:=[93,135,143,177],jn:=[25,31,59,212],lf:=[(170,(9,174))],mM:=[(214,5)]}
theorem Tryz.bz:TyOK Tryz.prog Tryz.B:=Je (n:=16) (by kernel_rfl)
structure Tryz.KC (w:World):Prop where
 pow:Lib.TabIs Tryz.prog w "internal/strconv.uint64pow10" .u64 Lib.pow10Tab
 max:∃m,w.cell? ⟨0,0,none⟩=some (.int .i64 m)
 Lf:∃ev,w.cell? ⟨3,0,none⟩=some ev/\(ev = .nilIface\/∃te pe,ev = .iface te pe)
 Lg:∃ev,w.cell? ⟨4,0,none⟩=some ev/\(ev = .nilIface\/∃te pe,ev = .iface te pe)
theorem Tryz.KD:Tryz.prog.globalNamed "internal/strconv.uint64pow10" = some 5:=by kernel_rfl
theorem rJ {w:World} {b o:Nat} {v:Value} (h:w.cell? ⟨b,o,none⟩=some v):b < w.heap.size:=by
 unfold World.cell? at h
 by_cases hb:b < w.heap.size
 ·exact hb
 ·have h0:w.heap[b]?=none:=Array.getElem?_eq_none (by omega)
  simp [h0] at h
theorem pC {w w':World} {b o:Nat} (h:w'.heap[b]?=w.heap[b]?):w'.cell? ⟨b,o,none⟩=w.cell? ⟨b,o,none⟩:=by
 unfold World.cell?
 rw [h]
theorem Gu {P:Program} {w w':World} {nm:String} {g:Nat} (hg:P.globalNamed nm=some g) (h:w'.heap[g]?=w.heap[g]?):w'.var? P nm=w.var? P nm:=by
 unfold World.var?
 rw [hg]
 simp [h]
noncomputable def Tryz.X:Ext:=
 {KP with
  pV:=Tryz.KC
  wy:=[5,0,3,4]
  yu:=fun {w} h b hb=>by
   obtain ⟨h1,⟨m,h2⟩,⟨e3,h3,_⟩,⟨e4,h4,_⟩⟩:=h
   simp only [List.mem_cons,List.not_mem_nil,or_false] at hb
   rcases hb with rfl | rfl | rfl | rfl
   ·have h1':=World.var?_cell Tryz.KD h1 0
    exact rJ (v:=.int .u64 1) (by simpa [Lib.pow10Tab] using h1')
   ·exact rJ h2
   ·exact rJ h3
   ·exact rJ h4
  tR:=fun {w w'} h hb=>by
   obtain ⟨h1,⟨m,h2⟩,⟨e3,h3,h5⟩,⟨e4,h4,h6⟩⟩:=h
   refine ⟨?_,⟨m,?_⟩,⟨e3,?_,h5⟩,⟨e4,?_,h6⟩⟩
   ·unfold Lib.TabIs at h1 ⊢
    rw [Gu Tryz.KD (hb 5 (by simp))];exact h1
   ·rw [pC (hb 0 (by simp))];exact h2
   ·rw [pC (hb 3 (by simp))];exact h3
   ·rw [pC (hb 4 (by simp))];exact h4}
end Go.Proofs.YtgokjhhcfemnhaaGreatDoor

namespace Go.Proofs.YtgokjhhcfemnhaaGreatDoor
open Go.Vg Go.Mrl
def AM (s:List UInt8):cC:=[(0,fun st=>{X:=Nat,inv:=fun i=>i<=s.length/\∀j,j < i->dF j (br s j)=false,bV:=fun i=>s.length - i,ba:=fun i=>[(15, .s (.one (.d (.int .i64) i)))],ag:=fun _=>[],keep:=[0,14],cL:=[]})]
def AN (s:List UInt8):cC:=[(0,fun st=>{X:=Nat,inv:=fun i=>i<=s.length/\∀j,j < i->dF j (br s j)=false,bV:=fun i=>s.length - i,ba:=fun i=>[(3, .s (.one (.d (.int .i64) i)))],ag:=fun _=>[],keep:=[0],cL:=[]})]
theorem Ic (s:List UInt8) (hw:er [.str] s):(cG Tryz.B [] Tryz.f87 (AM s) [.str] [.err] (fun x y=>y=(fun s=>au (ao s)) x) s).holds:=by
 refine holds_of (p:=
  let za:=au (ao s)
  let zb:=aF.no (1:Int)=za
  let zc:=List.length s
  let zd:=fun (x_0:Nat)=>(↑(UInt8.toNat (br s x_0)):Int)
  let ze:=aF.no (3:Int)=za
  let zf:=fun (x_0:Nat)=>((aC (↑x_0:Int))->((aC (1:Int))->(aC ((↑x_0:Int) + (1:Int)))/\(∃(x':Nat),(x'<=zc/\∀(j:Nat),j < x'->dF j (br s j)=false)/\zc - x' < zc - x_0/\((↑x_0:Int) + (1:Int)=(↑x':Int)/\True)/\True)))
  let zg:=fun (x_0:Nat)=>(((zd x_0 != (95:Int))=true->(ze))/\((zd x_0 != (95:Int))=false->(zf x_0)))
  let zh:=fun (x_0:Nat)=>((((↑x_0:Int) == (0:Int))=true->(ze))/\(((↑x_0:Int) == (0:Int))=false->(((decide (zd x_0 < (48:Int)))=true->(zg x_0))/\((decide (zd x_0 < (48:Int)))=false->(((decide (zd x_0 > (57:Int)))=true->(zg x_0))/\((decide (zd x_0 > (57:Int)))=false->(zf x_0)))))))
  (((s == @List.nil UInt8)=true->(zb))/\((s == @List.nil UInt8)=false->((zc<=av)->(((decide ((↑zc:Int) > (8:Int)))=true->(zb))/\((decide ((↑zc:Int) > (8:Int)))=false->((zc<=av)->(∃(x:Nat),(x<=zc/\∀(j:Nat),j < x->dF j (br s j)=false)/\((0:Int)=(↑x:Int)/\True)/\True)/\(∀x_0:Nat,((x_0<=zc/\∀(j:Nat),j < x_0->dF j (br s j)=false)->(((decide ((↑x_0:Int) < (↑zc:Int)))=true->((0:Int)<=(↑x_0:Int)/\(↑x_0:Int) < (↑zc:Int))/\(((decide (zd x_0 < (97:Int)))=true->(zh x_0))/\((decide (zd x_0 < (97:Int)))=false->(((decide (zd x_0 > (122:Int)))=true->(zh x_0))/\((decide (zd x_0 > (122:Int)))=false->(zf x_0))))))/\((decide ((↑x_0:Int) < (↑zc:Int)))=false->(aF.nil=za)))))))))))) (by kernel_rfl) ?_
 dsimp -iota -proj -eta only
 refine iQ (fun h0 => ?a) (fun h0 h1=>iL (fun h2 => ?b) (fun h2 h3=>⟨(⟨0,⟨by omega,fun j hj=>by omega⟩,⟨rfl,trivial⟩,trivial⟩),fun x_0 q_0=>iL (fun h4=>⟨?c,iL (fun h5=>iQ (fun h6 => ?d) (fun h6=>iL (fun h7=>iN (fun h8 => ?e) (fun h8 h9 h10=>⟨?f,?g⟩)) (fun h7=>iL (fun h8=>iN (fun h9 => ?h) (fun h9 h10 h11=>⟨?i,?j⟩)) (fun h8 h9 h10=>⟨?k,?l⟩)))) (fun h5=>iL (fun h6=>iQ (fun h7 => ?m) (fun h7=>iL (fun h8=>iN (fun h9 => ?n) (fun h9 h10 h11=>⟨?o,?p⟩)) (fun h8=>iL (fun h9=>iN (fun h10 => ?q) (fun h10 h11 h12=>⟨?r,?s⟩)) (fun h9 h10 h11=>⟨?t,?u⟩)))) (fun h6 h7 h8=>⟨?v,?w⟩))⟩) (fun h4 => ?x)⟩))
 case a|b=>rw [pL (by first | omega | simp [h0])];rfl
 case c|f|o|r|t=>omega
 case d|e|h|m|n|q=>
  have hl:s.length≠0:=fun e=>h0 (List.length_eq_zero_iff.1 e)
  rw [dx (i:=x_0) (by omega) (by omega) (fK.2 (by omega))];rfl
 case g|j|l|p|s|u|w=>exact ⟨x_0 + 1,⟨by omega,js q_0.2 (fj.2 (by omega))⟩,by omega,⟨by omega,trivial⟩,trivial⟩
 case i|k|v=>simp only [aC,av] at *;omega
 case x=>
  have hl:s.length≠0:=fun e=>h0 (List.length_eq_zero_iff.1 e)
  rw [oa (by omega) (fun i hi=>q_0.2 i (by omega))];rfl
theorem Tryz.kJ:bj Tryz.prog Tryz.B.eT Tryz.X 87 [.str] [.err] (fun _=>True) (fun x y=>y=(fun s=>au (ao s)) x):=
 bN (X:=Tryz.X) (bA Tryz.bz) Tryz.func87 (by kernel_rfl) (fun x=>AM x) (fun x hw hp=>Ic x hw)
theorem AO (s:List UInt8) (hw:er [.str] s):(cG Tryz.B [] Tryz.f94 (AN s) [.str] [.int .i64] (fun x y=>y=(fun s=>ao s) x) s).holds:=by
 refine holds_of (p:=
  let za:=List.length s
  let zb:=za<=av
  let zc:=(↑za:Int)
  let zd:=ao s
  let ze:=fun (x_0:Nat)=>(0:Int)<=(↑x_0:Int)/\(↑x_0:Int) < zc
  let zf:=fun (x_0:Nat)=>(↑(UInt8.toNat (br s x_0)):Int)
  let zg:=fun (x_0:Nat) => !decide (zf x_0<=(122:Int))
  let zh:=(3:Int)=zd
  let zi:=fun (x_0:Nat)=>((aC (↑x_0:Int))->((aC (1:Int))->(aC ((↑x_0:Int) + (1:Int)))/\(∃(x':Nat),(x'<=za/\∀(j:Nat),j < x'->dF j (br s j)=false)/\za - x' < za - x_0/\((↑x_0:Int) + (1:Int)=(↑x':Int)/\True)/\True)))
  let zj:=fun (x_0:Nat)=>((((↑x_0:Int) == (0:Int))=true->(zh))/\(((↑x_0:Int) == (0:Int))=false->(zi x_0)))
  let zk:=fun (x_0:Nat)=>((((↑x_0:Int) == (0:Int))=true->(zh))/\(((↑x_0:Int) == (0:Int))=false->(((!zf x_0 == (95:Int))=true->(zh))/\((!zf x_0 == (95:Int))=false->(zi x_0)))))
  let zl:=fun (x_0:Nat)=>(ze x_0)/\(((zg x_0)=true->(zk x_0))/\((zg x_0)=false->(zi x_0)))
  ((zb)->(((decide (zc < (1:Int)))=true->((1:Int)=zd))/\((decide (zc < (1:Int)))=false->((zb)->(((decide (zc > (8:Int)))=true->((1:Int)=zd))/\((decide (zc > (8:Int)))=false->(∃(x:Nat),(x<=za/\∀(j:Nat),j < x->dF j (br s j)=false)/\((0:Int)=(↑x:Int)/\True)/\True)/\(∀x_0:Nat,((x_0<=za/\∀(j:Nat),j < x_0->dF j (br s j)=false)->((zb)->(((decide ((↑x_0:Int) < zc))=true->(ze x_0)/\(((decide (zf x_0>=(97:Int)))=true->(ze x_0)/\(ze x_0)/\(((decide (zf x_0>=(48:Int)))=true->(ze x_0)/\(((decide (zf x_0<=(57:Int)))=true->(((zg x_0)=true->(zj x_0))/\((zg x_0)=false->(zi x_0))))/\((decide (zf x_0<=(57:Int)))=false->(zl x_0))))/\((decide (zf x_0>=(48:Int)))=false->(zl x_0))))/\((decide (zf x_0>=(97:Int)))=false->(ze x_0)/\(((decide (zf x_0>=(48:Int)))=true->(ze x_0)/\(((decide (zf x_0<=(57:Int)))=true->(zj x_0))/\((decide (zf x_0<=(57:Int)))=false->(ze x_0)/\(zk x_0))))/\((decide (zf x_0>=(48:Int)))=false->(ze x_0)/\(zk x_0))))))/\((decide ((↑x_0:Int) < zc))=false->((0:Int)=zd))))))))))))) (by kernel_rfl) ?_
 dsimp -iota -proj -eta only
 refine fun h0=>iL (fun h1 => ?a) (fun h1 h2=>iL (fun h3 => ?b) (fun h3=>⟨(⟨0,⟨by omega,fun j hj=>by omega⟩,⟨rfl,trivial⟩,trivial⟩),fun x_0 q_0 h4=>iL (fun h5=>⟨?c,iE (fun h6=>⟨?d,?e,iE (fun h7=>⟨?f,iE (fun h8=>⟨fun h9=>iQ (fun h10 => ?g) (fun h10 h11 h12=>⟨?h,?i⟩),fun h9 h10 h11=>⟨?j,?k⟩⟩) (fun h8=>⟨?l,⟨fun h9=>iQ (fun h10 => ?m) (fun h10=>⟨fun h11 => ?n,fun h11 h12 h13=>⟨?o,?p⟩⟩),fun h9 h10 h11=>⟨?q,?r⟩⟩⟩)⟩) (fun h7=>⟨?s,⟨fun h8=>iQ (fun h9 => ?t) (fun h9=>⟨fun h10 => ?u,fun h10 h11 h12=>⟨?v,?w⟩⟩),fun h8 h9 h10=>⟨?x,?y⟩⟩⟩)⟩) (fun h6=>⟨?z,iE (fun h7=>⟨?a0,iE (fun h8=>iQ (fun h9 => ?a1) (fun h9 h10 h11=>⟨(by simp only [aC,av] at *;omega),(⟨x_0 + 1,⟨by omega,js q_0.2 (fj.2 (by omega))⟩,by omega,⟨by omega,trivial⟩,trivial⟩)⟩)) (fun h8=>⟨?a2,iQ (fun h9 => ?a3) (fun h9=>⟨fun h10 => ?a4,fun h10 h11 h12=>⟨?a5,?a6⟩⟩)⟩)⟩) (fun h7=>⟨?a7,iQ (fun h8 => ?a8) (fun h8=>⟨fun h9 => ?a9,fun h9 h10 h11=>⟨?aa,?ab⟩⟩)⟩)⟩)⟩) (fun h5=>(by rw [oa (by omega) (fun i hi=>q_0.2 i (by omega))]))⟩))
 case a|b=>rw [pL (by omega)]
 case c|d|e|f|l|s|z|a0|a2|a7=>omega
 case g|m|a9=>
  simp only [bl,reduceCtorEq] at h9
  rw [dx (i:=x_0) (by omega) (by omega) (fK.2 (by omega))]
 case h|j|aa=>
  simp only [bl,reduceCtorEq] at h9
  omega
 case i|k|r|ab=>
  simp only [bl,reduceCtorEq] at h9
  exact ⟨x_0 + 1,⟨by omega,js q_0.2 (fj.2 (by omega))⟩,by omega,⟨by omega,trivial⟩,trivial⟩
 case n=>
  simp only [bl,reduceCtorEq] at h9 h11
  rw [dx (i:=x_0) (by omega) (by omega) (fK.2 (by omega))]
 case o=>
  simp only [bl,reduceCtorEq] at h9 h11
  omega
 case p=>
  simp only [bl,reduceCtorEq] at h9 h11
  exact ⟨x_0 + 1,⟨by omega,js q_0.2 (fj.2 (by omega))⟩,by omega,⟨by omega,trivial⟩,trivial⟩
 case q=>
  simp only [bl,reduceCtorEq] at h9
  simp only [aC,av] at *;omega
 case t=>
  simp only [bl,reduceCtorEq] at h8
  rw [dx (i:=x_0) (by omega) (by omega) (fK.2 (by omega))]
 case u=>
  simp only [bl,reduceCtorEq] at h8 h10
  rw [dx (i:=x_0) (by omega) (by omega) (fK.2 (by omega))]
 case v=>
  simp only [bl,reduceCtorEq] at h8 h10
  omega
 case w=>
  simp only [bl,reduceCtorEq] at h8 h10
  exact ⟨x_0 + 1,⟨by omega,js q_0.2 (fj.2 (by omega))⟩,by omega,⟨by omega,trivial⟩,trivial⟩
 case x=>
  simp only [bl,reduceCtorEq] at h8
  omega
 case y=>
  simp only [bl,reduceCtorEq] at h8
  exact ⟨x_0 + 1,⟨by omega,js q_0.2 (fj.2 (by omega))⟩,by omega,⟨by omega,trivial⟩,trivial⟩
 case a1|a3|a8=>rw [dx (i:=x_0) (by omega) (by omega) (fK.2 (by omega))]
 case a4=>
  simp only [bl,reduceCtorEq] at h10
  rw [dx (i:=x_0) (by omega) (by omega) (fK.2 (by omega))]
 case a5=>
  simp only [bl,reduceCtorEq] at h10
  simp only [aC,av] at *;omega
 case a6=>
  simp only [bl,reduceCtorEq] at h10
  exact ⟨x_0 + 1,⟨by omega,js q_0.2 (fj.2 (by omega))⟩,by omega,⟨by omega,trivial⟩,trivial⟩
theorem Tryz.fH:bj Tryz.prog Tryz.B.eT Tryz.X 94 [.str] [.int .i64] (fun _=>True) (fun x y=>y=(fun s=>ao s) x):=
 bN (X:=Tryz.X) (bA Tryz.bz) Tryz.func94 (by kernel_rfl) (fun x=>AN x) (fun x hw hp=>AO x hw)
theorem Jt (e:aF) (n:Int) (hw:er [.err, .int .i64] (e,n)):(cG Tryz.B [] Tryz.f9 [] [.err, .int .i64] [.bool] (fun x y=>y=(fun x=>cT x.1 x.2) x) (e,n)).holds:=by
 refine holds_of (p:=
  let za:=cT e n
  (((aF.isNil e)=true->((n == (0:Int))=za))/\((aF.isNil e)=false->(((aF.C7 e)=true->(((decide (n > (0:Int)))=true->((aF.num e == n)=za))/\((decide (n > (0:Int)))=false->(false=za))))/\((aF.C7 e)=false->(false=za)))))) (by kernel_rfl) ?_
 dsimp -iota -proj -eta only
 refine ⟨fun h0 => ?a,fun h0=>⟨fun h1=>iL (fun h2 => ?b) (fun h2 => ?c),fun h1 => ?d⟩⟩
 case a|b|c|d=>cases e <;> simp_all [aF.isNil,aF.C7,aF.num,cT] <;> omega
theorem Tryz.mc:bj Tryz.prog Tryz.B.eT Tryz.X 9 [.err, .int .i64] [.bool] (fun _=>True) (fun x y=>y=(fun x=>cT x.1 x.2) x):=
 bN (X:=Tryz.X) (bA Tryz.bz) Tryz.func9 (by kernel_rfl) (fun _=>[]) (fun x hw hp=>Jt x.1 x.2 hw)
noncomputable def Tryz.CT:List (FuncId × (Bool × aY)):=[(87,(true,aM [.str] [.err] (fun _=>True) (fun s=>au (ao s)))),
 (94,(true,aM [.str] [.int .i64] (fun _=>True) (fun s=>ao s))),
 (9,(true,aM [.err, .int .i64] [.bool] (fun _=>True) (fun x=>cT x.1 x.2)))]
theorem Tryz.Gv:bn Tryz.prog Tryz.B Tryz.X Tryz.CT:=
 aG (ar Tryz.kJ) (aG (ar Tryz.fH) (aG (ar Tryz.mc) (bA Tryz.bz)))
end Go.Proofs.YtgokjhhcfemnhaaGreatDoor

namespace Go.Proofs.YtgokjhhcfemnhaaGreatDoor
open Go.Vg Go.Mrl
def CU (e:D af):cC:=[
 (0,fun st=>{X:=Nat,inv:=fun i=>i<=List.length e.2.1/\∀j,j < i->bJ (nth ai e.2.1 j)=0,bV:=fun i=>List.length e.2.1 - i,ba:=fun i=>[(34,sI i)],keep:=[1,32,33]}),
 (2,fun st=>{X:=Nat,inv:=fun i=>i<=List.length e.2.2.1/\∀j,j < i->bx e.2.1.length (nth aq e.2.2.1 j)=0,bV:=fun i=>List.length e.2.2.1 - i,ba:=fun i=>[(73,sI i)],keep:=[1,71,72]})]
theorem Gw (e:D af) (hw:er [af] e):(cG Tryz.B Tryz.CT Tryz.f51 (CU e) [af] [.err] (fun x y=>y=(fun e=>au (ay e)) x) e).holds:=by
 refine holds_of (p:=
  let za:=au (ao e.1)
  let zb:=au (ay e)
  let zc:=e.2.1
  let zd:=List.length zc
  let ze:=zd<=av
  let zf:=(↑zd:Int)
  let zg:=aF.no (2:Int)=zb
  let zh:=e.2.2.1
  let zi:=List.length zh
  let zj:=fun (x_0:Nat)=>au (ao (nth ai zc x_0).1)
  let zk:=aF.no (1:Int)=zb
  let zl:=fun (x_0:Nat)=>(nth ai zc x_0).2.2.1
  let zm:=fun (x_0:Nat)=>(↑x_0:Int) + (1:Int)
  let zn:=(e.1=e.1/\zc=zc/\zh=zh/\True)/\True
  (True)/\(((!aF.isNil za)=true->(za=zb))/\((!aF.isNil za)=false->((ze)->(((decide (zf < (1:Int)))=true->(zg))/\((decide (zf < (1:Int)))=false->((ze)->(((decide (zf > (6:Int)))=true->(zg))/\((decide (zf > (6:Int)))=false->((zi<=av)->(((decide ((↑zi:Int) > (36:Int)))=true->(zg))/\((decide ((↑zi:Int) > (36:Int)))=false->((ze)->(∃(x:Nat),(x<=zd/\∀(j:Nat),j < x->bJ (nth ai zc j)=(0:Int))/\((0:Int)=(↑x:Int)/\True)/\True)/\(∀x_0:Nat,((x_0<=zd/\∀(j:Nat),j < x_0->bJ (nth ai zc j)=(0:Int))->(((decide ((↑x_0:Int) < zf))=true->((0:Int)<=(↑x_0:Int)/\(↑x_0:Int) < zf)/\(True)/\(((!aF.isNil (zj x_0))=true->(zj x_0=zb))/\((!aF.isNil (zj x_0))=false->(((decide ((nth ai zc x_0).2.1 < (1:Int)))=true->(zk))/\((decide ((nth ai zc x_0).2.1 < (1:Int)))=false->(((decide ((nth ai zc x_0).2.1 > (1000000:Int)))=true->(zk))/\((decide ((nth ai zc x_0).2.1 > (1000000:Int)))=false->(((decide (zl x_0 < (0:Int)))=true->(zk))/\((decide (zl x_0 < (0:Int)))=false->(((decide (zl x_0>=(256:Int)))=true->(zk))/\((decide (zl x_0>=(256:Int)))=false->((16:Int)≠(0:Int))/\(∀x_1:Int,((x_1=Int.tmod (zl x_0) (16:Int))->(((x_1 != (0:Int))=true->(zk))/\((x_1 != (0:Int))=false->((aC (↑x_0:Int))->((aC (1:Int))->(aC (zm x_0))/\(∃(x':Nat),(x'<=zd/\∀(j:Nat),j < x'->bJ (nth ai zc j)=(0:Int))/\zd - x' < zd - x_0/\(zm x_0=(↑x':Int)/\True)/\zn))))))))))))))))))/\((decide ((↑x_0:Int) < zf))=false->((zi<=av)->(∃(x:Nat),(x<=zi/\∀(j:Nat),j < x->bx zd (nth aq zh j)=(0:Int))/\((0:Int)=(↑x:Int)/\True)/\True)/\(∀x_1:Nat,((x_1<=zi/\∀(j:Nat),j < x_1->bx zd (nth aq zh j)=(0:Int))->(((decide ((↑x_1:Int) < (↑zi:Int)))=true->((0:Int)<=(↑x_1:Int)/\(↑x_1:Int) < (↑zi:Int))/\(((decide ((nth aq zh x_1).1 < (0:Int)))=true->(zk))/\((decide ((nth aq zh x_1).1 < (0:Int)))=false->((ze)->(((decide ((nth aq zh x_1).1>=zf))=true->(zk))/\((decide ((nth aq zh x_1).1>=zf))=false->(((decide ((nth aq zh x_1).2.1 < (0:Int)))=true->(zk))/\((decide ((nth aq zh x_1).2.1 < (0:Int)))=false->(((decide ((nth aq zh x_1).2.1>=(40:Int)))=true->(zk))/\((decide ((nth aq zh x_1).2.1>=(40:Int)))=false->(((decide ((nth aq zh x_1).2.2.1 < (-2147483648:Int)))=true->(zk))/\((decide ((nth aq zh x_1).2.2.1 < (-2147483648:Int)))=false->(((decide ((nth aq zh x_1).2.2.1 > (2147483647:Int)))=true->(zk))/\((decide ((nth aq zh x_1).2.2.1 > (2147483647:Int)))=false->((aC (↑x_1:Int))->((aC (1:Int))->(aC (zm x_1))/\(∃(x':Nat),(x'<=zi/\∀(j:Nat),j < x'->bx zd (nth aq zh j)=(0:Int))/\zi - x' < zi - x_1/\(zm x_1=(↑x':Int)/\True)/\zn)))))))))))))))))/\((decide ((↑x_1:Int) < (↑zi:Int)))=false->(aF.nil=zb))))))))))))))))))))))) (by kernel_rfl) ?_
 dsimp -iota -proj -eta only
 refine ⟨trivial,iB (fun h0=>(by rw [nH (w8 (dI _) h0)])) (fun h0 h1=>iL (fun h2=>(by rw [fk (bY (by assumption:(au (ao e.1)).isNil=true)) (.inl (by omega))];rfl)) (fun h2 h3=>iL (fun h4=>(by rw [fk (bY (by assumption:(au (ao e.1)).isNil=true)) (.inr (.inl (by omega)))];rfl)) (fun h4 h5=>iL (fun h6=>(by rw [fk (bY (by assumption:(au (ao e.1)).isNil=true)) (.inr (.inr (by omega)))];rfl)) (fun h6 h7=>⟨?a,fun x_0 q_0=>iL (fun h8=>⟨?b,trivial,iB (fun h9=>(by have hp:=w8 (dI _) h9;rw [(b5 (bY (by assumption:(au (ao e.1)).isNil=true)) (bK (by omega) (by omega) (by omega)) q_0.2 (by omega) (uR hp) (by omega))])) (fun h9=>iL (fun h10=>(by rw [(b5 (bY (by assumption:(au (ao e.1)).isNil=true)) (bK (by omega) (by omega) (by omega)) q_0.2 (by omega) (eu (bY h9) (.inl (by assumption))) (by decide))];rfl)) (fun h10=>iL (fun h11=>(by rw [(b5 (bY (by assumption:(au (ao e.1)).isNil=true)) (bK (by omega) (by omega) (by omega)) q_0.2 (by omega) (eu (bY h9) (.inr (.inl (by assumption)))) (by decide))];rfl)) (fun h11=>iL (fun h12=>(by rw [(b5 (bY (by assumption:(au (ao e.1)).isNil=true)) (bK (by omega) (by omega) (by omega)) q_0.2 (by omega) (eu (bY h9) (.inr (.inr (.inl (by assumption))))) (by decide))];rfl)) (fun h12=>iE (fun h13=>(by rw [(b5 (bY (by assumption:(au (ao e.1)).isNil=true)) (bK (by omega) (by omega) (by omega)) q_0.2 (by omega) (eu (bY h9) (.inr (.inr (.inr (.inl (by assumption)))))) (by decide))];rfl)) (fun h13=>⟨(by trivial),fun x_1 q_1=>iN (fun h14=>(by have hb:=pj h12 q_1;rw [(b5 (bY (by assumption:(au (ao e.1)).isNil=true)) (bK (by omega) (by omega) (by omega)) q_0.2 (by omega) (eu (bY h9) (.inr (.inr (.inr (.inr (by rw [hb] at h14;exact (Int.lt_iff_le_and_ne.2 ⟨Int.emod_nonneg _ (by decide),fun e'=>h14 e'.symm⟩))))))) (by decide))];rfl)) (fun h14 h15 h16=>⟨?c,(by have hb:=pj h12 q_1;exact ⟨x_0 + 1,⟨by omega,iz q_0.2 (zZ (bY h9) h10 h11 h12 (Int.le_of_lt_add_one (show _ < (255:Int) + 1 from h13)) (hb.symm.trans h14))⟩,by omega,⟨by omega,trivial⟩,(by trivial)⟩)⟩)⟩)))))⟩) (fun h8 h9=>⟨?d,fun x_1 q_1=>iL (fun h10=>⟨?e,iL (fun h11=>(by rw [(cm (bY (by assumption:(au (ao e.1)).isNil=true)) (bK (by omega) (by omega) (by omega)) (fun j hj=>q_0.2 j (by omega)) q_1.2 (by omega) (ey (.inl (by assumption))))];rfl)) (fun h11 h12=>iE (fun h13=>(by rw [(cm (bY (by assumption:(au (ao e.1)).isNil=true)) (bK (by omega) (by omega) (by omega)) (fun j hj=>q_0.2 j (by omega)) q_1.2 (by omega) (ey (.inr (.inl (by assumption)))))];rfl)) (fun h13=>iL (fun h14=>(by rw [(cm (bY (by assumption:(au (ao e.1)).isNil=true)) (bK (by omega) (by omega) (by omega)) (fun j hj=>q_0.2 j (by omega)) q_1.2 (by omega) (ey (.inr (.inr (.inl (by assumption))))))];rfl)) (fun h14=>iE (fun h15=>(by rw [(cm (bY (by assumption:(au (ao e.1)).isNil=true)) (bK (by omega) (by omega) (by omega)) (fun j hj=>q_0.2 j (by omega)) q_1.2 (by omega) (ey (.inr (.inr (.inr (.inl (by assumption)))))))];rfl)) (fun h15=>iL (fun h16=>(by rw [(cm (bY (by assumption:(au (ao e.1)).isNil=true)) (bK (by omega) (by omega) (by omega)) (fun j hj=>q_0.2 j (by omega)) q_1.2 (by omega) (ey (.inr (.inr (.inr (.inr (.inl (by assumption))))))))];rfl)) (fun h16=>iL (fun h17=>(by rw [(cm (bY (by assumption:(au (ao e.1)).isNil=true)) (bK (by omega) (by omega) (by omega)) (fun j hj=>q_0.2 j (by omega)) q_1.2 (by omega) (ey (.inr (.inr (.inr (.inr (.inr (by assumption))))))))];rfl)) (fun h17 h18 h19=>⟨?f,(⟨x_1 + 1,⟨by omega,iz q_1.2 (D1 (by assumption) (by assumption) (by assumption) (Int.le_of_lt_add_one (show _ < (39:Int) + 1 from h15)) (by assumption) (by assumption))⟩,by omega,⟨by omega,trivial⟩,(by trivial)⟩)⟩))))))⟩) (fun h10=>(by rw [xe (bY (by assumption:(au (ao e.1)).isNil=true)) (bK (by omega) (by omega) (by omega)) (fun j hj=>q_0.2 j (by omega)) (fun j hj=>q_1.2 j (by omega))];rfl))⟩)⟩))))⟩
 case a|d=>exact ⟨0,⟨Nat.zero_le _,fun j hj=>absurd hj (Nat.not_lt_zero _)⟩,⟨rfl,trivial⟩,trivial⟩
 case b|e=>omega
 case c|f=>simp only [aC,av] at *;omega
theorem Tryz.xA:bj Tryz.prog Tryz.B.eT Tryz.X 51 [af] [.err] (fun _=>True) (fun x y=>y=(fun e=>au (ay e)) x):=
 bN (X:=Tryz.X) Tryz.Gv Tryz.func51 (by kernel_rfl) (fun x=>CU x) (fun x hw hp=>Gw x hw)
end Go.Proofs.YtgokjhhcfemnhaaGreatDoor

namespace Go.Proofs.YtgokjhhcfemnhaaGreatDoor
open Go.Shelf
def Tryz.BY:Go.Shelf.Ren:=⟨fun | 103=>124 | 210=>154 | 206=>177 | n=>n,fun | 9=>9 | 4=>4 | 24=>219 | 3=>3 | n=>n,fun | n=>n⟩
theorem Tryz.Ju:Go.Proofs.Lays.n103 Tryz.prog Tryz.BY:={
 mixed:=by kernel_rfl
 f103:=Tryz.func124.trans (congrArg some (by kernel_rfl))
 f206:=Tryz.func177.trans (congrArg some (by kernel_rfl))
 f210:=Tryz.func154.trans (congrArg some (by kernel_rfl))
 t3:=Tryz.underlying3
 a3:=Tryz.isAgg3
 z3:=Tryz.sizeOf3
 v3:=Tryz.zeroValue3
 t4:=Tryz.underlying4
 a4:=Tryz.isAgg4
 z4:=Tryz.sizeOf4
 v4:=Tryz.zeroValue4
 t9:=Tryz.underlying9
 a9:=Tryz.isAgg9
 z9:=Tryz.sizeOf9
 v9:=Tryz.zeroValue9
 t24:=Tryz.underlying219
 a24:=Tryz.isAgg219
 z24:=Tryz.sizeOf219
 v24:=Tryz.zeroValue219}
open Go.RowKit in
theorem Tryz.strings_CutPrefix (s p:ByteArray) (w:World) :
  Calls Tryz.prog 124 #[.string s, .string p] w fun e w'=>e = .returned (.tuple #[.string ⟨(Lib.trimPrefix s.data.toList p.data.toList).toArray⟩, .bool (Lib.hasPrefix s.data.toList p.data.toList)])/\w'=w:=Any.strings_CutPrefix Tryz.Ju s p w
def Tryz.AP:Go.Shelf.Ren:=⟨fun | 171=>118 | 243=>141 | 246=>169 | 283=>185 | 284=>186 | 285=>187 | 286=>188 | 129=>153 | 317=>193 | 318=>194 | 319=>195 | 320=>196 | 337=>197 | 338=>198 | n=>n,fun | 3=>3 | 9=>9 | 2=>2 | 4=>4 | 171=>271 | 0=>0 | 53=>39 | 37=>153 | 5=>5 | 173=>273 | 212=>283 | 51=>205 | 20=>20 | 213=>284 | 46=>150 | 232=>285 | 233=>286 | n=>n,fun | 17=>5 | 18=>6 | 19=>7 | n=>n⟩
theorem Tryz.Ie:Go.Proofs.LaysM.n171 Tryz.prog Tryz.AP:={
 mixed:=by kernel_rfl
 f129:=Tryz.func153.trans (congrArg some (by kernel_rfl))
 f171:=Tryz.func118.trans (congrArg some (by kernel_rfl))
 f243:=Tryz.func141.trans (congrArg some (by kernel_rfl))
 f246:=Tryz.func169.trans (congrArg some (by kernel_rfl))
 f283:=Tryz.func185.trans (congrArg some (by kernel_rfl))
 f284:=Tryz.func186.trans (congrArg some (by kernel_rfl))
 f285:=Tryz.func187.trans (congrArg some (by kernel_rfl))
 f286:=Tryz.func188.trans (congrArg some (by kernel_rfl))
 f317:=Tryz.func193.trans (congrArg some (by kernel_rfl))
 f318:=Tryz.func194.trans (congrArg some (by kernel_rfl))
 f319:=Tryz.func195.trans (congrArg some (by kernel_rfl))
 f320:=Tryz.func196.trans (congrArg some (by kernel_rfl))
 f337:=Tryz.func197.trans (congrArg some (by kernel_rfl))
 f338:=Tryz.func198.trans (congrArg some (by kernel_rfl))
 t0:=Tryz.underlying0
 a0:=Tryz.isAgg0
 z0:=Tryz.sizeOf0
 v0:=Tryz.zeroValue0
 t2:=Tryz.underlying2
 a2:=Tryz.isAgg2
 z2:=Tryz.sizeOf2
 v2:=Tryz.zeroValue2
 t3:=Tryz.underlying3
 a3:=Tryz.isAgg3
 z3:=Tryz.sizeOf3
 v3:=Tryz.zeroValue3
 t4:=Tryz.underlying4
 a4:=Tryz.isAgg4
 z4:=Tryz.sizeOf4
 v4:=Tryz.zeroValue4
 t5:=Tryz.underlying5
 a5:=Tryz.isAgg5
 z5:=Tryz.sizeOf5
 v5:=Tryz.zeroValue5
 t9:=Tryz.underlying9
 a9:=Tryz.isAgg9
 z9:=Tryz.sizeOf9
 v9:=Tryz.zeroValue9
 t20:=Tryz.underlying20
 a20:=Tryz.isAgg20
 z20:=Tryz.sizeOf20
 v20:=Tryz.zeroValue20
 t37:=Tryz.underlying153
 a37:=Tryz.isAgg153
 z37:=Tryz.sizeOf153
 v37:=Tryz.zeroValue153
 t46:=Tryz.underlying150
 a46:=Tryz.isAgg150
 z46:=Tryz.sizeOf150
 v46:=Tryz.zeroValue150
 t51:=Tryz.underlying205
 a51:=Tryz.isAgg205
 z51:=Tryz.sizeOf205
 v51:=Tryz.zeroValue205
 t53:=Tryz.underlying39
 a53:=Tryz.isAgg39
 z53:=Tryz.sizeOf39
 v53:=Tryz.zeroValue39
 t171:=Tryz.underlying271
 a171:=Tryz.isAgg271
 z171:=Tryz.sizeOf271
 v171:=Tryz.zeroValue271
 t173:=Tryz.underlying273
 a173:=Tryz.isAgg273
 z173:=Tryz.sizeOf273
 v173:=Tryz.zeroValue273
 t212:=Tryz.underlying283
 a212:=Tryz.isAgg283
 z212:=Tryz.sizeOf283
 v212:=Tryz.zeroValue283
 t213:=Tryz.underlying284
 a213:=Tryz.isAgg284
 z213:=Tryz.sizeOf284
 t232:=Tryz.underlying285
 a232:=Tryz.isAgg285
 z232:=Tryz.sizeOf285
 v232:=Tryz.zeroValue285
 t233:=Tryz.underlying286
 a233:=Tryz.isAgg286
 z233:=Tryz.sizeOf286
 v233:=Tryz.zeroValue286
 g17:=by kernel_rfl
 g18:=by kernel_rfl
 g19:=by kernel_rfl
 i0:=by kernel_rfl
 i2:=by kernel_rfl
 i3:=by kernel_rfl
 i4:=by kernel_rfl
 i5:=by kernel_rfl
 i9:=by kernel_rfl
 i20:=by kernel_rfl
 i37:=by kernel_rfl
 i46:=by kernel_rfl
 i51:=by kernel_rfl
 i53:=by kernel_rfl
 i171:=by kernel_rfl
 i173:=by kernel_rfl
 i212:=by kernel_rfl
 i232:=by kernel_rfl
 i233:=by kernel_rfl
 m17:=by kernel_rfl
 m18:=by kernel_rfl
 m19:=by kernel_rfl}
open Go.RowKit Go.Sort Go.Lib in
theorem Tryz.strconv_Itoa (n:Int) (h0 : -9223372036854775808<=n) (h1:n<=9223372036854775807) (w:World) (htab:Lib.TabIs Tryz.prog w "internal/strconv.uint64pow10" .u64 Lib.pow10Tab) :
  Calls Tryz.prog 118 #[.int .i64 n] w fun e w'=>e = .returned (.string ⟨(Lib.itoa n).toArray⟩)/\∃k os,w'=grow (w.drewN k) os:=Any.strconv_Itoa Tryz.Ie n h0 h1 w htab
def Tryz.AQ:Go.Shelf.Ren:=⟨fun | 172=>117 | 244=>139 | 245=>140 | 247=>164 | 279=>165 | 280=>166 | 281=>167 | 282=>168 | 287=>182 | 316=>183 | 171=>118 | 205=>184 | 321=>191 | 322=>192 | 243=>141 | 246=>169 | 283=>185 | 284=>186 | 285=>187 | 286=>188 | 129=>153 | 317=>193 | 318=>194 | 319=>195 | 320=>196 | 337=>197 | 338=>198 | n=>n,fun | 9=>9 | 3=>3 | 75=>27 | 76=>203 | 4=>4 | 5=>5 | 167=>244 | 37=>153 | 0=>0 | 85=>245 | 2=>2 | 168=>247 | 53=>39 | 175=>267 | 46=>150 | 210=>270 | 127=>233 | 145=>281 | 143=>279 | 21=>21 | 171=>271 | 173=>273 | 212=>283 | 51=>205 | 20=>20 | 213=>284 | 232=>285 | 233=>286 | 80=>215 | n=>n,fun | 15=>3 | 16=>4 | 17=>5 | 18=>6 | 19=>7 | n=>n⟩
theorem Tryz.tH:Go.Proofs.LaysC.n172 Tryz.prog Tryz.AQ:={
 mixed:=by kernel_rfl
 f129:=Tryz.func153.trans (congrArg some (by kernel_rfl))
 f171:=Tryz.func118.trans (congrArg some (by kernel_rfl))
 f172:=Tryz.func117.trans (congrArg some (by kernel_rfl))
 f205:=Tryz.func184.trans (congrArg some (by kernel_rfl))
 f243:=Tryz.func141.trans (congrArg some (by kernel_rfl))
 f244:=Tryz.func139.trans (congrArg some (by kernel_rfl))
 f245:=Tryz.func140.trans (congrArg some (by kernel_rfl))
 f246:=Tryz.func169.trans (congrArg some (by kernel_rfl))
 f247:=Tryz.func164.trans (congrArg some (by kernel_rfl))
 f279:=Tryz.func165.trans (congrArg some (by kernel_rfl))
 f280:=Tryz.func166.trans (congrArg some (by kernel_rfl))
 f281:=Tryz.func167.trans (congrArg some (by kernel_rfl))
 f282:=Tryz.func168.trans (congrArg some (by kernel_rfl))
 f283:=Tryz.func185.trans (congrArg some (by kernel_rfl))
 f284:=Tryz.func186.trans (congrArg some (by kernel_rfl))
 f285:=Tryz.func187.trans (congrArg some (by kernel_rfl))
 f286:=Tryz.func188.trans (congrArg some (by kernel_rfl))
 f287:=Tryz.func182.trans (congrArg some (by kernel_rfl))
 f316:=Tryz.func183.trans (congrArg some (by kernel_rfl))
 f317:=Tryz.func193.trans (congrArg some (by kernel_rfl))
 f318:=Tryz.func194.trans (congrArg some (by kernel_rfl))
 f319:=Tryz.func195.trans (congrArg some (by kernel_rfl))
 f320:=Tryz.func196.trans (congrArg some (by kernel_rfl))
 f321:=Tryz.func191.trans (congrArg some (by kernel_rfl))
 f322:=Tryz.func192.trans (congrArg some (by kernel_rfl))
 f337:=Tryz.func197.trans (congrArg some (by kernel_rfl))
 f338:=Tryz.func198.trans (congrArg some (by kernel_rfl))
 t0:=Tryz.underlying0
 a0:=Tryz.isAgg0
 z0:=Tryz.sizeOf0
 v0:=Tryz.zeroValue0
 t2:=Tryz.underlying2
 a2:=Tryz.isAgg2
 z2:=Tryz.sizeOf2
 v2:=Tryz.zeroValue2
 t3:=Tryz.underlying3
 a3:=Tryz.isAgg3
 z3:=Tryz.sizeOf3
 v3:=Tryz.zeroValue3
 t4:=Tryz.underlying4
 a4:=Tryz.isAgg4
 z4:=Tryz.sizeOf4
 v4:=Tryz.zeroValue4
 t5:=Tryz.underlying5
 a5:=Tryz.isAgg5
 z5:=Tryz.sizeOf5
 v5:=Tryz.zeroValue5
 t9:=Tryz.underlying9
 a9:=Tryz.isAgg9
 z9:=Tryz.sizeOf9
 v9:=Tryz.zeroValue9
 t20:=Tryz.underlying20
 a20:=Tryz.isAgg20
 z20:=Tryz.sizeOf20
 v20:=Tryz.zeroValue20
 t21:=Tryz.underlying21
 a21:=Tryz.isAgg21
 z21:=Tryz.sizeOf21
 v21:=Tryz.zeroValue21
 t37:=Tryz.underlying153
 a37:=Tryz.isAgg153
 z37:=Tryz.sizeOf153
 v37:=Tryz.zeroValue153
 t46:=Tryz.underlying150
 a46:=Tryz.isAgg150
 z46:=Tryz.sizeOf150
 v46:=Tryz.zeroValue150
 t51:=Tryz.underlying205
 a51:=Tryz.isAgg205
 z51:=Tryz.sizeOf205
 v51:=Tryz.zeroValue205
 t53:=Tryz.underlying39
 a53:=Tryz.isAgg39
 z53:=Tryz.sizeOf39
 v53:=Tryz.zeroValue39
 t75:=Tryz.underlying27
 a75:=Tryz.isAgg27
 z75:=Tryz.sizeOf27
 v75:=Tryz.zeroValue27
 t76:=Tryz.underlying203
 a76:=Tryz.isAgg203
 z76:=Tryz.sizeOf203
 v76:=Tryz.zeroValue203
 t85:=Tryz.underlying245
 a85:=Tryz.isAgg245
 z85:=Tryz.sizeOf245
 v85:=Tryz.zeroValue245
 t127:=Tryz.underlying233
 a127:=Tryz.isAgg233
 z127:=Tryz.sizeOf233
 v127:=Tryz.zeroValue233
 t143:=Tryz.underlying279
 a143:=Tryz.isAgg279
 z143:=Tryz.sizeOf279
 v143:=Tryz.zeroValue279
 t145:=Tryz.underlying281
 a145:=Tryz.isAgg281
 z145:=Tryz.sizeOf281
 v145:=Tryz.zeroValue281
 t167:=Tryz.underlying244
 a167:=Tryz.isAgg244
 z167:=Tryz.sizeOf244
 v167:=Tryz.zeroValue244
 t168:=Tryz.underlying247
 a168:=Tryz.isAgg247
 z168:=Tryz.sizeOf247
 v168:=Tryz.zeroValue247
 t171:=Tryz.underlying271
 a171:=Tryz.isAgg271
 z171:=Tryz.sizeOf271
 v171:=Tryz.zeroValue271
 t173:=Tryz.underlying273
 a173:=Tryz.isAgg273
 z173:=Tryz.sizeOf273
 v173:=Tryz.zeroValue273
 t175:=Tryz.underlying267
 a175:=Tryz.isAgg267
 z175:=Tryz.sizeOf267
 v175:=Tryz.zeroValue267
 t210:=Tryz.underlying270
 a210:=Tryz.isAgg270
 z210:=Tryz.sizeOf270
 v210:=Tryz.zeroValue270
 t212:=Tryz.underlying283
 a212:=Tryz.isAgg283
 z212:=Tryz.sizeOf283
 v212:=Tryz.zeroValue283
 t213:=Tryz.underlying284
 a213:=Tryz.isAgg284
 z213:=Tryz.sizeOf284
 t232:=Tryz.underlying285
 a232:=Tryz.isAgg285
 z232:=Tryz.sizeOf285
 v232:=Tryz.zeroValue285
 t233:=Tryz.underlying286
 a233:=Tryz.isAgg286
 z233:=Tryz.sizeOf286
 v233:=Tryz.zeroValue286
 g15:=by kernel_rfl
 g16:=by kernel_rfl
 g17:=by kernel_rfl
 g18:=by kernel_rfl
 g19:=by kernel_rfl
 t80:=Tryz.underlying215
 a80:=Tryz.isAgg215
 z80:=Tryz.sizeOf215
 v80:=Tryz.zeroValue215
 i0:=by kernel_rfl
 i2:=by kernel_rfl
 i3:=by kernel_rfl
 i4:=by kernel_rfl
 i5:=by kernel_rfl
 i9:=by kernel_rfl
 i20:=by kernel_rfl
 i21:=by kernel_rfl
 i37:=by kernel_rfl
 i46:=by kernel_rfl
 i51:=by kernel_rfl
 i53:=by kernel_rfl
 i75:=by kernel_rfl
 i76:=by kernel_rfl
 i80:=by kernel_rfl
 i85:=by kernel_rfl
 i127:=by kernel_rfl
 i143:=by kernel_rfl
 i145:=by kernel_rfl
 i167:=by kernel_rfl
 i168:=by kernel_rfl
 i171:=by kernel_rfl
 i173:=by kernel_rfl
 i175:=by kernel_rfl
 i210:=by kernel_rfl
 i212:=by kernel_rfl
 i232:=by kernel_rfl
 i233:=by kernel_rfl
 m15:=by kernel_rfl
 m16:=by kernel_rfl
 m17:=by kernel_rfl
 m18:=by kernel_rfl
 m19:=by kernel_rfl
 c0:=by kernel_rfl
 c2:=by kernel_rfl
 c3:=by kernel_rfl
 c4:=by kernel_rfl
 c5:=by kernel_rfl
 c9:=by kernel_rfl
 c20:=by kernel_rfl
 c21:=by kernel_rfl
 c37:=by kernel_rfl
 c46:=by kernel_rfl
 c51:=by kernel_rfl
 c53:=by kernel_rfl
 c75:=by kernel_rfl
 c76:=by kernel_rfl
 c80:=by kernel_rfl
 c85:=by kernel_rfl
 c127:=by kernel_rfl
 c143:=by kernel_rfl
 c145:=by kernel_rfl
 c167:=by kernel_rfl
 c168:=by kernel_rfl
 c171:=by kernel_rfl
 c173:=by kernel_rfl
 c175:=by kernel_rfl
 c210:=by kernel_rfl
 c212:=by kernel_rfl
 c213:=by kernel_rfl
 c232:=by kernel_rfl
 c233:=by kernel_rfl}
open Go.RowKit in
theorem Tryz.strconv_Atoi_ok (s:ByteArray) (hmax:s.size<=9223372036854775806) (v:Int) (h:Lib.atoiAll s.data.toList = .ok v) (w:World) :
  Calls Tryz.prog 117 #[.string s] w fun e w'=>e = .returned (.tuple #[.int .i64 v, .nilIface])/\(w'=w\/∃t,w'=Lib.bytesWorld w 5 t):=Any.strconv_Atoi_ok Tryz.tH s hmax v h w
open Go.RowKit in
theorem Tryz.strconv_Atoi_syntax (s:ByteArray) (hlim:s.size<=281474976710656) (h:Lib.atoiAll s.data.toList=Go.Lib.NumEnd.syntax) (ev:Value) (w:World) (hv:w.cell? ⟨3,0,none⟩=some ev) (hev:ev = .nilIface\/∃te pe,ev = .iface te pe) :
  Calls Tryz.prog 117 #[.string s] w fun e w'=>∃N,e = .returned (.tuple #[.int .i64 (0), .iface 247 (.pointer (some ⟨N,0,none⟩))])/\w.heap.size<=N/\w'.heap[N]?=some (.cells #[.string ⟨#[65,116,111,105]⟩, .string s,ev] 270 (0,0))/\Below w.heap.size w w':=Any.strconv_Atoi_syntax Tryz.tH s hlim h ev w hv hev
open Go.RowKit in
theorem Tryz.strconv_Atoi_range (s:ByteArray) (hlim:s.size<=281474976710656) (h:Lib.atoiAll s.data.toList = .range) (ev:Value) (w:World) (hv:w.cell? ⟨4,0,none⟩=some ev) (hev:ev = .nilIface\/∃te pe,ev = .iface te pe) :
  Calls Tryz.prog 117 #[.string s] w fun e w'=>∃N,e = .returned (.tuple #[.int .i64 (Lib.atoiSat s.data.toList), .iface 247 (.pointer (some ⟨N,0,none⟩))])/\w.heap.size<=N/\w'.heap[N]?=some (.cells #[.string ⟨#[65,116,111,105]⟩, .string s,ev] 270 (0,0))/\Below w.heap.size w w':=Any.strconv_Atoi_range Tryz.tH s hlim h ev w hv hev
def Tryz.BZ:Go.Shelf.Ren:=⟨fun | 102=>82 | 209=>116 | 207=>138 | n=>n,fun | 9=>9 | 4=>4 | 3=>3 | n=>n,fun | n=>n⟩
theorem Tryz.Jv:Go.Proofs.Lays.n102 Tryz.prog Tryz.BZ:={
 mixed:=by kernel_rfl
 f102:=Tryz.func82.trans (congrArg some (by kernel_rfl))
 f207:=Tryz.func138.trans (congrArg some (by kernel_rfl))
 f209:=Tryz.func116.trans (congrArg some (by kernel_rfl))
 t3:=Tryz.underlying3
 a3:=Tryz.isAgg3
 z3:=Tryz.sizeOf3
 v3:=Tryz.zeroValue3
 t4:=Tryz.underlying4
 a4:=Tryz.isAgg4
 z4:=Tryz.sizeOf4
 v4:=Tryz.zeroValue4
 t9:=Tryz.underlying9
 a9:=Tryz.isAgg9
 z9:=Tryz.sizeOf9
 v9:=Tryz.zeroValue9}
open Go.RowKit Go.Lib in
theorem Tryz.strings_TrimSuffix (s p:ByteArray) (w:World) (hs:s.size<=9223372036854775807) :
  Calls Tryz.prog 82 #[.string s, .string p] w fun e w'=>e = .returned (.string ⟨(Lib.trimSuffix s.data.toList p.data.toList).toArray⟩)/\w'=w:=Any.strings_TrimSuffix Tryz.Jv s p w hs
def Tryz.B0:Go.Shelf.Ren:=⟨fun | 146=>81 | 221=>80 | 268=>113 | 138=>114 | 143=>115 | 195=>134 | 197=>135 | 218=>136 | 219=>137 | 260=>159 | 217=>160 | 225=>161 | 224=>162 | 267=>163 | 266=>180 | 314=>181 | n=>n,fun | 9=>9 | 31=>54 | 3=>3 | 4=>4 | 0=>0 | 105=>228 | 21=>21 | 5=>5 | 46=>150 | 119=>262 | 139=>265 | 138=>264 | 146=>206 | 51=>205 | n=>n,fun | 1=>0 | 3=>1 | 4=>2 | n=>n⟩
theorem Tryz.CV:Go.Proofs.Lays.n146 Tryz.prog Tryz.B0:={
 mixed:=by kernel_rfl
 f138:=Tryz.func114.trans (congrArg some (by kernel_rfl))
 f143:=Tryz.func115.trans (congrArg some (by kernel_rfl))
 f146:=Tryz.func81.trans (congrArg some (by kernel_rfl))
 f195:=Tryz.func134.trans (congrArg some (by kernel_rfl))
 f197:=Tryz.func135.trans (congrArg some (by kernel_rfl))
 f217:=Tryz.func160.trans (congrArg some (by kernel_rfl))
 f218:=Tryz.func136.trans (congrArg some (by kernel_rfl))
 f219:=Tryz.func137.trans (congrArg some (by kernel_rfl))
 f221:=Tryz.func80.trans (congrArg some (by kernel_rfl))
 f224:=Tryz.func162.trans (congrArg some (by kernel_rfl))
 f225:=Tryz.func161.trans (congrArg some (by kernel_rfl))
 f260:=Tryz.func159.trans (congrArg some (by kernel_rfl))
 f266:=Tryz.func180.trans (congrArg some (by kernel_rfl))
 f267:=Tryz.func163.trans (congrArg some (by kernel_rfl))
 f268:=Tryz.func113.trans (congrArg some (by kernel_rfl))
 f314:=Tryz.func181.trans (congrArg some (by kernel_rfl))
 t0:=Tryz.underlying0
 a0:=Tryz.isAgg0
 z0:=Tryz.sizeOf0
 v0:=Tryz.zeroValue0
 t3:=Tryz.underlying3
 a3:=Tryz.isAgg3
 z3:=Tryz.sizeOf3
 v3:=Tryz.zeroValue3
 t4:=Tryz.underlying4
 a4:=Tryz.isAgg4
 z4:=Tryz.sizeOf4
 v4:=Tryz.zeroValue4
 t5:=Tryz.underlying5
 a5:=Tryz.isAgg5
 z5:=Tryz.sizeOf5
 v5:=Tryz.zeroValue5
 t9:=Tryz.underlying9
 a9:=Tryz.isAgg9
 z9:=Tryz.sizeOf9
 v9:=Tryz.zeroValue9
 t21:=Tryz.underlying21
 a21:=Tryz.isAgg21
 z21:=Tryz.sizeOf21
 v21:=Tryz.zeroValue21
 t31:=Tryz.underlying54
 a31:=Tryz.isAgg54
 z31:=Tryz.sizeOf54
 v31:=Tryz.zeroValue54
 t46:=Tryz.underlying150
 a46:=Tryz.isAgg150
 z46:=Tryz.sizeOf150
 v46:=Tryz.zeroValue150
 t51:=Tryz.underlying205
 a51:=Tryz.isAgg205
 z51:=Tryz.sizeOf205
 v51:=Tryz.zeroValue205
 t105:=Tryz.underlying228
 a105:=Tryz.isAgg228
 z105:=Tryz.sizeOf228
 v105:=Tryz.zeroValue228
 t119:=Tryz.underlying262
 a119:=Tryz.isAgg262
 z119:=Tryz.sizeOf262
 t138:=Tryz.underlying264
 a138:=Tryz.isAgg264
 z138:=Tryz.sizeOf264
 v138:=Tryz.zeroValue264
 t139:=Tryz.underlying265
 a139:=Tryz.isAgg265
 z139:=Tryz.sizeOf265
 v139:=Tryz.zeroValue265
 t146:=Tryz.underlying206
 a146:=Tryz.isAgg206
 z146:=Tryz.sizeOf206
 v146:=Tryz.zeroValue206
 g1:=by kernel_rfl
 g3:=by kernel_rfl
 g4:=by kernel_rfl}
open Go.RowKit Go.Lib in
theorem Tryz.strings_Split (s sep:ByteArray) (m:Int) (w:World) (hs:s.size < 4294967281) (hm:w.cell? ⟨0,0,none⟩=some (.int .i64 m)) (h1:1<=sep.size) :
  Calls Tryz.prog 81 #[.string s, .string sep] w fun e w'=>
   e = .returned (.slice (some ⟨w.heap.size,0,none⟩) (Lib.countB s sep + 1) (Lib.countB s sep + 1))/\w'=w.alloc (.cells ((Lib.splitB sep 0 (Lib.countB s sep) s).map Value.string).toArray 9):=Any.strings_Split Tryz.CV (by kernel_rfl) s sep m w hs hm h1
end Go.Proofs.YtgokjhhcfemnhaaGreatDoor

namespace Go.Proofs.YtgokjhhcfemnhaaGreatDoor
open Go.Vg Go.Mrl
theorem Ey (w:World) (k:Nat) (os:Array Obj):Vg.Below w.heap.size w (Sort.grow (w.drewN k) os):=by
 refine ⟨rfl,rfl,?_,fun i hi => ?_⟩
 ·show w.heap.size<=(w.heap++os).size
  simp
 ·show (w.heap++os)[i]?=w.heap[i]?
  rw [Array.getElem?_append,if_pos hi]
theorem Jw {eT:TypeId} {n:Int} {O:ah} {w:World} {v:Value} (h:VR eT (.int .i64) n O w v):v = .int .i64 n/\-9223372036854775808<=n/\n<=9223372036854775807:=by
 obtain ⟨h1,h2,h3⟩:=VR.one rfl h
 exact ⟨by simpa using h1,h2,h3⟩
theorem iH {eT:TypeId} {s:List UInt8} {O:ah} {w:World} {v:Value} (h:VR eT .str s O w v):v = .string ⟨s.toArray⟩/\s.length<=av:=by
 obtain ⟨h1,h2⟩:=VR.one rfl h
 exact ⟨by simpa using h1,h2⟩
theorem AR {eT:TypeId} {s:List UInt8} {O:ah} {w:World} (h:s.length<=av):VR eT .str s O w (.string ⟨s.toArray⟩):=VR.aW rfl ⟨rfl,h⟩
theorem pD:∀(k u:Nat),u < 10 ^ (k + 1)->Lib.nDigits u<=k + 1
 | 0,u,h=>by rw [Lib.nDigits_small (by simpa using h)];exact Nat.le_refl _
 | k + 1,u,h=>by
  by_cases hu:u < 10
  ·rw [Lib.nDigits_small hu];omega
  ·rw [Lib.nDigits_big hu]
   have:=pD k (u / 10) (by rw [Nat.pow_succ] at h;omega)
   omega
theorem Ig {n:Int} (h0 : -9223372036854775808<=n) (h1:n<=9223372036854775807):(Lib.itoa n).length<=21:=by
 unfold Lib.itoa
 split
 ·rw [List.length_cons,Lib.decDigits_length]
  have:=pD 19 n.natAbs (by omega)
  omega
 ·rw [Lib.decDigits_length]
  have:=pD 19 n.toNat (by omega)
  omega
theorem Tryz.tI:bj Tryz.prog Tryz.B.eT Tryz.X 118 [.int .i64] [.str] (fun _=>True) (fun n y=>y=Lib.itoa n):=by
 refine ⟨⟨Tryz.f118,Tryz.func118,by kernel_rfl,by kernel_rfl⟩,fun O w n vs hG hO ha _ => ?_⟩
 obtain ⟨v,rfl,hv⟩:=ha
 obtain ⟨rfl,h0,h1⟩:=Jw hv
 refine (Tryz.strconv_Itoa n h0 h1 w hG.pow).mono ?_
 rintro e w' ⟨rfl,k,os,rfl⟩
 exact ⟨[.string ⟨(Lib.itoa n).toArray⟩],Lib.itoa n,rfl,rfl,⟨_,rfl,AR (by have:=Ig h0 h1;unfold av;omega)⟩,Ey w k os⟩
theorem Tryz.AS:bj Tryz.prog Tryz.B.eT Tryz.X 117 [.str] [.int .i64, .err] (fun s=>s.length<=281474976710656) (fun s y=>y=eg s):=by
 refine ⟨⟨Tryz.f117,Tryz.func117,by kernel_rfl,by kernel_rfl⟩,fun O w s vs hG hO ha hs => ?_⟩
 obtain ⟨v,rfl,hv⟩:=ha
 obtain ⟨rfl,hl⟩:=iH hv
 have hsz:(⟨s.toArray⟩:ByteArray).size=s.length:=by simp [ByteArray.size]
 have hsl:(⟨s.toArray⟩:ByteArray).data.toList=s:=by simp
 cases ha:Lib.atoiAll s with
 | ok n=>
  refine (Tryz.strconv_Atoi_ok ⟨s.toArray⟩ (by rw [hsz];omega) n (by rw [hsl];exact ha) w).mono ?_
  rintro e w' ⟨rfl,hw⟩
  obtain ⟨b0,b1⟩:=Lib.atoiAll_bounds ha
  refine ⟨[.int .i64 n, .nilIface],(n, .nil),rfl,by unfold eg;rw [ha],⟨_,_,rfl,VR.aW rfl ⟨rfl,b0,b1⟩,⟨_,rfl,VR.aW rfl ⟨_,rfl,rfl⟩⟩⟩,?_⟩
  rcases hw with rfl | ⟨t,rfl⟩
  ·exact Vg.Below.refl _ _
  ·exact .of (Lib.bytesWorld_below _ _ _)
 | range=>
  obtain ⟨ev,hv,he⟩:=hG.Lg
  obtain ⟨b0,b1⟩:=Lib.atoiSat_bounds s
  have hA:=Tryz.strconv_Atoi_range ⟨s.toArray⟩ (by rw [hsz];exact hs) (by rw [hsl];exact ha) ev w hv he
  rw [hsl] at hA
  refine hA.mono ?_
  rintro e w' ⟨N,rfl,_,_,hb⟩
  exact ⟨[.int .i64 (Lib.atoiSat s),_],(Lib.atoiSat s, .other),rfl,by unfold eg;rw [ha],⟨_,_,rfl,VR.aW rfl ⟨rfl,b0,b1⟩,⟨_,rfl,VR.aW rfl ⟨_,rfl,_,_,rfl,by decide +kernel⟩⟩⟩, .of hb⟩
 | _=>
  obtain ⟨ev,hv,he⟩:=hG.Lf
  refine (Tryz.strconv_Atoi_syntax ⟨s.toArray⟩ (by rw [hsz];exact hs) (by rw [hsl];exact ha) ev w hv he).mono ?_
  rintro e w' ⟨N,rfl,_,_,hb⟩
  exact ⟨[.int .i64 0,_],(0, .other),rfl,by unfold eg;rw [ha],⟨_,_,rfl,VR.aW rfl ⟨rfl,by decide,by decide⟩,⟨_,rfl,VR.aW rfl ⟨_,rfl,_,_,rfl,by decide +kernel⟩⟩⟩, .of hb⟩
theorem Tryz.qZ:bj Tryz.prog Tryz.B.eT Tryz.X 124 [.str, .str] [.str, .bool] (fun _=>True) (fun x y=>y=(Lib.trimPrefix x.1 x.2,Lib.hasPrefix x.1 x.2)):=by
 refine ⟨⟨Tryz.f124,Tryz.func124,by kernel_rfl,by kernel_rfl⟩,fun O w x vs hG hO ha _ => ?_⟩
 obtain ⟨s,p⟩:=x
 obtain ⟨v,vs',rfl,hv,u,rfl,hu⟩:=ha
 obtain ⟨rfl,hl⟩:=iH hv
 obtain ⟨rfl,_⟩:=iH hu
 refine (Tryz.strings_CutPrefix ⟨s.toArray⟩ ⟨p.toArray⟩ w).mono ?_
 rintro e w' ⟨rfl,rfl⟩
 have hle:(Lib.trimPrefix s p).length<=s.length:=by unfold Lib.trimPrefix;split <;> simp
 exact ⟨[.string ⟨(Lib.trimPrefix s p).toArray⟩, .bool (Lib.hasPrefix s p)],_,rfl,rfl,⟨_,_,rfl,AR (Nat.le_trans hle hl),_,rfl,VR.aW rfl rfl⟩,Vg.Below.refl _ _⟩
theorem Tryz.pR:bj Tryz.prog Tryz.B.eT Tryz.X 82 [.str, .str] [.str] (fun _=>True) (fun x y=>y=Lib.trimSuffix x.1 x.2):=by
 refine ⟨⟨Tryz.f82,Tryz.func82,by kernel_rfl,by kernel_rfl⟩,fun O w x vs hG hO ha _ => ?_⟩
 obtain ⟨s,p⟩:=x
 obtain ⟨v,vs',rfl,hv,u,rfl,hu⟩:=ha
 obtain ⟨rfl,hl⟩:=iH hv
 obtain ⟨rfl,_⟩:=iH hu
 have hl:s.length<=av:=hl
 have hsz:(⟨s.toArray⟩:ByteArray).size=s.length:=by simp [ByteArray.size]
 refine (Tryz.strings_TrimSuffix ⟨s.toArray⟩ ⟨p.toArray⟩ w (by rw [hsz];exact hl)).mono ?_
 rintro e w' ⟨rfl,rfl⟩
 have hle:(Lib.trimSuffix s p).length<=s.length:=by unfold Lib.trimSuffix;split <;> simp
 exact ⟨[.string ⟨(Lib.trimSuffix s p).toArray⟩],_,rfl,rfl,⟨_,rfl,AR (Nat.le_trans hle hl)⟩,Vg.Below.refl _ _⟩
theorem Tryz.AT:bj Tryz.prog Tryz.B.eT Tryz.X 81 [.str, .str] [.slice .str] (fun x=>x.1.length < 4294967281/\x.2.length=1) (fun x y=>y=parts (wZ x.2) x.1):=by
 refine ⟨⟨Tryz.f81,Tryz.func81,by kernel_rfl,by kernel_rfl⟩,fun O w x vs hG hO ha hp => ?_⟩
 obtain ⟨s,p⟩:=x
 obtain ⟨hs,hp⟩:=hp
 obtain ⟨c,rfl⟩:∃c,p = [c]:=List.length_eq_one_iff.1 hp
 obtain ⟨v,vs',rfl,hv,u,rfl,hu⟩:=ha
 obtain ⟨rfl,hl⟩:=iH hv
 obtain ⟨rfl,_⟩:=iH hu
 obtain ⟨m,hm⟩:=hG.max
 have hsz:(⟨s.toArray⟩:ByteArray).size=s.length:=by simp [ByteArray.size]
 have h1:1<=(⟨#[c]⟩:ByteArray).size:=Nat.le_refl 1
 refine (Tryz.strings_Split ⟨s.toArray⟩ ⟨#[c]⟩ m w (by rw [hsz];exact hs) hm h1).mono ?_
 rintro e w' ⟨rfl,rfl⟩
 have hlen:=Lib.splitB_all ⟨#[c]⟩ h1 0 _ ⟨s.toArray⟩ rfl
 have hdat:=Lib.splitB_data ⟨#[c]⟩ 0 (Lib.countB ⟨s.toArray⟩ ⟨#[c]⟩) ⟨s.toArray⟩
 have hcb:=Lib.countB_le ⟨#[c]⟩ h1 _ ⟨s.toArray⟩ (Nat.le_refl _)
 have hd:(Lib.splitB ⟨#[c]⟩ 0 (Lib.countB ⟨s.toArray⟩ ⟨#[c]⟩) ⟨s.toArray⟩).map (·.data.toList)=parts c s:=by rw [hdat,<-my,<-Lib.count_one]
 have hlf:(parts c s).length=Lib.countB ⟨s.toArray⟩ ⟨#[c]⟩ + 1:=by rw [<-hd,List.length_map,hlen]
 refine ⟨[_],parts c s,rfl,rfl,⟨_,rfl,VR.aW rfl ⟨_,rfl,?_, .inr ⟨w.heap.size,0,Lib.countB ⟨s.toArray⟩ ⟨#[c]⟩ + 1,by rw [hlf],by rw [hlf];exact Nat.le_refl _,fun i y hy => ?_⟩⟩⟩,(Vg.Below.refl _ w).alloc (Nat.le_refl _) _⟩
 ·rw [hlf];have hs:s.length < 4294967281:=hs;rw [hsz] at hcb;unfold av;omega
 ·have hyl:=mw c s y (List.mem_of_getElem? hy)
  refine ⟨[.string ⟨y.toArray⟩],⟨rfl,Nat.le_trans hyl hl⟩,fun j u hj=>⟨?_,fun hh => ?_⟩⟩
  ·have hj0:j=0:=by
    rcases j with _ | j
    ·rfl
    ·simp at hj
   subst hj0
   simp at hj
   subst hj
   rw [<-hd,List.getElem?_map,Option.map_eq_some_iff] at hy
   obtain ⟨q,hq,rfl⟩:=hy
   have hh:(w.alloc (.cells ((Lib.splitB ⟨#[c]⟩ 0 (Lib.countB ⟨s.toArray⟩ ⟨#[c]⟩) ⟨s.toArray⟩).map Value.string).toArray 9)).heap[w.heap.size]?=some (.cells ((Lib.splitB ⟨#[c]⟩ 0 (Lib.countB ⟨s.toArray⟩ ⟨#[c]⟩) ⟨s.toArray⟩).map Value.string).toArray 9 (0,0)):=heap_alloc_new w _
   rw [Lib.cell_of_heap hh]
   simp only [Ty.size,Nat.mul_one,Nat.zero_add,Nat.add_zero,List.getElem?_toArray,List.getElem?_map,hq,Option.map_some]
  ·have:=hO _ _ hh
   simp at this
end Go.Proofs.YtgokjhhcfemnhaaGreatDoor

namespace Go.Proofs.YtgokjhhcfemnhaaGreatDoor
open Go.Vg Go.Mrl
noncomputable def Tryz.AU:List (FuncId × (Bool × aY)):=[(87,(true,aM [.str] [.err] (fun _=>True) (fun s=>au (ao s)))),
 (94,(true,aM [.str] [.int .i64] (fun _=>True) (fun s=>ao s))),
 (9,(true,aM [.err, .int .i64] [.bool] (fun _=>True) (fun x=>cT x.1 x.2))),
 (118,(true,aM [.int .i64] [.str] (fun _=>True) (fun n=>Lib.itoa n))),
 (51,(true,aM [af] [.err] (fun _=>True) (fun e=>au (ay e))))]
theorem Tryz.Ez:bn Tryz.prog Tryz.B Tryz.X Tryz.AU:=
 aG (ar Tryz.kJ) (aG (ar Tryz.fH) (aG (ar Tryz.mc) (aG (ar Tryz.tI) (aG (ar Tryz.xA) (bA Tryz.bz)))))
def AV (e:D af):cC:=[
 (0,fun st=>{X:=Nat,inv:=fun i=>i<=List.length e.2.1,bV:=fun i=>List.length e.2.1 - i,ba:=fun i=>[(35,sI i),(6,sS (dS e i))],keep:=[1,2,3,5,33,34]}),
 (2,fun st=>{X:=Nat,inv:=fun i=>i<=List.length e.2.2.1,bV:=fun i=>List.length e.2.2.1 - i,ba:=fun i=>[(60,sI i),(6,sS (dM e i))],keep:=[2,3,5,58,59]})]
theorem Ih (e:D af) (hw:er [af] e):(cG (iw Tryz.B [23,30,47,53,68,74,80]) Tryz.AU Tryz.f84 (AV e) [af] [.str, .err] (fun x y=>y=(fun e=>bq e) x) e).holds:=by
 refine holds_of (p:=
  let za:=au (ay e)
  let zb:=[(32:UInt8)]
  let zc:=List.length zb
  let zd:=e.2.1
  let ze:=List.length zd
  let zf:=e.2.2.1
  let zg:=List.length zf
  let zh:=Lib.itoa (↑ze:Int)
  let zi:=e.1++zb++zh
  let zj:=Lib.itoa (↑zg:Int)
  let zk:=fun (x_0:Nat)=>zb++(nth ai zd x_0).1
  let zl:=fun (x_0:Nat)=>Lib.itoa (nth ai zd x_0).2.1
  let zm:=fun (x_0:Nat)=>zk x_0++zb++zl x_0++zb
  let zn:=fun (x_0:Nat)=>Lib.itoa (nth ai zd x_0).2.2.1
  let zo:=fun (x_0:Nat)=>(↑x_0:Int) + (1:Int)
  let zp:=(e.1=e.1/\zd=zd/\zf=zf/\True)/\True
  let zq:=fun (x_1:Nat)=>zb++Lib.itoa (nth aq zf x_1).1
  let zr:=fun (x_1:Nat)=>zq x_1++zb++Lib.itoa (nth aq zf x_1).2.1
  let zs:=fun (x_1:Nat)=>Lib.itoa (nth aq zf x_1).2.2.1
  (True)/\(((!aF.isNil za)=true->(([],za)=bq e))/\((!aF.isNil za)=false->(List.length e.1 + zc<=av)/\((ze<=av)->((zg<=av)->(True)/\(List.length (e.1++zb) + List.length zh<=av)/\(List.length zi + zc<=av)/\(True)/\(List.length (zi++zb) + List.length zj<=av)/\((ze<=av)->(∃(x:Nat),x<=ze/\((0:Int)=(↑x:Int)/\zi++zb++zj=dS e x/\True)/\True)/\(∀x_0:Nat,((x_0<=ze)->(((decide ((↑x_0:Int) < (↑ze:Int)))=true->((0:Int)<=(↑x_0:Int)/\(↑x_0:Int) < (↑ze:Int))/\(zc + List.length (nth ai zd x_0).1<=av)/\(List.length (zk x_0) + zc<=av)/\(True)/\(List.length (zk x_0++zb) + List.length (zl x_0)<=av)/\(List.length (zk x_0++zb++zl x_0) + zc<=av)/\(True)/\(List.length (zm x_0) + List.length (zn x_0)<=av)/\(List.length (dS e x_0) + List.length (zm x_0++zn x_0)<=av)/\((aC (↑x_0:Int))->((aC (1:Int))->(aC (zo x_0))/\(∃(x':Nat),x'<=ze/\ze - x' < ze - x_0/\(zo x_0=(↑x':Int)/\dS e x_0++(zm x_0++zn x_0)=dS e x'/\True)/\zp))))/\((decide ((↑x_0:Int) < (↑ze:Int)))=false->((zg<=av)->(∃(x:Nat),x<=zg/\((0:Int)=(↑x:Int)/\dS e x_0=dM e x/\True)/\True)/\(∀x_1:Nat,((x_1<=zg)->(((decide ((↑x_1:Int) < (↑zg:Int)))=true->((0:Int)<=(↑x_1:Int)/\(↑x_1:Int) < (↑zg:Int))/\(True)/\(zc + List.length (Lib.itoa (nth aq zf x_1).1)<=av)/\(List.length (zq x_1) + zc<=av)/\(True)/\(List.length (zq x_1++zb) + List.length (Lib.itoa (nth aq zf x_1).2.1)<=av)/\(List.length (zr x_1) + zc<=av)/\(True)/\(List.length (zr x_1++zb) + List.length (zs x_1)<=av)/\(List.length (dM e x_1) + List.length (zr x_1++zb++zs x_1)<=av)/\((aC (↑x_1:Int))->((aC (1:Int))->(aC (zo x_1))/\(∃(x':Nat),x'<=zg/\zg - x' < zg - x_1/\(zo x_1=(↑x':Int)/\dM e x_1++(zr x_1++zb++zs x_1)=dM e x'/\True)/\zp))))/\((decide ((↑x_1:Int) < (↑zg:Int)))=false->(List.length (dM e x_1) + List.length [(10:UInt8)]<=av)/\((dM e x_1++[(10:UInt8)],aF.nil)=bq e)))))))))))))))) (by kernel_rfl) ?_
 dsimp -iota -proj -eta only
 refine ⟨trivial,iB (fun h0=>(Eb (fun e=>by rw [aS.2 e] at h0;cases h0))) (fun h0=>⟨?a,fun h1 h2=>⟨trivial,?b,?c,trivial,?d,fun h3=>⟨(⟨0,by omega,⟨rfl,(D2 e).symm,trivial⟩,trivial⟩),fun x_0 q_0=>iL (fun h4=>⟨?e,?f,?g,trivial,?h,?i,trivial,?j,?k,fun h5 h6=>⟨?l,(⟨x_0 + 1,by omega,by omega,⟨by omega,D9 (by omega),trivial⟩,(by trivial)⟩)⟩⟩) (fun h4 h5=>⟨(⟨0,by omega,⟨rfl,by rw [D3,show x_0=e.2.1.length by omega],trivial⟩,trivial⟩),fun x_1 q_1=>iL (fun h6=>⟨?m,trivial,?n,?o,trivial,?p,?q,trivial,?r,?s,fun h7 h8=>⟨?t,(⟨x_1 + 1,by omega,by omega,⟨by omega,Ea (by omega),trivial⟩,(by trivial)⟩)⟩⟩) (fun h6=>⟨(by have a:=(gq (aS.1 h0)).D8 x_1;simp only [List.length_append,List.length_cons,List.length_nil,av];omega),(FO (aS.1 h0) (by omega))⟩)⟩)⟩⟩⟩)⟩
 case a|b|c|d=>have a:=(gq (aS.1 h0)).lens;simp only [List.length_append,List.length_cons,List.length_nil,av];omega
 case e|m=>omega
 case f|g|h|i|j|k=>have a:=(gq (aS.1 h0)).KR (i:=x_0) (by omega);simp only [List.length_append,List.length_cons,List.length_nil,av];omega
 case l|t=>simp only [aC,av] at *;omega
 case n|o|p|q|r|s=>have a:=(gq (aS.1 h0)).KS (i:=x_1) (by omega);simp only [List.length_append,List.length_cons,List.length_nil,av];omega
theorem Tryz.AW:bj Tryz.prog Tryz.B.eT Tryz.X 84 [af] [.str, .err] (fun _=>True) (fun x y=>y=(fun e=>bq e) x):=
 bN (B:=(iw Tryz.B [23,30,47,53,68,74,80])) (X:=Tryz.X) (bn.hint (l:=[23,30,47,53,68,74,80]) Tryz.Ez) Tryz.func84 (by kernel_rfl) (fun x=>AV x) (fun x hw hp=>Ih x hw)
end Go.Proofs.YtgokjhhcfemnhaaGreatDoor

namespace Go.Proofs.YtgokjhhcfemnhaaGreatDoor
open Go.RowKit Go.Vg
theorem Tryz.K5:(Tryz.prog.info? 214).map (·.size)=some 2:=by kernel_rfl
theorem Tryz.Lh:liesAt Tryz.prog Tryz.prog.depth 214 (2 / Tryz.prog.cellsOf 214) 0 214 1=true:=by kernel_rfl
set_option maxHeartbeats 1000000 in
set_option maxRecDepth 100000 in
theorem Tryz.EA (b:Nat) (v:Value) (w:World) (hb:w.heap[b]?=some (.cells #[.pointer (some ⟨b,0,none⟩),v] 214 (0,0))) :
  Calls Tryz.prog 142 #[.pointer (some ⟨b,0,none⟩)] w fun e w'=>e = .returned (.tuple #[])/\w'=w:=by
 obtain ⟨j,hj,_⟩:=Option.map_eq_some_iff.1 Tryz.K5
 have h0:w.cell? ⟨b,0,none⟩=some (.pointer (some ⟨b,0,none⟩)):=by rw [Lib.cell_of_heap hb];rfl
 go_enter Tryz.func142,Tryz.ntmps142
 go_wp2
 rw [Lib.run_neq_ptr_same w _ Tryz.underlying212 hj]
 go_wp2
 go_end0
 exact ⟨rfl,rfl⟩
set_option maxHeartbeats 1000000 in
set_option maxRecDepth 100000 in
theorem Tryz.B1 (b:Nat) (v:Value) (w:World) (hb:w.heap[b]?=some (.cells #[.pointer none,v] 214 (0,0))) :
  Calls Tryz.prog 142 #[.pointer (some ⟨b,0,none⟩)] w fun e w'=>e = .returned (.tuple #[])/\w'=w.setCell ⟨b,0,none⟩ (.pointer (some ⟨b,0,none⟩)):=by
 obtain ⟨j,hj,hjs⟩:=Option.map_eq_some_iff.1 Tryz.K5
 have h0:w.cell? ⟨b,0,none⟩=some (.pointer none):=by rw [Lib.cell_of_heap hb];rfl
 have hsh:w.shape? b=some (214,2):=by simp [World.shape?,hb]
 have hfz:w.frozen? ⟨b,0,none⟩=false:=Lib.frozen_of_heap hb 0
 go_enter Tryz.func142,Tryz.ntmps142
 go_wp2
 rw [Lib.run_to_unsafe w ⟨b,0,none⟩ Tryz.underlying212 Tryz.underlying251 hj (by rw [hjs];decide) hsh (Nat.zero_lt_succ 1)]
 simp only [Result.andThen]
 rw [Oper.upon_value]
 go_wp2
 rw [run_callFunc_extern Tryz.func170 (by kernel_rfl) (by kernel_rfl) (by kernel_rfl) (e:=Extern.AbiNoEscape.same) (by kernel_rfl)]
 rw [Lib.run_noEscape]
 simp only [Result.andThen]
 rw [Oper.upon_value]
 go_wp2
 rw [Lib.run_from_unsafe w ⟨b,0,none⟩ Tryz.underlying251 Tryz.underlying212 hj hsh Tryz.Lh]
 simp only [Result.andThen]
 rw [Oper.upon_value]
 go_wp2
 go_end0
 exact ⟨rfl,rfl⟩
theorem Tryz.Li:(Tryz.prog.info? 5).map (fun i=>(i.zero,i.size,i.bytes))=some (some (.int .u8 0),1,1):=by kernel_rfl
theorem Tryz.Lb:Tryz.prog.cellsOf 5=1:=by kernel_rfl
set_option maxHeartbeats 2000000 in
set_option maxRecDepth 100000 in
theorem Tryz.Gx (b:Nat) (p v:Value) (xs:List Value) (s:ByteArray) (w:World) (hb:w.heap[b]?=some (.cells #[p,v] 214 (0,0))) (hp:p = .pointer none\/p = .pointer (some ⟨b,0,none⟩))
  (hown:w.ownsRow 0 5 1 v xs.length xs) (hne:v.ownBlock≠some b) (hcap:∀a n c,v = .slice (some a) n c->0 < c) (hlen:xs.length + s.size<=140737488355328) :
  Calls Tryz.prog 119 #[.pointer (some ⟨b,0,none⟩), .string s] w fun e w'=>e = .returned (.tuple #[.int .i64 s.size, .nilIface])/\
   ∃v',w'.heap[b]?=some (.cells #[.pointer (some ⟨b,0,none⟩),v'] 214 (0,0))/\w'.ownsRow 0 5 1 v' (xs.length + s.size) (xs++Lib.strCells s)/\v'.ownBlock≠some b/\Kept b v w w'/\
    (∀a n c,v' = .slice (some a) n c->0 < c)/\(∀g,v'.ownBlock=some g->v.ownBlock=some g\/w.heap.size<=g):=by
 obtain ⟨i0,hi,hz0⟩:=Option.map_eq_some_iff.1 Tryz.Li
 simp only [Prod.mk.injEq] at hz0
 obtain ⟨hz0,hz1,hz2⟩:=hz0
 have hchk:Calls Tryz.prog 142 #[.pointer (some ⟨b,0,none⟩)] w fun e w1=>e = .returned (.tuple #[])/\w1.heap[b]?=some (.cells #[.pointer (some ⟨b,0,none⟩),v] 214 (0,0))/\
   w1.os=w.os/\w1.output=w.output/\w1.heap.size=w.heap.size/\∀k,k≠b->w1.heap[k]?=w.heap[k]?:=by
  rcases hp with rfl | rfl
  ·refine (Tryz.B1 b v w hb).mono ?_
   rintro e w1 ⟨rfl,rfl⟩
   exact ⟨rfl,(Hz hb).trans (by simp),rfl,rfl,Go.Deep.nblk_setCell _ _ _,fun k hk=>Go.Deep.blk_setCell_other _ _ _ _ hk⟩
  ·refine (Tryz.EA b v w hb).mono ?_
   rintro e w1 ⟨rfl,rfl⟩
   exact ⟨rfl,hb,rfl,rfl,rfl,fun _ _=>rfl⟩
 go_enter Tryz.func119,Tryz.ntmps119
 go_wp2_with (go_at_call 142;refine hchk.mono ?_)
 rintro e w1 ⟨rfl,hb1,ho1,hu1,hs1,hk1⟩
 have hown1:w1.ownsRow 0 5 1 v xs.length xs:=by
  refine ⟨hown.1,?_⟩
  rcases hown.2 with h | ⟨g,cap,cur,h1,h2,h3,h4⟩
  ·exact .inl h
  ·refine .inr ⟨g,cap,cur,h1,h2,?_,h4⟩
   rw [hk1 g (fun e=>hne (by rw [h1,e];rfl))];exact h3
 have c0:w1.cell? ⟨b,0,none⟩=some (.pointer (some ⟨b,0,none⟩)):=by rw [Lib.cell_of_heap hb1];rfl
 have c1:w1.cell? ⟨b,1,none⟩=some v:=by rw [Lib.cell_of_heap hb1];rfl
 obtain ⟨v',w2,hrun,hown',hgrow,hcap',hnew⟩:=Jf (t:=153) (u:=9) (ty:=153) Tryz.underlying153 Tryz.underlying9 hi hz0 hz1 hz2 hown1 hcap s hlen
 have hlt:b < w1.heap.size:=(Array.getElem?_eq_some_iff.1 hb1).1
 have hb2:w2.heap[b]?=some (.cells #[.pointer (some ⟨b,0,none⟩),v] 214 (0,0)):=by rw [hgrow.block b hlt (fun e=>hne e.symm)];exact hb1
 have d1:w2.cell? ⟨b,1,none⟩=some v:=by rw [Lib.cell_of_heap hb2];rfl
 have f1:w2.frozen? ⟨b,1,none⟩=false:=Lib.frozen_of_heap hb2 1
 have hne':v'.ownBlock≠some b:=by
  intro e
  rcases hown'.2 with ⟨h,_⟩ | ⟨g',cap,cur,h,_,h3,_⟩
  ·rw [h] at e;cases e
  ·rw [h] at e
   cases e
   rw [hb2] at h3
   cases h3
 have hv1:∃a n c,v' = .slice a n c:=by
  rcases hown'.2 with ⟨h,_⟩ | ⟨g',cap,cur,h,_⟩ <;> exact ⟨_,_,_,h⟩
 obtain ⟨va,vn,vc,rfl⟩:=hv1
 rw [hs1] at hnew
 go_wp2_with (at_builtin;refine rQ rfl _ _ 153 9 rfl rfl rfl hrun ?_)
 go_ret2
 refine ⟨rfl, .slice va vn vc,(Hz hb2).trans (by simp),⟨hown'.1,?_⟩,hne',⟨hgrow.os.trans ho1,hgrow.output.trans hu1,?_,fun k h1 h2 h3 => ?_⟩,hcap',hnew⟩
 ·rcases hown'.2 with h | ⟨g,cap,cur,h1,h2,h3,h4⟩
  ·exact .inl h
  ·refine .inr ⟨g,cap,cur,h1,h2,?_,h4⟩
   rw [Go.Deep.blk_setCell_other _ _ _ _ (fun e=>hne' (by rw [h1,show g=b from e];rfl))]
   exact h3
 ·rw [Go.Deep.nblk_setCell];have:=hgrow.size;omega
 ·rw [Go.Deep.blk_setCell_other _ _ _ _ (show k≠b from h2),hgrow.block k (by omega) (fun e=>h3 e.symm),hk1 k h2]
set_option maxHeartbeats 2000000 in
set_option maxRecDepth 100000 in
theorem Tryz.EB (b:Nat) (p v:Value) (l:List UInt8) (w:World) (hb:w.heap[b]?=some (.cells #[p,v] 214 (0,0))) (hown:w.ownsRow 0 5 1 v l.length (l.map fun c=>Value.int .u8 c.toNat)) (hcap:∀a n c,v = .slice (some a) n c->0 < c) :
  Calls Tryz.prog 120 #[.pointer (some ⟨b,0,none⟩)] w fun e w'=>e = .returned (.string ⟨l.toArray⟩)/\DH v w w':=by
 have c1:w.drew.cell? ⟨b,1,none⟩=some v:=by
  have:w.drew.heap[b]?=some (.cells #[p,v] 214 (0,0)):=hb
  rw [Lib.cell_of_heap this];rfl
 have mixed:Tryz.prog.follows .mixedOrders=true:=by kernel_rfl
 by_cases h0:l = []
 ·subst h0
  obtain ⟨q,n,c,rfl,hn,hSD⟩:∃q n c,v = .slice q n c/\n=0/\(Builtin.unsafeSliceData_ #[153] 233 #[v]).run Tryz.prog w.drew = .ok (.pointer q) w.drew:=by
   rcases hown.2 with ⟨rfl,_⟩ | ⟨g,cap,cur,rfl,_⟩
   ·exact ⟨none,0,0,rfl,rfl,Lib.run_unsafeSliceData_nil _ _ _ _ _⟩
   ·exact ⟨_,_,_,rfl,rfl,Lib.run_unsafeSliceData_row _ _ _ _ _ _ (by have:=hcap _ _ _ rfl;omega)⟩
  subst hn
  have hUS:(Builtin.unsafeString_ #[233,3] 9 #[.pointer q, .int .i64 0]).run Tryz.prog w.drew = .ok (.string .empty) w.drew:=Lib.run_unsafeString_none _ _ _ _ q
  go_enter Tryz.func120,Tryz.ntmps120
  go_wp2
  go_region_o
  all_goals (go_wp2;go_ret;exact ⟨rfl,rfl,rfl,rfl,fun _ _=>rfl⟩)
 ·have hl0:l.length≠0:=by simpa using h0
  rcases hown.2 with ⟨_,hz⟩ | ⟨g,cap,cur,rfl,hbg,hg,hnc,hcm,hcs,htake⟩
  ·exact absurd hz hl0
  have hSD:(Builtin.unsafeSliceData_ #[153] 233 #[.slice (some ⟨g,0,none⟩) l.length cap]).run Tryz.prog w.drew = .ok (.pointer (some ⟨g,0,none⟩)) w.drew:=Lib.run_unsafeSliceData_row _ _ _ _ _ _ (by omega)
  have hUS:(Builtin.unsafeString_ #[233,3] 9 #[.pointer (some ⟨g,0,none⟩), .int .i64 l.length]).run Tryz.prog w.drew = .ok (.string ⟨l.toArray⟩) (w.drew.freeze ⟨g,0,none⟩ l.length):=by
   refine Lib.run_unsafeString_row w.drew 233 3 9 5 Tryz.underlying233 Tryz.Lb g cur.size (by have hg':w.drew.heap[g]?=some (.cells cur 5 (0,0)):=hg;simp [World.shape?,hg']) l h0 (by omega) (by unfold maxLen at hcm;omega) ?_
   intro j x hx
   exact hown.cells (g:=g) rfl j (.int .u8 x.toNat) (by simp [hx])
  go_enter Tryz.func120,Tryz.ntmps120
  go_wp2
  go_region_o
  all_goals (go_wp2;go_ret;exact ⟨rfl,BB⟩)
theorem Tryz.Jy (b:Nat) (p _q:Value) (a:Option Addr) (n c:Nat) (w:World) (hb:w.heap[b]?=some (.cells #[p, .slice a n c] 214 (0,0))) :
  Calls Tryz.prog 128 #[.pointer (some ⟨b,0,none⟩)] w fun r w'=>r = .returned (.int .i64 n)/\w'=w:=by
 have c1:w.cell? ⟨b,1,none⟩=some (.slice a n c):=by rw [Lib.cell_of_heap hb];rfl
 go_enter Tryz.func128,Tryz.ntmps128
 go_wp2
 go_ret
 exact ⟨rfl,rfl⟩
theorem Tryz.B2:bw Tryz.prog Tryz.B.eT Tryz.X 119 false (pf 214 5):=
 uJ ⟨Tryz.f119,Tryz.func119,by kernel_rfl,by kernel_rfl⟩ Tryz.Gx
theorem Tryz.AX:bw Tryz.prog Tryz.B.eT Tryz.X 120 false (nc 214 5):=
 tn ⟨Tryz.f120,Tryz.func120,by kernel_rfl,by kernel_rfl⟩ Tryz.EB
theorem Tryz.Gy:bw Tryz.prog Tryz.B.eT Tryz.X 128 true (uH 214 5):=
 xZ ⟨Tryz.f128,Tryz.func128,by kernel_rfl,by kernel_rfl⟩ Tryz.Jy
end Go.Proofs.YtgokjhhcfemnhaaGreatDoor

namespace Go.Proofs.YtgokjhhcfemnhaaGreatDoor
open Go.Vg Go.Mrl
@[reducible] def Tryz.az:List Ob:=[.box 101 [.obj 1, .obj 2, .obj 3, .d (.int .i64), .d .bool], .row true .str, .row true .str, .tok mZ]
theorem Jz (s:List UInt8) (hw:er [.str] s) (hp:(fun s=>s.length<=64) s):(cG Tryz.B [] Tryz.f40 [] [.str] [.str] (fun x y=>y=(fun s=>bE s) x) s).holds:=by
 refine holds_of (p:=
  let za:=List.length s
  let zb:=(64:Int) - (↑za:Int)
  let zc:=List.replicate (Int.toNat zb) (bp (Ty.int IntKind.u8))
  ((za<=av)->((aC (64:Int))->((aC (↑za:Int))->(aC zb)/\((0:Int)<=zb/\zb=zb/\zb<=(1000000000:Int))/\(List.length zc<=av)/\(za + List.length (bytesOf zc)<=av)/\(s++bytesOf zc=bE s))))) (by kernel_rfl) ?_
 dsimp -iota -proj -eta only
 exact fun h0 h1 h2=>⟨(by simp only [aC,av] at *;omega),(by omega),(by simp only [List.length_replicate,yr];omega),(by simp only [bytesOf,List.length_map,List.length_replicate,yr];omega),(by show s++bytesOf (List.replicate _ 0)=_;rw [DO,bE,show Int.toNat (64 - (s.length:Int))=64 - s.length by omega])⟩
theorem Tryz.CW:bj Tryz.prog Tryz.B.eT Tryz.X 40 [.str] [.str] (fun s=>s.length<=64) (fun x y=>y=(fun s=>bE s) x):=
 bN (X:=Tryz.X) (bA Tryz.bz) Tryz.func40 (by kernel_rfl) (fun _=>[]) (fun x hw hp=>Jz x hw hp)
theorem Ii (x:Int) (y:Int) (hw:er [.int .u64, .int .u64] (x,y)) (hp:(fun z=>z.1=1/\0<=z.2/\z.2<=1000000) (x,y)):(cG Tryz.B [] Tryz.f112 [] [.int .u64, .int .u64] [.int .u64, .int .u64] (fun x y=>y=(fun z=>ph z) x) (x,y)).holds:=by
 refine holds_of (p:=
  let za:=IntKind.bits IntKind.u64
  let zb:=BitVec.ofInt za (4294967295:Int)
  let zc:=(0:Int)<=(32:Int)
  let zd:=(2:Int) ^ min (32:Nat) za
  let ze:=fun (x_5 x_4:Int)=>x_5=IntKind.wrap IntKind.u64 x_4
  (∀x_0:Int,((x_0=IntKind.wrap IntKind.u64 (↑(BitVec.toNat (BitVec.ofInt za x &&& zb)):Int))->(zc)/\(∀x_1:Int,((x_1=Int.fdiv x zd)->(∀x_2:Int,((x_2=IntKind.wrap IntKind.u64 (↑(BitVec.toNat (BitVec.ofInt za y &&& zb)):Int))->(zc)/\(∀x_3:Int,((x_3=Int.fdiv y zd)->(∀x_4:Int,((x_4=x_0 * x_2)->(∀x_5:Int,((ze x_5 x_4)->(∀x_6:Int,((x_6=x_1 * x_2)->(∀x_7:Int,((ze x_7 x_6)->(zc)/\(∀x_8:Int,((x_8=Int.fdiv x_5 zd)->(∀x_9:Int,((x_9=IntKind.wrap IntKind.u64 (x_7 + x_8))->(∀x_10:Int,((x_10=IntKind.wrap IntKind.u64 (↑(BitVec.toNat (BitVec.ofInt za x_9 &&& zb)):Int))->(zc)/\(∀x_11:Int,((x_11=Int.fdiv x_9 zd)->(∀x_12:Int,((x_12=x_0 * x_3)->(∀x_13:Int,((ze x_13 x_12)->(∀x_14:Int,((x_14=IntKind.wrap IntKind.u64 (x_10 + x_13))->(∀x_15:Int,((x_15=x_1 * x_3)->(∀x_16:Int,((ze x_16 x_15)->(∀x_17:Int,((x_17=IntKind.wrap IntKind.u64 (x_16 + x_11))->(zc)/\(∀x_18:Int,((x_18=Int.fdiv x_14 zd)->(∀x_19:Int,((x_19=IntKind.wrap IntKind.u64 (x_17 + x_18))->(∀x_20:Int,((x_20=x * y)->(∀x_21:Int,((ze x_21 x_20)->((x_19,x_21)=ph (x,y))))))))))))))))))))))))))))))))))))))))))))))) (by kernel_rfl) ?_
 dsimp -iota -proj -eta only
 dsimp only at hp
 refine fun x_0 q_0=>⟨?a,fun x_1 q_1 x_2 q_2=>⟨?b,fun x_3 q_3 x_4 q_4 x_5 q_5 x_6 q_6 x_7 q_7=>⟨?c,fun x_8 q_8 x_9 q_9 x_10 q_10=>⟨?d,fun x_11 q_11 x_12 q_12 x_13 q_13 x_14 q_14 x_15 q_15 x_16 q_16 x_17 q_17=>⟨?e,fun x_18 q_18 x_19 q_19 x_20 q_20 x_21 q_21 => ?f⟩⟩⟩⟩⟩
 case a|b|c|d|e=>trivial
 case f=>
  have a0:=HF q_0 (by omega) (by omega)
  have a1:=zR q_1 rfl (by omega) (by omega)
  have a2:=HF q_2 (by omega) (by omega)
  have a3:=zR q_3 rfl (by omega) (by omega)
  have a4:x_4=y:=by rw [q_4,a0,a2,hp.1,Int.one_mul]
  have a5:x_5=y:=by rw [q_5,a4];exact fD (by omega) (by omega)
  have a6:x_6=0:=by rw [q_6,a1,Int.zero_mul]
  have a7:x_7=0:=by rw [q_7,a6];rfl
  have a8:=zR q_8 rfl (by omega) (by omega)
  have a9:x_9=0:=by rw [q_9,a7,a8];rfl
  have a10:x_10=0:=by rw [HF q_10 (by omega) (by omega)];exact a9
  have a11:=zR q_11 rfl (by omega) (by omega)
  have a12:x_12=0:=by rw [q_12,a3,Int.mul_zero]
  have a13:x_13=0:=by rw [q_13,a12];rfl
  have a14:x_14=0:=by rw [q_14,a10,a13];rfl
  have a15:x_15=0:=by rw [q_15,a1,Int.zero_mul]
  have a16:x_16=0:=by rw [q_16,a15];rfl
  have a17:x_17=0:=by rw [q_17,a16,a11];rfl
  have a18:=zR q_18 rfl (by omega) (by omega)
  have a19:x_19=0:=by rw [q_19,a17,a18];rfl
  have a21:x_21=y:=by rw [q_21,q_20,hp.1,Int.one_mul];exact fD (by omega) (by omega)
  rw [a19,a21];simp [ph,hp.1]
theorem Tryz.Ij:bj Tryz.prog Tryz.B.eT Tryz.X 112 [.int .u64, .int .u64] [.int .u64, .int .u64] (fun z=>z.1=1/\0<=z.2/\z.2<=1000000) (fun x y=>y=(fun z=>ph z) x):=
 bN (X:=Tryz.X) (bA Tryz.bz) Tryz.func112 (by kernel_rfl) (fun _=>[]) (fun x hw hp=>Ii x.1 x.2 hw hp)
noncomputable def Tryz.AY:List (FuncId × (Bool × aY)):=[(112,(true,aM [.int .u64, .int .u64] [.int .u64, .int .u64] (fun z=>z.1=1/\0<=z.2/\z.2<=1000000) (fun z=>ph z)))]
theorem Tryz.EC:bn Tryz.prog Tryz.B Tryz.X Tryz.AY:=
 aG (ar Tryz.Ij) (bA Tryz.bz)
theorem KE (x:Int) (y:Int) (hw:er [.int .u64, .int .u64] (x,y)) (hp:(fun z=>z.1=1/\0<=z.2/\z.2<=1000000) (x,y)):(cG Tryz.B Tryz.AY Tryz.f79 [] [.int .u64, .int .u64] [.int .u64, .int .u64] (fun x y=>y=(fun z=>ph z) x) (x,y)).holds:=by
 refine holds_of (p:=
  (x=(1:Int)/\(0:Int)<=y/\y<=(1000000:Int))/\(((0:Int),x * y)=ph (x,y))) (by kernel_rfl) ?_
 dsimp only at hp
 refine ⟨?a,?b⟩
 case a|b=>trivial
theorem Tryz.KF:bj Tryz.prog Tryz.B.eT Tryz.X 79 [.int .u64, .int .u64] [.int .u64, .int .u64] (fun z=>z.1=1/\0<=z.2/\z.2<=1000000) (fun x y=>y=(fun z=>ph z) x):=
 bN (X:=Tryz.X) Tryz.EC Tryz.func79 (by kernel_rfl) (fun _=>[]) (fun x hw hp=>KE x.1 x.2 hw hp)
noncomputable def Tryz.Gz:List (FuncId × (Bool × aY)):=[(79,(true,aM [.int .u64, .int .u64] [.int .u64, .int .u64] (fun z=>z.1=1/\0<=z.2/\z.2<=1000000) (fun z=>ph z)))]
theorem Tryz.Ik:bn Tryz.prog Tryz.B Tryz.X Tryz.Gz:=
 aG (ar Tryz.KF) (bA Tryz.bz)
def xB (x:List (List UInt8)) (n:Int):cC:=[(0,fun st=>{X:=Nat,inv:=fun k=>1<=k/\k<=n.toNat,bV:=fun k=>n.toNat - k,ba:=fun k=>[(8,sI k)],ag:=fun k=>[(cp st 7, .ax .str (fX (nth .str x 0) n.toNat k))],keep:=[4,7],gS:=[cp st 7]})]
def pE:List (Alt [] [.d (.slice .str), .d (.int .i64)]):=[{aR:=[.row false .str],res:=[.obj 0],out:=fun a _=>(List.replicate a.2.1.toNat (nth .str a.1 0),()),ret:=fun _ _=>()}]
theorem GA (x:List (List UInt8)) (n:Int) (hw:eN [.d (.slice .str), .d (.int .i64)] (x,n,())) (hp:(fun a _=>a.1.length=1/\1<=a.2.1/\a.2.1<=1000000) (x,n,()) ()):(cH Tryz.B Tryz.Gz Tryz.f39 (xB x n) [] [.d (.slice .str), .d (.int .i64)] pE (x,n,()) ()).holds:=by
 refine holds_of (p:=
  let za:=List.length x
  let zb:=IntKind.wrap IntKind.u64 (↑za:Int)
  let zc:=IntKind.wrap IntKind.u64 n
  let zd:=IntKind.wrap IntKind.i64 (zb * zc)
  let ze:=List.replicate (Int.toNat zd) (bp Ty.str)
  let zf:=List.length ze
  let zg:=Int.toNat n
  let zh:=min za zf
  let zi:=nth Ty.str x (0:Nat)
  let zj:=fun (x_0:Nat)=>fX zi zg x_0
  let zk:=fun (x_0:Nat)=>List.length (zj x_0)
  let zl:=fun (x_0:Nat)=>(↑(zk x_0):Int)
  let zm:=fun (x_0:Nat)=>List.take (x_0 - (0:Nat)) (List.drop (0:Nat) (zj x_0))
  let zn:=fun (x_0:Nat)=>min (List.length (zm x_0)) (zk x_0 - x_0)
  let zo:=fun (x_0:Nat)=>(↑x_0:Int) + (↑(zn x_0):Int)
  (((decide (n < (0:Int)))=true->(False))/\((decide (n < (0:Int)))=false->((za<=av)->(zb=(1:Int)/\(0:Int)<=zc/\zc<=(1000000:Int))/\(((decide ((0:Int) > (0:Int)))=true->(False))/\((decide ((0:Int) > (0:Int)))=false->(((decide (zb * zc > (9223372036854775807:Int)))=true->(False))/\((decide (zb * zc > (9223372036854775807:Int)))=false->((0:Int)<=zd/\zd=zd/\zd<=(1000000000:Int))/\(True/\(0:Nat) + zf<=zf)/\(∃(x_1:Nat),((1:Nat)<=x_1/\x_1<=zg)/\((↑zh:Int)=(↑x_1:Int)/\True)/\List.take (0:Nat) ze++List.take zh x++List.drop ((0:Nat) + zh) ze=fX zi zg x_1/\True)/\(∀x_0:Nat,(((1:Nat)<=x_0/\x_0<=zg)->((zk x_0<=av)->(((decide ((↑x_0:Int) < zl x_0))=true->((0:Int)<=(↑x_0:Int)/\(↑x_0:Int)<=zl x_0/\zl x_0<=zl x_0)/\((0:Int)<=(0:Int)/\(0:Int)<=(↑x_0:Int)/\(↑x_0:Int)<=zl x_0)/\((0:Nat) + (x_0 - (0:Nat))<=zk x_0/\x_0 + (zk x_0 - x_0)<=zk x_0)/\((aC (↑x_0:Int))->((aC (↑(zn x_0):Int))->(aC (zo x_0))/\(∃(x':Nat),((1:Nat)<=x'/\x'<=zg)/\zg - x' < zg - x_0/\(zo x_0=(↑x':Int)/\True)/\List.take x_0 (zj x_0)++List.take (zn x_0) (zm x_0)++List.drop (x_0 + zn x_0) (zj x_0)=fX zi zg x'/\@List.nil (List UInt8) = @List.nil (List UInt8)/\True))))/\((decide ((↑x_0:Int) < zl x_0))=false->(True/\(zj x_0,())=(List.replicate zg zi,())/\()=())))))))))))))) (by kernel_rfl) ?_
 dsimp -iota -proj -eta only
 dsimp only at hp
 have e1:IntKind.wrap IntKind.u64 n=n:=fD (by omega) (by omega);have e2:IntKind.wrap IntKind.u64 (x.length:Int)=1:=by rw [hp.1];exact fD (by decide) (by decide)
 have e3:IntKind.wrap IntKind.i64 (1 * n)=n:=by rw [Int.one_mul];exact fE (by omega) (by omega)
 refine iL (fun h0 => ?a) (fun h0 h1=>⟨(by rw [e1,e2];omega),⟨fun h2=>absurd (show false=true from h2) (by decide),fun h2=>iL (fun h3=>(by rw [e1,e2] at *;omega)) (fun h3=>⟨(by rw [e1,e2,e3];omega),(by simp_all),?b,fun x_0 q_0 h4=>iL (fun h5=>⟨?c,?d,?e,fun h6 h7=>⟨(by simp only [aC,av] at *;omega),?f⟩⟩) (fun h5=>(by rw [show x_0=Int.toNat n by have hl:=zS (s:=nth .str x 0) (n:=Int.toNat n) (k:=x_0) (by omega);omega,Fz];exact ⟨trivial,rfl,rfl⟩))⟩)⟩⟩)
 case a|c|d|e=>omega
 case b=>
  rw [e1,e2,e3]
  obtain ⟨s,rfl⟩:=List.length_eq_one_iff.1 hp.1
  refine ⟨1,by omega,⟨?_,trivial⟩,?_,(by trivial)⟩
  ·simp only [List.length_singleton,List.length_replicate];omega
  ·have hm:min (List.length [s]) (List.length (List.replicate (Int.toNat n) (bp Ty.str)))=1:=by simp only [List.length_singleton,List.length_replicate];omega
   rw [hm];exact DP (n:=Int.toNat n) (by omega) rfl [s] rfl
 case f=>
  have hl:=zS (s:=nth .str x 0) (n:=Int.toNat n) (k:=x_0) (by omega)
  have e6:min (List.length (List.take (x_0 - 0) (List.drop 0 (fX (nth .str x 0) (Int.toNat n) x_0)))) (List.length (fX (nth .str x 0) (Int.toNat n) x_0) - x_0)=min x_0 (Int.toNat n - x_0):=by
   simp only [List.length_take,List.drop_zero];omega
  rw [e6]
  refine ⟨x_0 + min x_0 (Int.toNat n - x_0),by omega,by omega,⟨by omega,trivial⟩,?_,(by trivial)⟩
  rw [Nat.sub_zero,List.drop_zero]
  exact Fy (by omega) (by omega)
theorem Tryz.GB:bw Tryz.prog Tryz.B.eT Tryz.X 39 false (aB [] [.d (.slice .str), .d (.int .i64)] (fun a _=>a.1.length=1/\1<=a.2.1/\a.2.1<=1000000) pE):=
 aV (X:=Tryz.X) Tryz.Ik Tryz.func39 (by kernel_rfl) (fun (a:CD [.d (.slice .str), .d (.int .i64)]) (x:PD [])=>xB a.1 a.2.1) (fun (a:CD [.d (.slice .str), .d (.int .i64)]) (x:PD []) hw hp=>GA a.1 a.2.1 hw hp)
def q7:List (Alt [.row true .str] [.obj 0]):=[{aR:=[.row true .str, .row false .str],res:=[.obj 1],ok:=fun _ x=>x.1≠[],out:=fun _ x=>(x.1,x.1,()),ret:=fun _ _=>()}]
theorem GC (l:List (List UInt8)) (hw:eN [.obj 0] ()) (hp:(fun _ x=>x.1≠[]/\x.1.length<=1000000) () (l,())):(cH Tryz.B [] Tryz.f41 [] [.row true .str] [.obj 0] q7 () (l,())).holds:=by
 refine holds_of (p:=
  (∀x_0:Bool,(((0:Nat) < List.length l->x_0=false)->(((x_0)=true->(False))/\((x_0)=false->(List.length l<=(1000000000:Nat))/\(l≠@List.nil (List UInt8)/\(l,l,())=(l,l,())/\()=())))))) (by kernel_rfl) ?_
 dsimp only at hp
 refine fun x_0 q_0=>⟨fun h0 => ?a,fun h0=>⟨(by omega),?b⟩⟩
 case a|b=>simp_all
theorem Tryz.GD:bw Tryz.prog Tryz.B.eT Tryz.X 41 false (aB [.row true .str] [.obj 0] (fun _ x=>x.1≠[]/\x.1.length<=1000000) q7):=
 aV (X:=Tryz.X) (bA Tryz.bz) Tryz.func41 (by kernel_rfl) (fun (a:CD [.obj 0]) (x:PD [.row true .str])=>[]) (fun (a:CD [.obj 0]) (x:PD [.row true .str]) hw hp=>GC x.1 hw hp)
noncomputable def Tryz.AZ:List (FuncId × (Bool × aY)):=[(40,(true,aM [.str] [.str] (fun s=>s.length<=64) (fun s=>bE s))),
 (39,(false,aB [] [.d (.slice .str), .d (.int .i64)] (fun a _=>a.1.length=1/\1<=a.2.1/\a.2.1<=1000000) pE)),
 (41,(false,aB [.row true .str] [.obj 0] (fun _ x=>x.1≠[]/\x.1.length<=1000000) q7))]
theorem Tryz.ED:bn Tryz.prog Tryz.B Tryz.X Tryz.AZ:=
 aG (ar Tryz.CW) (aG (Tryz.GB) (aG (Tryz.GD) (bA Tryz.bz)))
def Tryz.tJ:List (Alt Tryz.az [.obj 0]):=[{aR:=Tryz.az,res:=[.d .err],out:=fun _ x=>(stepOf x).1,ret:=fun _ x=>(au (stepOf x).2,())}]
theorem JA (d:Dk) (hw:eN [.obj 0] ()) (hp:(fun _ x => -1<=x.1.1) () d):(cH Tryz.B [] Tryz.f85 [] Tryz.az [.obj 0] Tryz.tJ () d).holds:=by
 refine holds_of (p:=
  let za:=d.2.2.2.1=d.2.2.2.1
  let zb:=(-1:Int)
  let zc:=(stepOf d).1
  let zd:=(au (stepOf d).2,())
  let ze:=(aF.no (9:Int),())=zd
  let zf:=zb - (1:Int)
  let zg:=(aF.nil,())=zd
  let zh:=d.1.1 - (1:Int)
  let zi:=(((d.1.2.1)=true->(za/\True/\d=zc/\ze))/\((d.1.2.1)=false->((aC d.1.1)->((aC (1:Int))->(aC zh)/\(za/\True/\((if zb > zh then zb else zh,d.1.2),d.2)=zc/\zg)))))
  (((!d.1.2.1)=true->(((d.1.1 == (0:Int))=true->(((true)=true->(za/\True/\((zb,true,()),d.2)=zc/\ze))/\((true)=false->((aC zb)->((aC (1:Int))->(aC zf)/\(za/\True/\((if zb > zf then zb else zf,true,()),d.2)=zc/\zg))))))/\((d.1.1 == (0:Int))=false->(zi))))/\((!d.1.2.1)=false->(zi)))) (by kernel_rfl) ?_
 dsimp -iota -proj -eta only
 refine iB (fun h0=>iQ (fun h1=>⟨fun h2=>(by rw [BF (by simp_all) (by assumption)];exact ⟨rfl,trivial,rfl,rfl⟩),fun h2=>absurd (show true=false from h2) (by decide)⟩) (fun h1=>⟨fun h2 => ?a,fun h2 h3 h4=>⟨?b,(by rw [FB (by simp_all) (by assumption) hp];exact ⟨rfl,trivial,rfl,rfl⟩)⟩⟩)) (fun h0=>⟨fun h1 => ?c,fun h1 h2 h3=>⟨?d,(by simp_all)⟩⟩)
 case a|c=>rw [BE (by simp_all)];exact ⟨rfl,trivial,rfl,rfl⟩
 case b|d=>simp only [aC] at *;omega
theorem Tryz.JB:bw Tryz.prog Tryz.B.eT Tryz.X 85 false (aB Tryz.az [.obj 0] (fun _ x => -1<=x.1.1) Tryz.tJ):=
 aV (X:=Tryz.X) (bA Tryz.bz) Tryz.func85 (by kernel_rfl) (fun (a:CD [.obj 0]) (x:PD Tryz.az)=>[]) (fun (a:CD [.obj 0]) (x:PD Tryz.az) hw hp=>JA x hw hp)
noncomputable def Tryz.tK:List (FuncId × (Bool × aY)):=[(40,(true,aM [.str] [.str] (fun s=>s.length<=64) (fun s=>bE s))),
 (85,(false,aB Tryz.az [.obj 0] (fun _ x => -1<=x.1.1) Tryz.tJ))]
theorem Tryz.vj:bn Tryz.prog Tryz.B Tryz.X Tryz.tK:=
 aG (ar Tryz.CW) (aG (Tryz.JB) (bA Tryz.bz))
def Tryz.ic:List (Alt Tryz.az [.obj 0, .d (.int .i64), .d .str]):=[{aR:=Tryz.az,res:=[.d .err],out:=fun a x=>(aJ x a.1 a.2.1).1,ret:=fun a x=>(au (aJ x a.1 a.2.1).2,())}]
theorem GF (at_:Int) (s:List UInt8) (d:Dk) (hw:eN [.obj 0, .d (.int .i64), .d .str] (at_,s,())) (hp:(fun _ x => -1<=x.1.1/\x.2.2.2.1.length<=900000000) (at_,s,()) d):(cH Tryz.B Tryz.tK Tryz.f48 [] Tryz.az [.obj 0, .d (.int .i64), .d .str] Tryz.ic (at_,s,()) d).holds:=by
 refine holds_of (p:=
  let za:=d.2.2.2.1=d.2.2.2.1
  let zb:=aJ d at_ s
  let zc:=(au zb.2,())
  let zd:=za/\True/\d=zb.1/\(aF.no (1:Int),())=zc
  let ze:=List.length d.2.2.1
  let zf:=List.length s
  let zg:=au (stepOf d).2
  let zh:=(stepOf d).1
  let zi:=List.length zh.2.2.1
  let zj:=Int.toNat at_
  let zk:=List.set zh.2.2.1 zj (bE s)
  let zl:=zh.2.2.2.1
  let zm:=[(at_,nth Ty.str zk zj,())]
  let zn:=zl++zm
  let zo:=(zg,())=zc
  (((decide (at_ < (0:Int)))=true->(zd))/\((decide (at_ < (0:Int)))=false->((ze<=av)->(((decide (at_>=(↑ze:Int)))=true->(zd))/\((decide (at_>=(↑ze:Int)))=false->((zf<=av)->(((decide ((↑zf:Int) > (64:Int)))=true->(zd))/\((decide ((↑zf:Int) > (64:Int)))=false->(za)/\((-1:Int)<=d.1.1)/\((True)->(((aF.isNil zg)=true->(zf<=(64:Nat))/\((0:Int)<=at_/\at_ < (↑zi:Int))/\(zj < zi)/\((0:Int)<=at_/\at_ < (↑(List.length zk):Int))/\(zj < List.length zk)/\(zl=zl/\List.length zl + List.length zm<=(1000000000:Nat))/\(zn=zn/\True/\(zh.1,zh.2.1,zk,zn,())=zb.1/\zo))/\((aF.isNil zg)=false->(zl=zl/\True/\zh=zb.1/\zo))))))))))))) (by kernel_rfl) ?_
 dsimp -iota -proj -eta only
 refine iL (fun h0 => ?a) (fun h0 h1=>iE (fun h2 => ?b) (fun h2 h3=>iL (fun h4 => ?c) (fun h4=>⟨rfl,?d,fun h5=>⟨fun h6=>⟨?e,?f,?g,?h,?i,?j,?k⟩,fun h6=>(by rw [BD (by omega) (fun h=>by have:=aS.2 h;simp_all)];exact ⟨rfl,trivial,rfl,rfl⟩)⟩⟩)))
 case a|b|c=>rw [DQ (by omega)];exact ⟨rfl,trivial,rfl,rfl⟩
 case d|e=>omega
 case f|g=>
  have hlen:(stepOf d).fst.snd.snd.fst=d.snd.snd.fst:=congrArg (fun z=>z.2.1) (b7 d);have hwt:(stepOf d).fst.snd.snd.snd.fst=d.snd.snd.snd.fst:=congrArg (fun z=>z.2.2.1) (b7 d);have hkp:(stepOf d).fst.snd.fst=d.snd.fst:=congrArg (fun z=>z.1) (b7 d)
  rw [hlen];omega
 case h|i=>
  have hlen:(stepOf d).fst.snd.snd.fst=d.snd.snd.fst:=congrArg (fun z=>z.2.1) (b7 d);have hwt:(stepOf d).fst.snd.snd.snd.fst=d.snd.snd.snd.fst:=congrArg (fun z=>z.2.2.1) (b7 d);have hkp:(stepOf d).fst.snd.fst=d.snd.fst:=congrArg (fun z=>z.1) (b7 d)
  rw [List.length_set,hlen];omega
 case j=>
  have hlen:(stepOf d).fst.snd.snd.fst=d.snd.snd.fst:=congrArg (fun z=>z.2.1) (b7 d);have hwt:(stepOf d).fst.snd.snd.snd.fst=d.snd.snd.snd.fst:=congrArg (fun z=>z.2.2.1) (b7 d);have hkp:(stepOf d).fst.snd.fst=d.snd.fst:=congrArg (fun z=>z.1) (b7 d)
  rw [hwt];simp only [List.length_singleton,true_and];omega
 case k=>
  have hlen:(stepOf d).fst.snd.snd.fst=d.snd.snd.fst:=congrArg (fun z=>z.2.1) (b7 d);have hwt:(stepOf d).fst.snd.snd.snd.fst=d.snd.snd.snd.fst:=congrArg (fun z=>z.2.2.1) (b7 d);have hkp:(stepOf d).fst.snd.fst=d.snd.fst:=congrArg (fun z=>z.1) (b7 d)
  rw [FA (by omega) (aS.1 (by assumption)),Jg (t:=.str) (by rw [hlen];omega),hlen,hwt,hkp]
  exact ⟨rfl,trivial,rfl,by simp [aS.1 ‹(au (stepOf d).snd).isNil=true›]⟩
theorem Tryz.lD:bw Tryz.prog Tryz.B.eT Tryz.X 48 false (aB Tryz.az [.obj 0, .d (.int .i64), .d .str] (fun _ x => -1<=x.1.1/\x.2.2.2.1.length<=900000000) Tryz.ic):=
 aV (X:=Tryz.X) Tryz.vj Tryz.func48 (by kernel_rfl) (fun (a:CD [.obj 0, .d (.int .i64), .d .str]) (x:PD Tryz.az)=>[]) (fun (a:CD [.obj 0, .d (.int .i64), .d .str]) (x:PD Tryz.az) hw hp=>GF a.1 a.2.1 x hw hp)
def Tryz.mH:List (Alt Tryz.az [.obj 0, .d (.int .i64)]):=[{aR:=Tryz.az,res:=[.d .str, .d .err],out:=fun _ x=>x,ret:=fun a x=>((kX x a.1).1,au (kX x a.1).2,())}]
theorem Il (at_:Int) (d:Dk) (hw:eN [.obj 0, .d (.int .i64)] (at_,())):(cH Tryz.B [] Tryz.f44 [] Tryz.az [.obj 0, .d (.int .i64)] Tryz.mH (at_,()) d).holds:=by
 refine holds_of (p:=
  let za:=d.2.2.2.1=d.2.2.2.1
  let zb:=((kX d at_).1,au (kX d at_).2,())
  let zc:=za/\True/\d=d/\([],aF.no (1:Int),())=zb
  let zd:=List.length d.2.2.1
  (((d.1.2.1)=true->(za/\True/\d=d/\([],aF.no (9:Int),())=zb))/\((d.1.2.1)=false->(((decide (at_ < (0:Int)))=true->(zc))/\((decide (at_ < (0:Int)))=false->((zd<=av)->(((decide (at_>=(↑zd:Int)))=true->(zc))/\((decide (at_>=(↑zd:Int)))=false->((0:Int)<=at_/\at_ < (↑zd:Int))/\(Int.toNat at_ < zd)/\(za/\True/\d=d/\(nth Ty.str d.2.2.1 (Int.toNat at_),aF.nil,())=zb))))))))) (by kernel_rfl) ?_
 dsimp -iota -proj -eta only
 refine ⟨fun h0=>(by rw [DR (by assumption)];exact ⟨rfl,trivial,rfl,rfl⟩),fun h0=>iL (fun h1 => ?a) (fun h1 h2=>iE (fun h3 => ?b) (fun h3=>⟨(by trivial),(by omega),(by rw [HH (by assumption) (by omega)];exact ⟨rfl,trivial,rfl,rfl⟩)⟩))⟩
 case a|b=>rw [FC (by assumption) (by omega)];exact ⟨rfl,trivial,rfl,rfl⟩
theorem Tryz.tL:bw Tryz.prog Tryz.B.eT Tryz.X 44 false (aB Tryz.az [.obj 0, .d (.int .i64)] (fun _ _=>True) Tryz.mH):=
 aV (X:=Tryz.X) (bA Tryz.bz) Tryz.func44 (by kernel_rfl) (fun (a:CD [.obj 0, .d (.int .i64)]) (x:PD Tryz.az)=>[]) (fun (a:CD [.obj 0, .d (.int .i64)]) (x:PD Tryz.az) hw hp=>Il a.1 x hw)
def Tryz.ie:List (Alt Tryz.az [.obj 0]):=[{aR:=Tryz.az,res:=[.d .err],out:=fun _ x=>(aN x).1,ret:=fun _ x=>(au (aN x).2,())}]
theorem GG (d:Dk) (hw:eN [.obj 0] ()) (hp:(fun _ x => -1<=x.1.1/\x.2.1.length=x.2.2.1.length) () d):(cH Tryz.B Tryz.tK Tryz.f49 [] Tryz.az [.obj 0] Tryz.ie () d).holds:=by
 refine holds_of (p:=
  let za:=au (stepOf d).2
  let zb:=(stepOf d).1
  let zc:=List.length zb.2.1
  let zd:=zb.2.2.1
  let ze:=min (List.length zd) zc
  let zf:=(za,())=(au (aN d).2,())
  (d.2.2.2.1=d.2.2.2.1)/\((-1:Int)<=d.1.1)/\((True)->(((aF.isNil za)=true->(True/\(0:Nat) + zc<=zc)/\(@List.nil (Int × List UInt8 × Unit) = @List.nil (Int × List UInt8 × Unit)/\True/\(zb.1,List.take (0:Nat) zb.2.1++List.take ze zd++List.drop ((0:Nat) + ze) zb.2.1,zd,[],())=(aN d).1/\zf))/\((aF.isNil za)=false->(zb.2.2.2.1=zb.2.2.2.1/\True/\zb=(aN d).1/\zf))))) (by kernel_rfl) ?_
 dsimp -iota -proj -eta only
 refine ⟨rfl,(by omega),fun h0=>⟨fun h1=>⟨(by simp_all),?a⟩,fun h1=>(by rw [BG (fun h=>by have:=aS.2 h;simp_all)];exact ⟨rfl,trivial,rfl,rfl⟩)⟩⟩
 case a=>
  have hlen:(stepOf d).fst.snd.snd.fst=d.snd.snd.fst:=congrArg (fun z=>z.2.1) (b7 d);have hwt:(stepOf d).fst.snd.snd.snd.fst=d.snd.snd.snd.fst:=congrArg (fun z=>z.2.2.1) (b7 d);have hkp:(stepOf d).fst.snd.fst=d.snd.fst:=congrArg (fun z=>z.1) (b7 d)
  have h0:=aS.1 ‹(au (stepOf d).snd).isNil=true›
  rw [FD h0,hlen,hkp,HG hp.2,h0]
  exact ⟨rfl,trivial,rfl,rfl⟩
theorem Tryz.lE:bw Tryz.prog Tryz.B.eT Tryz.X 49 false (aB Tryz.az [.obj 0] (fun _ x => -1<=x.1.1/\x.2.1.length=x.2.2.1.length) Tryz.ie):=
 aV (X:=Tryz.X) Tryz.vj Tryz.func49 (by kernel_rfl) (fun (a:CD [.obj 0]) (x:PD Tryz.az)=>[]) (fun (a:CD [.obj 0]) (x:PD Tryz.az) hw hp=>GG x hw hp)
def Tryz.kK:List (Alt Tryz.az [.obj 0]):=[{aR:=Tryz.az,res:=[.d .bool],out:=fun _ x=>x,ret:=fun _ x=>(x.1.2.1,())}]
theorem Im (d:Dk) (hw:eN [.obj 0] ()):(cH Tryz.B [] Tryz.f42 [] Tryz.az [.obj 0] Tryz.kK () d).holds:=by
 refine holds_of (p:=
  (d.2.2.2.1=d.2.2.2.1/\True/\d=d/\d.1.2=d.1.2)) (by kernel_rfl) ?_
 exact (by trivial)
theorem Tryz.pF:bw Tryz.prog Tryz.B.eT Tryz.X 42 false (aB Tryz.az [.obj 0] (fun _ _=>True) Tryz.kK):=
 aV (X:=Tryz.X) (bA Tryz.bz) Tryz.func42 (by kernel_rfl) (fun (a:CD [.obj 0]) (x:PD Tryz.az)=>[]) (fun (a:CD [.obj 0]) (x:PD Tryz.az) hw hp=>Im x hw)
def Tryz.fm:List (Alt Tryz.az [.obj 0]):=[{aR:=Tryz.az,res:=[.d (.int .i64)],out:=fun _ x=>x,ret:=fun _ x=>((x.2.2.1.length:Int),())}]
theorem B3 (d:Dk) (hw:eN [.obj 0] ()):(cH Tryz.B [] Tryz.f43 [] Tryz.az [.obj 0] Tryz.fm () d).holds:=by
 refine holds_of (p:=
  let za:=List.length d.2.2.1
  let zb:=((↑za:Int),())
  ((za<=av)->(d.2.2.2.1=d.2.2.2.1/\True/\d=d/\zb=zb))) (by kernel_rfl) ?_
 dsimp -iota -proj -eta only
 exact fun h0=>(by trivial)
theorem Tryz.iY:bw Tryz.prog Tryz.B.eT Tryz.X 43 false (aB Tryz.az [.obj 0] (fun _ _=>True) Tryz.fm):=
 aV (X:=Tryz.X) (bA Tryz.bz) Tryz.func43 (by kernel_rfl) (fun (a:CD [.obj 0]) (x:PD Tryz.az)=>[]) (fun (a:CD [.obj 0]) (x:PD Tryz.az) hw hp=>B3 x hw)
def Tryz.oy:List (Alt [] [.d (.int .i64)]):=[
 {aR:=[],res:=[.c8, .d .err],ok:=fun a _=>a.1 < 1\/120 < a.1,out:=fun _ _=>(),ret:=fun _ _=>(aF.no 1,())},
 {aR:=Tryz.az,res:=[.obj 0, .d .err],ok:=fun a _=>1<=a.1/\a.1<=120,out:=fun a _=>fC a.1,ret:=fun _ _=>(aF.nil,())}]
theorem JC (n:Int) (hw:eN [.d (.int .i64)] (n,())):(cH Tryz.B Tryz.AZ Tryz.f8 [] [] [.d (.int .i64)] Tryz.oy (n,()) ()).holds:=by
 refine holds_of (p:=
  let za:=(aF.no (1:Int),())
  let zb:=(n < (1:Int)\/(120:Int) < n)/\()=()/\za=za
  let zc:=[bE (@List.nil UInt8)]
  let zd:=List.replicate (Int.toNat n) (nth Ty.str zc (0:Nat))
  let ze:=zd≠@List.nil (List UInt8)
  (((decide (n < (1:Int)))=true->(zb))/\((decide (n < (1:Int)))=false->(((decide (n > (120:Int)))=true->(zb))/\((decide (n > (120:Int)))=false->(List.length (@List.nil UInt8)<=(64:Nat))/\(List.length zc=(1:Nat)/\(1:Int)<=n/\n<=(1000000:Int))/\((True)->(ze/\List.length zd<=(1000000:Nat))/\((ze)->(@List.nil (Int × List UInt8 × Unit) = @List.nil (Int × List UInt8 × Unit)/\((1:Int)<=n/\n<=(120:Int))/\(((-1:Int),false,()),zd,zd,[],())=fC n/\(aF.nil,())=(aF.nil,()))))))))) (by kernel_rfl) ?_
 dsimp -iota -proj -eta only
 refine iL (fun h0 => ?a) (fun h0=>iL (fun h1 => ?b) (fun h1=>⟨(by trivial),⟨rfl,by omega,by omega⟩,fun h2=>⟨?c,fun h3=>⟨rfl,by omega,rfl,rfl⟩⟩⟩))
 case a|b=>exact ⟨by omega,rfl,rfl⟩
 case c=>
  refine ⟨fun h => ?_,by simp only [List.length_replicate];omega⟩
  have:=congrArg List.length h;simp only [List.length_replicate,List.length_nil] at this;omega
theorem Tryz.wc:bw Tryz.prog Tryz.B.eT Tryz.X 8 false (aB [] [.d (.int .i64)] (fun _ _=>True) Tryz.oy):=
 aV (X:=Tryz.X) Tryz.ED Tryz.func8 (by kernel_rfl) (fun (a:CD [.d (.int .i64)]) (x:PD [])=>[]) (fun (a:CD [.d (.int .i64)]) (x:PD []) hw hp=>JC a.1 hw)
end Go.Proofs.YtgokjhhcfemnhaaGreatDoor

namespace Go.Proofs.YtgokjhhcfemnhaaGreatDoor
open Go.Vg Go.Mrl
theorem JD (n:Int) (hw:er [.int .i64] n):(cG Tryz.B [] Tryz.f86 [] [.int .i64] [.str] (fun x y=>y=(fun n=>ei n) x) n).holds:=by
 refine holds_of (p:=
  ((0:Int)<=(8:Int))/\(∀x_0:Int,((x_0=Int.fdiv n ((2:Int) ^ min (8:Nat) (IntKind.bits IntKind.i64)))->((0:Int)<=(16:Int))/\(∀x_1:Int,((x_1=Int.fdiv n ((2:Int) ^ min (16:Nat) (IntKind.bits IntKind.i64)))->((0:Int)<=(24:Int))/\(∀x_2:Int,((x_2=Int.fdiv n ((2:Int) ^ min (24:Nat) (IntKind.bits IntKind.i64)))->(List.length [IntKind.wrap IntKind.u8 n,IntKind.wrap IntKind.u8 x_0,IntKind.wrap IntKind.u8 x_1,IntKind.wrap IntKind.u8 x_2]<=av)/\(bytesOf [IntKind.wrap IntKind.u8 n,IntKind.wrap IntKind.u8 x_0,IntKind.wrap IntKind.u8 x_1,IntKind.wrap IntKind.u8 x_2]=ei n)))))))) (by kernel_rfl) ?_
 refine ⟨?a,fun x_0 q_0=>⟨?b,fun x_1 q_1=>⟨?c,fun x_2 q_2=>⟨((by decide:4<=av)),(by subst q_0;subst q_1;subst q_2;rfl)⟩⟩⟩⟩
 case a|b|c=>trivial
theorem Tryz.JE:bj Tryz.prog Tryz.B.eT Tryz.X 86 [.int .i64] [.str] (fun _=>True) (fun x y=>y=(fun n=>ei n) x):=
 bN (X:=Tryz.X) (bA Tryz.bz) Tryz.func86 (by kernel_rfl) (fun _=>[]) (fun x hw hp=>JD x hw)
noncomputable def Tryz.CX:List (FuncId × (Bool × aY)):=[(86,(true,aM [.int .i64] [.str] (fun _=>True) (fun n=>ei n)))]
theorem Tryz.GH:bn Tryz.prog Tryz.B Tryz.X Tryz.CX:=
 aG (ar Tryz.JE) (bA Tryz.bz)
theorem Io (a:Int) (b:Int) (hw:er [.int .i64, .int .i64] (a,b)):(cG Tryz.B Tryz.CX Tryz.f50 [] [.int .i64, .int .i64] [.str] (fun x y=>y=(fun x=>cf x.1 x.2) x) (a,b)).holds:=by
 refine holds_of (p:=
  let za:=[(83:UInt8)]++ei a
  (True)/\(List.length [(83:UInt8)] + List.length (ei a)<=av)/\(True)/\(List.length za + List.length (ei b)<=av)/\(za++ei b=cf a b)) (by kernel_rfl) ?_
 dsimp -iota -proj -eta only
 exact ⟨trivial,(by rw [ng];exact (by decide:1 + 4<=av)),trivial,(by rw [List.length_append,ng,ng];exact (by decide:1 + 4 + 4<=av)),(by trivial)⟩
theorem Tryz.A0:bj Tryz.prog Tryz.B.eT Tryz.X 50 [.int .i64, .int .i64] [.str] (fun _=>True) (fun x y=>y=(fun x=>cf x.1 x.2) x):=
 bN (X:=Tryz.X) Tryz.GH Tryz.func50 (by kernel_rfl) (fun _=>[]) (fun x hw hp=>Io x.1 x.2 hw)
theorem GI (s:List UInt8) (hw:er [.str] s) (hp:(fun s=>4<=s.length) s):(cG Tryz.B [] Tryz.f45 [] [.str] [.int .i64] (fun s y=>(y:Int)=dB s) s).holds:=by
 refine holds_of (p:=
  let za:=(↑(List.length s):Int)
  let zb:=IntKind.bits IntKind.i64
  let zc:=fun (x_3 x_1 x_2:Int)=>x_3=IntKind.wrap IntKind.i64 (↑(BitVec.toNat (BitVec.ofInt zb x_1 ||| BitVec.ofInt zb x_2)):Int)
  ((0:Int)<=(0:Int)/\(0:Int) < za)/\((0:Int)<=(1:Int)/\(1:Int) < za)/\((0:Int)<=(8:Int))/\(∀x_0:Int,((x_0=IntKind.wrap IntKind.i64 ((↑(UInt8.toNat (br s (1:Nat))):Int) * (2:Int) ^ min (8:Nat) zb))->(∀x_1:Int,((x_1=IntKind.wrap IntKind.i64 (↑(BitVec.toNat (BitVec.ofInt zb (↑(UInt8.toNat (br s (0:Nat))):Int) ||| BitVec.ofInt zb x_0)):Int))->((0:Int)<=(2:Int)/\(2:Int) < za)/\((0:Int)<=(16:Int))/\(∀x_2:Int,((x_2=IntKind.wrap IntKind.i64 ((↑(UInt8.toNat (br s (2:Nat))):Int) * (2:Int) ^ min (16:Nat) zb))->(∀x_3:Int,((zc x_3 x_1 x_2)->((0:Int)<=(3:Int)/\(3:Int) < za)/\((0:Int)<=(24:Int))/\(∀x_4:Int,((x_4=IntKind.wrap IntKind.i64 ((↑(UInt8.toNat (br s (3:Nat))):Int) * (2:Int) ^ min (24:Nat) zb))->(∀x_5:Int,((zc x_5 x_3 x_4)->(x_5=dB s)))))))))))))) (by kernel_rfl) ?_
 dsimp -iota -proj -eta only
 refine ⟨?a,?b,?c,fun x_0 q_0 x_1 q_1=>⟨?d,?e,fun x_2 q_2 x_3 q_3=>⟨?f,?g,fun x_4 q_4 x_5 q_5=>(by subst_vars;rfl)⟩⟩⟩
 case a|b|d|f=>omega
 case c|e|g=>trivial
theorem Tryz.GJ:bj Tryz.prog Tryz.B.eT Tryz.X 45 [.str] [.int .i64] (fun s=>4<=s.length) (fun s y=>(y:Int)=dB s):=
 bN (X:=Tryz.X) (bA Tryz.bz) Tryz.func45 (by kernel_rfl) (fun _=>[]) (fun x hw hp=>GI x hw hp)
noncomputable def Tryz.xC:List (FuncId × (Bool × aY)):=[(119,(false,pf 214 5)),
 (120,(false,nc 214 5)),
 (128,(true,uH 214 5)),
 (84,(true,aM [af] [.str, .err] (fun _=>True) (fun e=>bq e)))]
theorem Tryz.B4:bn Tryz.prog Tryz.B Tryz.X Tryz.xC:=
 aG (Tryz.B2) (aG (Tryz.AX) (aG (Tryz.Gy) (aG (ar Tryz.AW) (bA Tryz.bz))))
def xD (l:List (D af)):cC:=[
 (0,fun st=>{X:=Nat,inv:=fun i=>i<=l.length/\∀j,j < i->ay (nth af l j)=0,bV:=fun i=>l.length - i,ba:=fun i=>[(11,sI i)],keep:=[4,9,10],ag:=fun i=>[(cp st 4, .ext 2 iJ (aI (cq (l.take i)),(214:Int),(5:Int),()))],gS:=[cp st 4]})]
theorem Ip (l:List (D af)) (hw:er [.slice af] l) (hp:(fun l=>l.length<=100) l):(cG (iw Tryz.B [17]) Tryz.xC Tryz.f92 (xD l) [.slice af] [.str, .err] (fun x y=>y=(fun l=>bF l) x) l).holds:=by
 refine holds_of (p:=
  let za:=List.length l
  let zb:=(↑(214:Nat):Int)
  let zc:=fun (b:UInt8)=>(↑(UInt8.toNat b):Int)
  let zd:=((214:Int),(5:Int),())
  let ze:=(↑(5:Nat):Int)
  let zf:=fun (x_0:Nat)=>List.map zc (cq (List.take x_0 l))
  ((za<=av)->(∃(x:Nat),(x<=za/\∀(j:Nat),j < x->ay (nth af l j)=(0:Int))/\((0:Int)=(↑x:Int)/\True)/\([],zb,(↑(5:TypeId):Int),())=(List.map zc (cq (List.take x l)),zd)/\True)/\(∀x_0:Nat,((x_0<=za/\∀(j:Nat),j < x_0->ay (nth af l j)=(0:Int))->(((decide ((↑x_0:Int) < (↑za:Int)))=true->((0:Int)<=(↑x_0:Int)/\(↑x_0:Int) < (↑za:Int))/\(True)/\(((!aF.isNil (bq (nth af l x_0)).2)=true->(([],(bq (nth af l x_0)).2)=bF l))/\((!aF.isNil (bq (nth af l x_0)).2)=false->((214:Int)=zb/\(5:Int)=ze/\List.length (zf x_0) + List.length (bq (nth af l x_0)).1<=(140737488355328:Nat))/\((aC (↑x_0:Int))->((aC (1:Int))->(aC ((↑x_0:Int) + (1:Int)))/\(∃(x':Nat),(x'<=za/\∀(j:Nat),j < x'->ay (nth af l j)=(0:Int))/\za - x' < za - x_0/\((↑x_0:Int) + (1:Int)=(↑x':Int)/\True)/\(zf x_0++List.map zc (bq (nth af l x_0)).1,zb,ze,())=(List.map zc (cq (List.take x' l)),zd)/\True))))))/\((decide ((↑x_0:Int) < (↑za:Int)))=false->((214:Int)=zb/\(5:Int)=ze)/\((bytesOf (zf x_0),aF.nil)=bF l))))))) (by kernel_rfl) ?_
 dsimp -iota -proj -eta only
 refine fun h0=>⟨(⟨0,⟨Nat.zero_le _,fun j hj=>absurd hj (Nat.not_lt_zero _)⟩,⟨rfl,trivial⟩,rfl,trivial⟩),fun x_0 q_0=>iL (fun h1=>⟨(by omega),trivial,iB (fun h2=>(Gc q_0.2 (by omega) h2)) (fun h2=>⟨?a,fun h3 h4=>⟨(by simp only [aC,av] at *;omega),(⟨x_0 + 1,⟨by omega,iz q_0.2 (pq h2).1⟩,by omega,⟨by omega,trivial⟩,HK (Gd (by omega) h2),trivial⟩)⟩⟩)⟩) (fun h1=>⟨(by trivial),(by rw [show bytesOf (List.map _ (cq (List.take x_0 l)))=_ from uI _];exact HY q_0.2 (by omega))⟩)⟩
 case a=>refine ⟨rfl,rfl,?_⟩;rw [List.length_map];have h1:=Ge hp (i:=x_0) (by omega) q_0.2;have h2:=Eg h2;omega
theorem Tryz.Iq:bj Tryz.prog Tryz.B.eT Tryz.X 92 [.slice af] [.str, .err] (fun l=>l.length<=100) (fun x y=>y=(fun l=>bF l) x):=
 bN (B:=(iw Tryz.B [17])) (X:=Tryz.X) (bn.hint (l:=[17]) Tryz.B4) Tryz.func92 (by kernel_rfl) (fun x=>xD x) (fun x hw hp=>Ip x hw hp)
end Go.Proofs.YtgokjhhcfemnhaaGreatDoor

namespace Go.Proofs.YtgokjhhcfemnhaaGreatDoor
open Go.Vg Go.Shelf Go.RowKit
attribute [local go_sem] Oper.semAt_some
def vk (p j k:Nat):Prop:=p=j * k
theorem KG {n k m:Nat} (h:min k n=m):(if n < k then ((n:Nat):Int) else (k:Int))=(m:Int):=by split <;> omega
theorem Tryz.Lj (b1 b2:Nat) (a:Option Addr) (len cap k:Nat) (w0:World) (h1k:1<=k) (hk9:k<=1000000000) (hl9:len<=1000000000) (hlc:len<=cap) (hsome:0 < len->∃b o,a=some ⟨b,o,none⟩)
  (l:Nat) (J Jx:List Nat->World->Prop) (hJd:∀s W,J s W->J s W.drew)
  (hY:∀pre x W1,J pre W1->pre.length < cr len k->YieldAt Fence.wide 1 Tryz.prog l #[eM a len k x] W1 fun e W'=>
   (e = .returned (.bool true)/\J (pre++[x]) W'/\(W'.cell? ⟨b1,0,none⟩=W1.cell? ⟨b1,0,none⟩/\W'.cell? ⟨b2,0,none⟩=W1.cell? ⟨b2,0,none⟩))\/(e = .returned (.bool false)/\Jx (pre++[x]) W'))
  (W:World) (hc1:W.cell? ⟨b1,0,none⟩=some (.slice a len cap)) (hc2:W.cell? ⟨b2,0,none⟩=some (.int .i64 k)) (h0:J [] W) :
  CallsIn Fence.wide 2 Tryz.prog 121 #[.func (.yield l) #[] #[], .pointer (some ⟨b1,0,none⟩), .pointer (some ⟨b2,0,none⟩)] W fun e W'=>(∃v,e = .returned v)/\((∃xs,xs=List.range (cr len k)/\J xs W')\/(∃pre,(∃j,pre=List.range j)/\Jx pre W')):=by
 refine callsIn_of_wp Tryz.func121 rfl trivial ?_ rfl
 have hn:Tryz.f121.ntmps=31:=rfl
 simp only [hn,List.size_toArray,List.length_cons,List.length_nil,Nat.reduceAdd,Nat.reduceSub,Array.replicate_succ,Array.replicate_zero,List.push_toArray,List.append_toArray,List.nil_append,List.cons_append]
 gi_wp2
 gi_loopw [4] (fun i wr=>∃j p:Nat,vk p j k/\j<=cr len k/\i = .int .i64 (p:Int)/\J (List.range j) wr/\wr.cell? ⟨b1,0,none⟩=some (.slice a len cap)/\wr.cell? ⟨b2,0,none⟩=some (.int .i64 k))
  (fun i _=>len + k - (intOf i).toNat)
 case atStart=>exact ⟨0,0,(Nat.zero_mul k).symm,Nat.zero_le _,rfl,h0,hc1,hc2⟩
 case round=>
  obtain ⟨j,p,hp,hj,rfl,hJs,hw1,hw2⟩:=hrel
  by_cases hlt:p < len
  ·have hlt':(p:Int) < (len:Int):=Int.ofNat_lt.2 hlt
   obtain ⟨b,o,rfl⟩:=hsome (by omega)
   obtain ⟨m,hm⟩:∃m:Nat,m=min k (len - p):=⟨_,rfl⟩
   have hm0:0 < m:=by omega
   have hm00:¬ m=0:=by omega
   have hm2:p + m<=len:=by omega
   have hb1:(((p:Nat):Int) + (m:Int))<=1000000000:=by omega
   have hb0:(0:Int)<=((p:Nat):Int) + (m:Int):=by omega
   have hjN:j < cr len k:=by
    unfold cr
    rw [Nat.lt_div_iff_mul_lt (by omega)];unfold vk at hp;omega
   obtain ⟨fn,tmps,assign,body,hy,hR⟩:=hY (List.range j) j wr.drew (hJd _ _ hJs) (by rw [List.length_range];exact hjN)
   rw [show eM (some ⟨b,o,none⟩) len k j = .slice (some ⟨b,o + p,none⟩) m m by unfold vk at hp;subst hp;subst hm;rfl] at hy
   gi_wp2
   gi_region
   try rw [KG (show min k (len - p)=m from hm.symm)]
   try rw [show min ((k:Nat):Int) ((len - p:Nat):Int)=(m:Int) by omega]
   try rw [<-hm]
   clear hm
   gi_wp2
   refine hR.mono ?_
   rintro e W3 (⟨rfl,hJ3,hk3⟩ | ⟨rfl,hJx3⟩)
   ·have hw3:=hk3.1.trans hw1
    have hw4:=hk3.2.trans hw2
    have hs1:(0:Int)<=(p:Int) + (k:Int):=by omega
    have hs2:(p:Int) + (k:Int)<=2000000000:=by omega
    gi_wp2
    go_roundw
    case rel=>exact ⟨j + 1,p + k,by unfold vk at *;rw [hp,Nat.add_mul,Nat.one_mul],hjN,by simp,by rw [List.range_succ];exact hJ3,hw3,hw4⟩
    case measure=>simp [intOf];omega
   ·gi_wp2
    refine bodyPost_ret (results_none rfl _ _ _) rfl ?_
    exact ⟨⟨_,rfl⟩, .inr ⟨_,⟨j + 1,List.range_succ.symm⟩,hJx3⟩⟩
  ·have hjN:j=cr len k:=by
    refine Nat.le_antisymm hj (Nat.le_of_not_lt fun hc=>hlt ?_)
    unfold cr at hc
    rw [Nat.lt_div_iff_mul_lt (by omega)] at hc
    unfold vk at hp
    omega
   gi_wp2
   go_end0
   exact ⟨⟨_,rfl⟩, .inl ⟨_,rfl,by rw [<-hjN];exact hJs⟩⟩
theorem Tryz.JF:ou Tryz.prog 121:=fun b1 b2 a len cap k w h1k hk9 hl9 hlc hsome hb1 hb2 hc1 hc2 l J Jx W hW hJ _ hY h0=>
 Tryz.Lj b1 b2 a len cap k w h1k hk9 hl9 hlc hsome l J Jx (fun s W hs=>hJ s W W.drew none hs ⟨rfl,rfl,rfl,Nat.le_refl _,fun _ _ _=>rfl⟩ (fun r e=>by cases e)) hY W
  ((hW.cell (p:=⟨b1,0,none⟩) hb1).trans hc1) ((hW.cell (p:=⟨b2,0,none⟩) hb2).trans hc2) h0
end Go.Proofs.YtgokjhhcfemnhaaGreatDoor

namespace Go.Proofs.YtgokjhhcfemnhaaGreatDoor
open Go.Vg Go.Mrl
@[reducible] def Tryz.aL:List Ob:=[.box 105 [.obj 1, .d (.int .i64), .d (.slice af)], .box 101 [.obj 2, .obj 3, .obj 4, .d (.int .i64), .d .bool], .row true .str, .row true .str, .tok mZ]
@[reducible] def Tryz.JG:List Ob:=[.box 31 [.obj 1], .box 105 [.obj 2, .d (.int .i64), .d (.slice af)], .box 101 [.obj 3, .obj 4, .obj 5, .d (.int .i64), .d .bool], .row true .str, .row true .str, .tok mZ, .box 27 [.d .err], .box 27 [.d .err], .box 3 [.d (.int .i64)]]
noncomputable def Tryz.CY:List (FuncId × (Bool × aY)):=[(92,(true,aM [.slice af] [.str, .err] (fun l=>l.length<=100) (fun l=>bF l))),
 (50,(true,aM [.int .i64, .int .i64] [.str] (fun _=>True) (fun x=>cf x.1 x.2))),
 (93,(false,fb Tryz.B [] Tryz.f93 [])),
 (48,(false,aB Tryz.az [.obj 0, .d (.int .i64), .d .str] (fun _ x => -1<=x.1.1/\x.2.2.2.1.length<=900000000) Tryz.ic)),
 (49,(false,aB Tryz.az [.obj 0] (fun _ x => -1<=x.1.1/\x.2.1.length=x.2.2.1.length) Tryz.ie))]
theorem Tryz.GK:bn Tryz.prog Tryz.B Tryz.X Tryz.CY:=
 aG (ar Tryz.Iq) (aG (ar Tryz.A0) (aG (eP (bA Tryz.bz) Tryz.func93 (by kernel_rfl) []) (aG (Tryz.lD) (aG (Tryz.lE) (bA Tryz.bz)))))
def Tryz.A4 (l:List (D af)) (r:Int) (o:List (D af)) (d:Dk):List (Nat × (St->fF)):=[
 (0,fun st=>{inv:=fun pre=>(dj l r d pre).2=0,keep:=[1,2,4,5,6,7,8,29],ak:=Tryz.JG,refs:=[(2,0),(4,6),(6,7),(8,8)],pd:=fun pre=>((),(r,o,()),(dj l r d pre).1.1,(dj l r d pre).1.2.1,(dj l r d pre).1.2.2.1,(dj l r d pre).1.2.2.2.1,(aF.nil,()),(aF.nil,()),((2 + (r + 1).tmod 2 * 55 + (pre.length:Int):Int),()),())})]
def Tryz.pG:List (Alt Tryz.aL [.obj 0, .d (.slice af)]):=[{aR:=Tryz.aL,res:=[.d .err],out:=fun a x=>(if (b8 x.2 x.1.1 a.1).2=0 then (x.1.1 + 1,a.1,()) else x.1,(b8 x.2 x.1.1 a.1).1),ret:=fun a x=>(au (b8 x.2 x.1.1 a.1).2,())}]
theorem JH (l:List (D af)) (r:Int) (o:List (D af)) (d:Dk) (hw:eN [.obj 0, .d (.slice af)] (l,())) (hp:(fun a x=>a.1.length<=100/\0<=(x.1.1:Int)/\(x.1.1:Int)<=1000000000/\bf x.2 1000000) (l,()) ((r,o,()),d)):(vY Tryz.B Tryz.CY 121 Tryz.f55 (Tryz.A4 l r o d) Tryz.aL [.obj 0, .d (.slice af)] Tryz.pG (l,()) ((r,o,()),d)).holds:=by
 refine holds_of (p:=
  let za:=d.2.2.2.1
  let zb:=(r,o,())
  let zc:=b8 d r l
  let zd:=r + (1:Int)
  let ze:=(zd,l,())
  let zf:=(if zc.2=(0:Int) then ze else zb,zc.1)
  let zg:=((bF l).2,())
  let zh:=(au zc.2,())
  let zi:=(2:Int)≠(0:Int)
  let zj:=Int.tmod zd (2:Int)
  let zk:=List.map (fun (b:UInt8)=>(↑(UInt8.toNat b):Int)) (bF l).1
  let zl:=(aF.nil,())
  let zm:=(2:Int) + zj * (55:Int)
  let zn:=(List.length zk + (64:Nat) - (1:Nat)) / (64:Nat)
  let zo:=fun (x_3:Nat)=>List.take (64:Nat) (List.drop (x_3 * (64:Nat)) zk)
  let zp:=fun (x_2:List Nat)=>(dj l r d x_2).1
  let zq:=(-1:Int)
  let zr:=fun (x_2:List Nat)=>zm + (↑(List.length x_2):Int)
  let zs:=fun (x_2:List Nat) (x_3:Nat)=>au (aJ (zp x_2) (zr x_2) (bytesOf (zo x_3))).2
  let zt:=fun (x_2:List Nat) (x_3:Nat)=>(aJ (zp x_2) (zr x_2) (bytesOf (zo x_3))).1
  let zu:=fun (x_3:Nat) (x_2:List Nat)=>(List.length (zo x_3)<=av)/\((zp x_2).2.2.2.1=(zp x_2).2.2.2.1)/\(zq<=(zp x_2).1.1/\List.length (zp x_2).2.2.2.1<=(900000000:Nat))/\((True)->(((!aF.isNil (zs x_2 x_3))=true->((x_2=List.range x_3)->((zt x_2 x_3).2.2.2.1=(zt x_2 x_3).2.2.2.1/\True/\(zb,zt x_2 x_3)=zf/\(zs x_2 x_3,())=zh)))/\((!aF.isNil (zs x_2 x_3))=false->((aC (zr x_2))->((aC (1:Int))->(aC (zr x_2 + (1:Int)))/\((zt x_2 x_3).2.2.2.1=(zt x_2 x_3).2.2.2.1/\∃(x':List Nat),(dj l r d x').2=(0:Int)/\x'=x_2++[x_3]/\True/\True/\true=true/\((),zb,(zt x_2 x_3).1,(zt x_2 x_3).2.1,(zt x_2 x_3).2.2.1,(zt x_2 x_3).2.2.2.1,zl,(zs x_2 x_3,()),(zr x_2 + (1:Int),()),())=((),zb,(dj l r d x').1.1,(dj l r d x').1.2.1,(dj l r d x').1.2.2.1,(dj l r d x').1.2.2.2.1,zl,zl,(zm + (↑(List.length x'):Int),()),())))))))
  let zv:=dj l r d (List.range zn)
  let zw:=zv.1.2.2.2.1
  let zx:=au (aN zv.1).2
  let zy:=aF.isNil zx
  let zz:=List.length (bF l).1
  let zaa:=(aN zv.1).1
  let zab:=zaa.2.2.2.1
  let zac:=zab=zab
  let zad:=zq<=zaa.1.1
  let zae:=fun (x_2:Int)=>aJ zaa x_2 (cf zd (↑zz:Int))
  let zaf:=fun (x_2:Int)=>(zae x_2).1.2.2.2.1=(zae x_2).1.2.2.2.1
  let zag:=fun (x_2:Int)=>(aN (zae x_2).1).1
  let zah:=fun (x_2:Int)=>(zag x_2).2.2.2.1=(zag x_2).2.2.2.1
  let zai:=fun (x_2:Int)=>(au (aN (zae x_2).1).2,())=zh
  let zaj:=fun (x_2:Int)=>(au (zae x_2).2,())=zh
  let zak:=au (aN zaa).2
  let zal:=(aN zaa).1
  let zam:=zal.2.2.2.1=zal.2.2.2.1
  let zan:=(zak,())=zh
  let zao:=(zx,())=zh
  (List.length l<=(100:Nat))/\(((!aF.isNil (bF l).2)=true->(za=za/\True/\(zb,d)=zf/\zg=zh))/\((!aF.isNil (bF l).2)=false->((aC r)->((aC (1:Int))->(aC zd)/\(zi)/\(∀x_0:Int,((x_0=zj)->(∀x_1:Int,((x_1=x_0 * (55:Int))->((aC x_0)->((aC (55:Int))->(aC x_1)/\((aC (2:Int))->((aC x_1)->(aC ((2:Int) + x_1))/\(((decide ((64:Int) < (1:Int)))=true->(False))/\((decide ((64:Int) < (1:Int)))=false->((((1:Int)<=(64:Int)/\(64:Int)<=(1000000000:Int)/\List.length zk<=(1000000000:Nat)))/\((za=za/\∃(x':List Nat),(dj l r d x').2=(0:Int)/\x' = @List.nil Nat/\True/\True/\true=true/\((),zb,d.1,d.2.1,d.2.2.1,za,zl,zg,((2:Int) + x_1,()),())=((),zb,(dj l r d x').1.1,(dj l r d x').1.2.1,(dj l r d x').1.2.2.1,(dj l r d x').1.2.2.2.1,zl,zl,(zm + (↑(List.length x'):Int),()),())))/\((∀x_2:List Nat,(((dj l r d x_2).2=(0:Int))->(∀x_3:Nat,((List.length x_2 < zn)->((((fun a0 a1:Prop=>a0/\a0/\a1) (((fun a0:Prop=>a0/\a0) ((zu x_3 x_2)))) ((zu x_3 x_2))))/\(((((fun a0:Prop=>a0/\a0) ((zu x_3 x_2))))/\((zu x_3 x_2))))/\((zu x_3 x_2))))))))/\(((zv.2=(0:Int))->(zw=zw)/\(zq<=zv.1.1.1/\List.length zv.1.2.1=List.length zv.1.2.2.1)/\((True)->(((zy)=true->(zi)/\(∀x_2:Int,((x_2=zj)->((zz<=av)->(True)/\(zac)/\(zad/\List.length zab<=(900000000:Nat))/\((True)->(((aF.isNil (au (zae x_2).2))=true->(zaf x_2)/\(zq<=(zae x_2).1.1.1/\List.length (zae x_2).1.2.1=List.length (zae x_2).1.2.2.1)/\((True)->(((aF.isNil (au (aN (zae x_2).1).2))=true->((fun a0:Prop=>a0/\a0) ((zah x_2/\True/\(ze,zag x_2)=zf/\zai x_2))))/\((aF.isNil (au (aN (zae x_2).1).2))=false->(zah x_2/\True/\(zb,zag x_2)=zf/\zai x_2)))))/\((aF.isNil (au (zae x_2).2))=false->(((aF.isNil (au (zae x_2).2))=true->((fun a0:Prop=>a0/\a0) ((zaf x_2/\True/\(ze,(zae x_2).1)=zf/\zaj x_2))))/\((aF.isNil (au (zae x_2).2))=false->(zaf x_2/\True/\(zb,(zae x_2).1)=zf/\zaj x_2))))))))))/\((zy)=false->(((zy)=true->(zac)/\(zad/\List.length zaa.2.1=List.length zaa.2.2.1)/\((True)->(((aF.isNil zak)=true->((fun a0:Prop=>a0/\a0) ((zam/\True/\(ze,zal)=zf/\zan))))/\((aF.isNil zak)=false->(zam/\True/\(zb,zal)=zf/\zan)))))/\((zy)=false->(((zy)=true->((fun a0:Prop=>a0/\a0) ((zac/\True/\(ze,zaa)=zf/\zao))))/\((zy)=false->(zac/\True/\(zb,zaa)=zf/\zao)))))))))))))))))))))))))) (by kernel_rfl) ?_
 dsimp -iota -proj -eta only
 dsimp only at hp
 refine ⟨hp.1,iB (fun h0 => ?a) (fun h0 h1 h2=>⟨(by have hr:=hp.2.1;have hr2:=hp.2.2.1;simp only [aC] at *;dsimp only [D] at *;omega),?b,fun x_0 q_0 x_1 q_1 h3 h4=>⟨?c,fun h5 h6=>⟨?d,⟨fun h7=>absurd (show false=true from h7) (by decide),fun h7=>⟨?e,?f,fun x_2 q_2 x_3 q_3=>⟨(show ∀{a0 a1:Prop},a0->a1->a0/\a0/\a1 from fun g0 g1=>⟨g0,g0,g1⟩) ((show ∀{a0:Prop},a0->a0/\a0 from fun g0=>⟨g0,g0⟩) (⟨?g,rfl,?h,fun h8=>iB (fun h9 h10 => ?i) (fun h9 h10 h11=>⟨?j,?k⟩)⟩)) (⟨?l,rfl,?m,fun h8=>iB (fun h9 h10 => ?n) (fun h9 h10 h11=>⟨?o,?p⟩)⟩),⟨(show ∀{a0:Prop},a0->a0/\a0 from fun g0=>⟨g0,g0⟩) (⟨?q,rfl,?r,fun h8=>iB (fun h9 h10 => ?s) (fun h9 h10 h11=>⟨?t,?u⟩)⟩),⟨?v,rfl,?w,fun h8=>iB (fun h9 h10 => ?x) (fun h9 h10 h11=>⟨?y,?z⟩)⟩⟩,⟨?a0,rfl,?a1,fun h8=>iB (fun h9 h10 => ?a2) (fun h9 h10 h11=>⟨?a3,?a4⟩)⟩⟩,fun h8=>⟨rfl,(by have hf:=tB (r:=r) hp.1 hp.2.2.2;exact ⟨hf.gg,hf.len⟩),fun h9=>⟨fun h10=>⟨?a5,fun x_2 q_2 h11=>⟨trivial,rfl,(by have hf:=lU (tB (r:=r) hp.1 hp.2.2.2);exact ⟨hf.gg,Nat.le_trans hf.iX (by decide)⟩),fun h12=>⟨fun h13=>⟨rfl,(by have hf:=gh (lU (tB (r:=r) hp.1 hp.2.2.2)) x_2 (cf (r + 1) (bF l).1.length);exact ⟨hf.gg,hf.len⟩),fun h14=>⟨fun h15=>(show ∀{a0:Prop},a0->a0/\a0 from fun g0=>⟨g0,g0⟩) ((by subst q_2;exact ⟨rfl,trivial,Gg (xq h0 h8 (aS.1 h10) (aS.1 h13)) (aS.1 h15)⟩)),fun h15=>(by subst q_2;exact ⟨rfl,trivial,mE (xq h0 h8 (aS.1 h10) (aS.1 h13)) (c6 h15)⟩)⟩⟩,fun h13=>⟨fun h14=>(show ∀{a0:Prop},a0->a0/\a0 from fun g0=>⟨g0,g0⟩) ((Bool.noConfusion (h13.symm.trans h14))),fun h14=>(by subst q_2;exact ⟨rfl,trivial,mE (Jo h0 h8 (aS.1 h10) (c6 h13)) (c6 h13)⟩)⟩⟩⟩⟩,fun h10=>⟨fun h11=>⟨rfl,?a6,fun h12=>⟨fun h13=>(show ∀{a0:Prop},a0->a0/\a0 from fun g0=>⟨g0,g0⟩) (?a7),fun h13 => ?a8⟩⟩,fun h11=>⟨fun h12=>(show ∀{a0:Prop},a0->a0/\a0 from fun g0=>⟨g0,g0⟩) ((Bool.noConfusion (h10.symm.trans h12))),fun h12=>⟨rfl,trivial,mE (Jn h0 h8 (c6 h10)) (c6 h10)⟩⟩⟩⟩⟩⟩⟩⟩⟩⟩)⟩
 case a=>
  obtain ⟨e1,e2,e3⟩:=Gf d r h0
  rw [e3]
  exact ⟨rfl,trivial,mE (z:=(d,fG l)) e1 e2⟩
 case b|a5=>trivial
 case c|d=>have ht:=IQ (r:=r) hp.2.1;simp only [aC] at *;dsimp only [D] at *;omega
 case e=>refine ⟨by decide,by decide,?_⟩;rw [List.length_map];have:=xp hp.1;omega
 case f=>
  refine ⟨rfl,[],rfl,rfl,trivial,trivial,rfl,?_⟩
  rw [(lB h0).1,q_1,q_0];simp [dj,gv]
 case g|l|q|v|a0=>rw [List.length_take];exact Nat.le_trans (Nat.min_le_left _ _) (by decide)
 case h|m|r|w|a1=>
  have hf:=As (l:=l) (r:=r) hp.2.2.2 x_2
  have h5000:=pz hp.1
  exact ⟨hf.gg,Nat.le_trans hf.iX (by have:x_2.length < cr (aI (bF l).1).length 64:=q_3;omega)⟩
 case i|n|s|x|a2=>exact ⟨rfl,trivial,mE (Em h0 q_2 h10 q_3 (c6 h9)) (c6 h9)⟩
 case j|o|t|y|a3=>
  have ht:=IQ (r:=r) hp.2.1
  have h5000:=pz hp.1
  have:x_2.length < cr (aI (bF l).1).length 64:=q_3
  simp only [aC] at *;dsimp only [D] at *;omega
 case k|p|u|z|a4=>
  have hz:=aS.1 h9
  refine ⟨rfl,x_2++[x_3],?_,rfl,trivial,trivial,rfl,?_⟩
  ·rw [Au x_3 q_2];exact hz
  ·rw [Au x_3 q_2,List.length_append]
   refine congrArg (fun z=>((),(r,o,()),z)) ?_
   rw [show au _=aF.nil from congrArg au hz]
   simp only [List.length_singleton,Int.natCast_add,Int.natCast_one,Int.add_assoc]
   rfl
 case a6|a7|a8=>exact Bool.noConfusion (h10.symm.trans h11)
theorem Tryz.CZ:bw Tryz.prog Tryz.B.eT Tryz.X 55 false (aB Tryz.aL [.obj 0, .d (.slice af)] (fun a x=>a.1.length<=100/\0<=(x.1.1:Int)/\(x.1.1:Int)<=1000000000/\bf x.2 1000000) Tryz.pG):=
 vZ (X:=Tryz.X) Tryz.GK Tryz.JF Tryz.func121 (by kernel_rfl) Tryz.func55 (by kernel_rfl) (fun (a:CD [.obj 0, .d (.slice af)]) (x:PD Tryz.aL)=>Tryz.A4 a.1 x.1.1 x.1.2.1 x.2) (fun (a:CD [.obj 0, .d (.slice af)]) (x:PD Tryz.aL) hw hp=>JH a.1 x.1.1 x.1.2.1 x.2 hw hp)
end Go.Proofs.YtgokjhhcfemnhaaGreatDoor

namespace Go.Proofs.YtgokjhhcfemnhaaGreatDoor
open Go.Vg Go.Mrl
noncomputable def Tryz.vm:List (FuncId × (Bool × aY)):=[(89,(false,fb Tryz.B [] Tryz.f89 []))]
theorem Tryz.A5:bn Tryz.prog Tryz.B Tryz.X Tryz.vm:=
 aG (eP (bA Tryz.bz) Tryz.func89 (by kernel_rfl) []) (bA Tryz.bz)
def xE:cC:=[(0,fun st=>{X:=Nat,inv:=fun i=>i<=(jS (.slice af) st 0).length/\∀j,j < i->(nth af (jS (.slice af) st 0) j).1≠K7 .str st (KQ st 1 0),bV:=fun i=>(jS (.slice af) st 0).length - i,ba:=fun i=>[(8,sI i)],keep:=[0,1,7]})]
noncomputable def Tryz.C0:List (FuncId × (Bool × aY)):=[(88,(false,fb Tryz.B Tryz.vm Tryz.f88 xE))]
theorem Tryz.GL:bn Tryz.prog Tryz.B Tryz.X Tryz.C0:=
 aG (eP Tryz.A5 Tryz.func88 (by kernel_rfl) xE) (bA Tryz.bz)
def Tryz.mI:List (Alt Tryz.aL [.obj 0, .d .str]):=[{aR:=Tryz.aL,res:=[.d (.int .i64)],out:=fun _ x=>x,ret:=fun a x=>(bQ x.1.2.1 a.1,())}]
theorem JI (s:List UInt8) (r:Int) (o:List (D af)) (d:Dk) (hw:eN [.obj 0, .d .str] (s,())):(cH Tryz.B Tryz.C0 Tryz.f53 [] Tryz.aL [.obj 0, .d .str] Tryz.mI (s,()) ((r,o,()),d)).holds:=by
 refine holds_of (p:=
  let za:=List.length o
  let zb:=d.2.2.2.1=d.2.2.2.1
  let zc:=((r,o,()),d)
  let zd:=(bQ o s,())
  let ze:=C.ref (1:Nat) (0:Nat)
  ((za<=av)->(∃(x:Nat),(x<=za/\∀(j:Nat),j < x->(nth af o j).1≠s)/\((0:Int)=(↑x:Int)/\True)/\True)/\(∀x_0:Nat,((x_0<=za/\∀(j:Nat),j < x_0->(nth af o j).1≠s)->(((decide ((↑x_0:Int) < (↑za:Int)))=true->((0:Int)<=(↑x_0:Int)/\(↑x_0:Int) < (↑za:Int))/\((((nth af o x_0).1 == s)=true->(zb/\True/\zc=zc/\((↑x_0:Int),())=zd))/\(((nth af o x_0).1 == s)=false->((aC (↑x_0:Int))->((aC (1:Int))->(aC ((↑x_0:Int) + (1:Int)))/\(∃(x':Nat),(x'<=za/\∀(j:Nat),j < x'->(nth af o j).1≠s)/\za - x' < za - x_0/\((↑x_0:Int) + (1:Int)=(↑x':Int)/\True)/\(s=s/\True)/\(ze=ze/\r=r/\o=o/\True)/\(C.ax (2:Nat)=C.ax (2:Nat)/\C.ax (3:Nat)=C.ax (3:Nat)/\zb/\d.1.1=d.1.1/\d.1.2.1=d.1.2.1/\True)/\d.2.1=d.2.1/\d.2.2.1=d.2.2.1/\zb/\True))))))/\((decide ((↑x_0:Int) < (↑za:Int)))=false->(zb/\True/\zc=zc/\((-1:Int),())=zd))))))) (by kernel_rfl) ?_
 dsimp -iota -proj -eta only
 exact fun h0=>⟨(⟨0,⟨Nat.zero_le _,fun j hj=>absurd hj (Nat.not_lt_zero _)⟩,⟨rfl,trivial⟩,trivial⟩),fun x_0 q_0=>iL (fun h1=>⟨(by omega),iQ (fun h2=>⟨rfl,trivial,rfl,by rw [px (by omega) q_0.2 h2]⟩) (fun h2 h3 h4=>⟨(by simp only [aC,av] at *;omega),(⟨x_0 + 1,⟨by omega,iz q_0.2 h2⟩,by omega,⟨by omega,trivial⟩,(by trivial)⟩)⟩)⟩) (fun h1=>⟨rfl,trivial,rfl,by rw [kg fun j hj=>q_0.2 j (by omega)]⟩)⟩
theorem Tryz.wg:bw Tryz.prog Tryz.B.eT Tryz.X 53 false (aB Tryz.aL [.obj 0, .d .str] (fun _ _=>True) Tryz.mI):=
 aV (X:=Tryz.X) Tryz.GL Tryz.func53 (by kernel_rfl) (fun (a:CD [.obj 0, .d .str]) (x:PD Tryz.aL)=>[]) (fun (a:CD [.obj 0, .d .str]) (x:PD Tryz.aL) hw hp=>JI a.1 x.1.1 x.1.2.1 x.2 hw)
theorem EE (l:List (D ai)) (hw:er [.slice ai] l) (hp:(fun l=>l.length<=1000000) l):(cG Tryz.B [] Tryz.f90 [] [.slice ai] [.slice ai] (fun x y=>y=(fun l=>l) x) l).holds:=by
 refine holds_of (p:=
  (∀x_0:Bool,(((0:Nat) < List.length l->x_0=false)->(((x_0)=true->(@List.nil (List UInt8 × Int × Int × Unit)=l))/\((x_0)=false->(List.length l<=(1000000000:Nat))/\(l=l)))))) (by kernel_rfl) ?_
 exact fun x_0 q_0=>⟨fun h0=>(by simp_all),fun h0=>⟨(by omega),rfl⟩⟩
theorem Tryz.EF:bj Tryz.prog Tryz.B.eT Tryz.X 90 [.slice ai] [.slice ai] (fun l=>l.length<=1000000) (fun x y=>y=(fun l=>l) x):=
 bN (X:=Tryz.X) (bA Tryz.bz) Tryz.func90 (by kernel_rfl) (fun _=>[]) (fun x hw hp=>EE x hw hp)
theorem EG (l:List (D aq)) (hw:er [.slice aq] l) (hp:(fun l=>l.length<=1000000) l):(cG Tryz.B [] Tryz.f91 [] [.slice aq] [.slice aq] (fun x y=>y=(fun l=>l) x) l).holds:=by
 refine holds_of (p:=
  (∀x_0:Bool,(((0:Nat) < List.length l->x_0=false)->(((x_0)=true->(@List.nil (Int × Int × Int × Unit)=l))/\((x_0)=false->(List.length l<=(1000000000:Nat))/\(l=l)))))) (by kernel_rfl) ?_
 exact fun x_0 q_0=>⟨fun h0=>(by simp_all),fun h0=>⟨(by omega),rfl⟩⟩
theorem Tryz.EH:bj Tryz.prog Tryz.B.eT Tryz.X 91 [.slice aq] [.slice aq] (fun l=>l.length<=1000000) (fun x y=>y=(fun l=>l) x):=
 bN (X:=Tryz.X) (bA Tryz.bz) Tryz.func91 (by kernel_rfl) (fun _=>[]) (fun x hw hp=>EG x hw hp)
noncomputable def Tryz.xF:List (FuncId × (Bool × aY)):=[(90,(true,aM [.slice ai] [.slice ai] (fun l=>l.length<=1000000) (fun l=>l))),
 (91,(true,aM [.slice aq] [.slice aq] (fun l=>l.length<=1000000) (fun l=>l)))]
theorem Tryz.B5:bn Tryz.prog Tryz.B Tryz.X Tryz.xF:=
 aG (ar Tryz.EF) (aG (ar Tryz.EH) (bA Tryz.bz))
theorem GM (e:D af) (hw:er [af] e) (hp:(fun e=>e.2.1.length<=1000000/\e.2.2.1.length<=1000000) e):(cG Tryz.B Tryz.xF Tryz.f54 [] [af] [af] (fun x y=>y=(fun e=>e) x) e).holds:=by
 refine holds_of (p:=
  (List.length e.2.1<=(1000000:Nat))/\(List.length e.2.2.1<=(1000000:Nat))/\(e=e)) (by kernel_rfl) ?_
 refine ⟨?a,?b,rfl⟩
 case a|b=>omega
theorem Tryz.xG:bj Tryz.prog Tryz.B.eT Tryz.X 54 [af] [af] (fun e=>e.2.1.length<=1000000/\e.2.2.1.length<=1000000) (fun x y=>y=(fun e=>e) x):=
 bN (X:=Tryz.X) Tryz.B5 Tryz.func54 (by kernel_rfl) (fun _=>[]) (fun x hw hp=>GM x hw hp)
noncomputable def Tryz.GN:List (FuncId × (Bool × aY)):=[(51,(true,aM [af] [.err] (fun _=>True) (fun e=>au (ay e)))),
 (52,(false,fb Tryz.B [] Tryz.f52 [])),
 (53,(false,aB Tryz.aL [.obj 0, .d .str] (fun _ _=>True) Tryz.mI)),
 (54,(true,aM [af] [af] (fun e=>e.2.1.length<=1000000/\e.2.2.1.length<=1000000) (fun e=>e))),
 (55,(false,aB Tryz.aL [.obj 0, .d (.slice af)] (fun a x=>a.1.length<=100/\0<=(x.1.1:Int)/\(x.1.1:Int)<=1000000000/\bf x.2 1000000) Tryz.pG))]
theorem Tryz.Ir:bn Tryz.prog Tryz.B Tryz.X Tryz.GN:=
 aG (ar Tryz.xA) (aG (eP (bA Tryz.bz) Tryz.func52 (by kernel_rfl) []) (aG (Tryz.wg) (aG (ar Tryz.xG) (aG (Tryz.CZ) (bA Tryz.bz)))))
def Tryz.rL:List (Alt Tryz.aL [.obj 0, .d af]):=[{aR:=Tryz.aL,res:=[.d .err],out:=fun a x=>(dh x a.1).1,ret:=fun a x=>(au (dh x a.1).2,())}]
theorem KH (e:D af) (r:Int) (o:List (D af)) (d:Dk) (hw:eN [.obj 0, .d af] (e,())) (hp:(fun a x=>(a.1.2.1.length<=1000000/\a.1.2.2.1.length<=1000000)/\x.1.2.1.length<=99/\0<=(x.1.1:Int)/\(x.1.1:Int)<=1000000000/\bf x.2 1000000) (e,()) ((r,o,()),d)):(cH Tryz.B Tryz.GN Tryz.f12 [] Tryz.aL [.obj 0, .d af] Tryz.rL (e,()) ((r,o,()),d)).holds:=by
 refine holds_of (p:=
  let za:=au (ay e)
  let zb:=d.2.2.2.1=d.2.2.2.1
  let zc:=(r,o,())
  let zd:=dh (zc,d) e
  let ze:=(zc,d)=zd.1
  let zf:=(au zd.2,())
  let zg:=List.length o
  let zh:=bQ o e.1
  let zi:=decide (zh>=(0:Int))
  let zj:=List.length e.2.1<=(1000000:Nat)/\List.length e.2.2.1<=(1000000:Nat)
  let zk:=(0:Int)<=zh
  let zl:=List.length (@List.nil (List UInt8 × List (List UInt8 × Int × Int × Unit) × List (Int × Int × Int × Unit) × Unit))
  let zm:=zb/\True/\ze/\(aF.no (2:Int),())=zf
  let zn:=@List.nil (List UInt8 × List (List UInt8 × Int × Int × Unit) × List (Int × Int × Int × Unit) × Unit)++[e]
  let zo:=(0:Int)<=r/\r<=(1000000000:Int)/\bf d (1000000:Nat)
  let zp:=b8 d r zn
  let zq:=zp.1.2.2.2.1
  let zr:=r + (1:Int)
  let zs:=List.set o (Int.toNat zh) e
  let zt:=b8 d r zs
  let zu:=zt.1.2.2.2.1
  let zv:=o++[e]
  let zw:=b8 d r zv
  let zx:=zw.1.2.2.2.1
  (True)/\(((!aF.isNil za)=true->(zb/\True/\ze/\(za,())=zf))/\((!aF.isNil za)=false->(∀x_0:Bool,(((0:Nat) < zg->x_0=false)->(((x_0)=true->(zb)/\(True)/\((True)->(((zi)=true->(zj)/\(zk/\zh < (↑zl:Int))/\(False))/\((zi)=false->((zl<=av)->((((↑zl:Int) == (3:Int))=true->(zm))/\(((↑zl:Int) == (3:Int))=false->(zj)/\(@List.nil (List UInt8 × List (List UInt8 × Int × Int × Unit) × List (Int × Int × Int × Unit) × Unit) = @List.nil (List UInt8 × List (List UInt8 × Int × Int × Unit) × List (Int × Int × Int × Unit) × Unit)/\zl + List.length [e]<=(1000000000:Nat))/\(zb)/\(List.length zn<=(100:Nat)/\zo)/\((True)->(zq=zq/\True/\(if zp.2=(0:Int) then (zr,zn,()) else zc,zp.1)=zd.1/\(au zp.2,())=zf)))))))))/\((x_0)=false->(zg<=(1000000000:Nat))/\(zb)/\(True)/\((True)->(((zi)=true->(zj)/\(zk/\zh < (↑zg:Int))/\(Int.toNat zh < zg)/\(zb)/\(List.length zs<=(100:Nat)/\zo)/\((True)->(zu=zu/\True/\(if zt.2=(0:Int) then (zr,zs,()) else zc,zt.1)=zd.1/\(au zt.2,())=zf)))/\((zi)=false->((zg<=av)->((((↑zg:Int) == (3:Int))=true->(zm))/\(((↑zg:Int) == (3:Int))=false->(zj)/\(o=o/\zg + List.length [e]<=(1000000000:Nat))/\(zb)/\(List.length zv<=(100:Nat)/\zo)/\((True)->(zx=zx/\True/\(if zw.2=(0:Int) then (zr,zv,()) else zc,zw.1)=zd.1/\(au zw.2,())=zf))))))))))))))) (by kernel_rfl) ?_
 dsimp -iota -proj -eta only
 dsimp only at hp
 refine ⟨trivial,iB (fun h0=>(by rw [xr (c6 h0)];exact ⟨rfl,trivial,rfl,rfl⟩)) (fun h0 x_0 q_0=>⟨fun h1=>⟨rfl,trivial,fun h2=>iE (fun h3=>⟨?a,(by exfalso;have:=qV q_0 h1;subst this;exact lC _ h3),(by have:=qV q_0 h1;subst this;exact lC _ h3)⟩) (fun h3 h4=>⟨fun h5=>absurd (show false=true from h5) (by decide),fun h5=>⟨?b,?c,rfl,?d,fun h6 => ?e⟩⟩)⟩,fun h1=>⟨?f,rfl,trivial,fun h2=>iE (fun h3=>⟨?g,⟨by omega,(kG o e.1).1⟩,(by have:=(kG o e.1).1;omega),rfl,?h,fun h4=>(by rw [CM (x:=((r,o,()),d)) (aS.1 h0) (by omega)];exact ⟨rfl,trivial,rfl,rfl⟩)⟩) (fun h3 h4=>iQ (fun h5=>(by rw [Av (x:=((r,o,()),d)) (aS.1 h0) (show ¬ 0<=bQ o e.1 by omega) h5];exact ⟨rfl,trivial,rfl,rfl⟩)) (fun h5=>⟨?i,(by have h99:o.length<=99:=hp.2.1;exact ⟨rfl,by rw [List.length_singleton];omega⟩),rfl,?j,fun h6=>(by rw [v7 (x:=((r,o,()),d)) (aS.1 h0) (show ¬ 0<=bQ o e.1 by omega) h5];exact ⟨rfl,trivial,rfl,rfl⟩)⟩))⟩⟩)⟩
 case a|b|f|g|i=>omega
 case c|d|j=>simp_all
 case e=>
  have ho:=qV q_0 h1
  subst ho
  rw [v7 (x:=((r,[],()),d)) (aS.1 h0) (lC _) (show ¬ ((([]:List (D af)).length:Int)=3) from by decide)]
  exact ⟨rfl,trivial,rfl,rfl⟩
 case h=>refine ⟨?_,hp.2.2.1,hp.2.2.2.1,hp.2.2.2.2⟩;rw [List.length_set];exact Nat.le_trans hp.2.1 (by decide)
theorem Tryz.GO:bw Tryz.prog Tryz.B.eT Tryz.X 12 false (aB Tryz.aL [.obj 0, .d af] (fun a x=>(a.1.2.1.length<=1000000/\a.1.2.2.1.length<=1000000)/\x.1.2.1.length<=99/\0<=(x.1.1:Int)/\(x.1.1:Int)<=1000000000/\bf x.2 1000000) Tryz.rL):=
 aV (X:=Tryz.X) Tryz.Ir Tryz.func12 (by kernel_rfl) (fun (a:CD [.obj 0, .d af]) (x:PD Tryz.aL)=>[]) (fun (a:CD [.obj 0, .d af]) (x:PD Tryz.aL) hw hp=>KH a.1 x.1.1 x.1.2.1 x.2 hw hp)
noncomputable def Tryz.GP:List (FuncId × (Bool × aY)):=[(53,(false,aB Tryz.aL [.obj 0, .d .str] (fun _ _=>True) Tryz.mI)),
 (54,(true,aM [af] [af] (fun e=>e.2.1.length<=1000000/\e.2.2.1.length<=1000000) (fun e=>e)))]
theorem Tryz.Is:bn Tryz.prog Tryz.B Tryz.X Tryz.GP:=
 aG (Tryz.wg) (aG (ar Tryz.xG) (bA Tryz.bz))
def Tryz.rN:List (Alt Tryz.aL [.obj 0, .d .str]):=[{aR:=Tryz.aL,res:=[.d af, .d .bool],out:=fun _ x=>x,ret:=fun a x=>((bG x.1.2.1 a.1).1,(bG x.1.2.1 a.1).2,())}]
theorem KI (s:List UInt8) (r:Int) (o:List (D af)) (d:Dk) (hw:eN [.obj 0, .d .str] (s,())) (hp:(fun _ x=>∀i,i < x.1.2.1.length->(nth af x.1.2.1 i).2.1.length<=1000000/\(nth af x.1.2.1 i).2.2.1.length<=1000000) (s,()) ((r,o,()),d)):(cH Tryz.B Tryz.GP Tryz.f16 [] Tryz.aL [.obj 0, .d .str] Tryz.rN (s,()) ((r,o,()),d)).holds:=by
 refine holds_of (p:=
  let za:=d.2.2.2.1=d.2.2.2.1
  let zb:=bQ o s
  let zc:=((r,o,()),d)
  let zd:=((bG o s).1,(bG o s).2,())
  let ze:=nth af o (Int.toNat zb)
  (za)/\(True)/\((True)->(((decide (zb < (0:Int)))=true->(za/\True/\zc=zc/\(([],[],[],()),false,())=zd))/\((decide (zb < (0:Int)))=false->((0:Int)<=zb/\zb < (↑(List.length o):Int))/\(List.length ze.2.1<=(1000000:Nat)/\List.length ze.2.2.1<=(1000000:Nat))/\(za/\True/\zc=zc/\(ze,true,())=zd))))) (by kernel_rfl) ?_
 dsimp -iota -proj -eta only
 dsimp only at hp
 exact ⟨rfl,trivial,fun h0=>iL (fun h1=>(by rw [Gh (by omega)];exact ⟨rfl,trivial,rfl,rfl⟩)) (fun h1=>⟨⟨by omega,(kG o s).1⟩,(hp _ (by have:=(kG o s).1;omega)),(by rw [CN (by omega)];exact ⟨rfl,trivial,rfl,rfl⟩)⟩)⟩
theorem Tryz.GQ:bw Tryz.prog Tryz.B.eT Tryz.X 16 false (aB Tryz.aL [.obj 0, .d .str] (fun _ x=>∀i,i < x.1.2.1.length->(nth af x.1.2.1 i).2.1.length<=1000000/\(nth af x.1.2.1 i).2.2.1.length<=1000000) Tryz.rN):=
 aV (X:=Tryz.X) Tryz.Is Tryz.func16 (by kernel_rfl) (fun (a:CD [.obj 0, .d .str]) (x:PD Tryz.aL)=>[]) (fun (a:CD [.obj 0, .d .str]) (x:PD Tryz.aL) hw hp=>KI a.1 x.1.1 x.1.2.1 x.2 hw hp)
def Tryz.A6 (o:List (D af)):cC:=[
 (0,fun st=>{X:=Nat,inv:=fun i=>i<=o.length,bV:=fun i=>o.length - i,ba:=fun i=>[(11,sI i),(3, .s (.one (.app .str (bm (o.take i)) (cp st 3))))],ag:=fun i=>[(cp st 3, .tok .str (bm (o.take i)))],keep:=[2,9,10],gS:=[cp st 3]})]
def Tryz.nr:List (Alt Tryz.aL [.obj 0]):=[{aR:=Tryz.aL,res:=[.d (.slice .str)],out:=fun _ x=>x,ret:=fun _ x=>(bm x.1.2.1,())}]
theorem It (r:Int) (o:List (D af)) (d:Dk) (hw:eN [.obj 0] ()) (hp:(fun _ x=>x.1.2.1.length<=1000000) () ((r,o,()),d)):(cH (iw Tryz.B [19]) [] Tryz.f20 ((fun (r:Int) (o:List (D af)) (d:Dk)=>Tryz.A6 o) r o d) Tryz.aL [.obj 0] Tryz.nr () ((r,o,()),d)).holds:=by
 refine holds_of (p:=
  let za:=List.length o
  let zb:=fun (x_0:Nat)=>bm (List.take x_0 o)
  let zc:=fun (x_0:Nat)=>zb x_0++[(nth af o x_0).1]
  let zd:=C.ref (1:Nat) (0:Nat)
  let ze:=d.2.2.2.1=d.2.2.2.1
  let zf:=((r,o,()),d)
  ((za<=av)->(∃(x:Nat),x<=za/\((0:Int)=(↑x:Int)/\@List.nil (List UInt8)=bm (List.take x o)/\True)/\@List.nil (List UInt8)=bm (List.take x o)/\True)/\(∀x_0:Nat,((x_0<=za)->(((decide ((↑x_0:Int) < (↑za:Int)))=true->((0:Int)<=(↑x_0:Int)/\(↑x_0:Int) < (↑za:Int))/\(zb x_0=zb x_0/\List.length (zb x_0) + List.length [(nth af o x_0).1]<=(1000000000:Nat))/\((aC (↑x_0:Int))->((aC (1:Int))->(aC ((↑x_0:Int) + (1:Int)))/\(∃(x':Nat),x'<=za/\za - x' < za - x_0/\((↑x_0:Int) + (1:Int)=(↑x':Int)/\zc x_0=bm (List.take x' o)/\True)/\zc x_0=bm (List.take x' o)/\@List.nil (List UInt8) = @List.nil (List UInt8)/\(zd=zd/\r=r/\o=o/\True)/\(C.ax (2:Nat)=C.ax (2:Nat)/\C.ax (3:Nat)=C.ax (3:Nat)/\ze/\d.1.1=d.1.1/\d.1.2.1=d.1.2.1/\True)/\d.2.1=d.2.1/\d.2.2.1=d.2.2.1/\ze/\True))))/\((decide ((↑x_0:Int) < (↑za:Int)))=false->(ze/\True/\zf=zf/\(zb x_0,())=(bm o,())))))))) (by kernel_rfl) ?_
 dsimp -iota -proj -eta only
 dsimp only at hp
 refine fun h0=>⟨(⟨0,Nat.zero_le _,⟨rfl,rfl,trivial⟩,rfl,trivial⟩),fun x_0 q_0=>iL (fun h1=>⟨(by omega),?a,fun h2 h3=>⟨(by simp only [aC,av] at *;omega),(⟨x_0 + 1,by omega,by omega,⟨by omega,kZ (by omega),trivial⟩,kZ (by omega),(by trivial)⟩)⟩⟩) (fun h1=>(by rw [List.take_of_length_le (by omega)];exact ⟨rfl,trivial,rfl,rfl⟩))⟩
 case a=>refine ⟨rfl,?_⟩;rw [u6,List.length_take,List.length_singleton];have:o.length<=1000000:=hp;omega
theorem Tryz.A7:bw Tryz.prog Tryz.B.eT Tryz.X 20 false (aB Tryz.aL [.obj 0] (fun _ x=>x.1.2.1.length<=1000000) Tryz.nr):=
 aV (B:=(iw Tryz.B [19])) (X:=Tryz.X) (bn.hint (l:=[19]) (bA Tryz.bz)) Tryz.func20 (by kernel_rfl) (fun (a:CD [.obj 0]) (x:PD Tryz.aL)=>(fun (r:Int) (o:List (D af)) (d:Dk)=>Tryz.A6 o) x.1.1 x.1.2.1 x.2) (fun (a:CD [.obj 0]) (x:PD Tryz.aL) hw hp=>It x.1.1 x.1.2.1 x.2 hw hp)
end Go.Proofs.YtgokjhhcfemnhaaGreatDoor

namespace Go.Proofs.YtgokjhhcfemnhaaGreatDoor
open Go.Vg Go.Mrl
noncomputable def Tryz.vo:List (FuncId × (Bool × aY)):=[(118,(true,aM [.int .i64] [.str] (fun _=>True) (fun n=>Lib.itoa n))),
 (117,(true,aM [.str] [.int .i64, .err] (fun s=>s.length<=281474976710656) (fun s=>eg s))),
 (124,(true,aM [.str, .str] [.str, .bool] (fun _=>True) (fun x=>(Lib.trimPrefix x.1 x.2,Lib.hasPrefix x.1 x.2)))),
 (82,(true,aM [.str, .str] [.str] (fun _=>True) (fun x=>Lib.trimSuffix x.1 x.2))),
 (81,(true,aM [.str, .str] [.slice .str] (fun x=>x.1.length < 4294967281/\x.2.length=1) (fun x=>parts (wZ x.2) x.1)))]
theorem Tryz.A8:bn Tryz.prog Tryz.B Tryz.X Tryz.vo:=
 aG (ar Tryz.tI) (aG (ar Tryz.AS) (aG (ar Tryz.qZ) (aG (ar Tryz.pR) (aG (ar Tryz.AT) (bA Tryz.bz)))))
def vp (l:List (List UInt8)):cC:=[
 (0,fun st=>{X:=Nat,inv:=fun i=>i<=l.length/\∀j,j < i->(cA (nth .str l j)).isNone=false,bV:=fun i=>l.length - i,ba:=fun i=>[(11,sI i),(4, .s (.one (.app (.int .i64) (ga (l.take i)) (cp st 4))))],ag:=fun i=>[(cp st 4, .tok (.int .i64) (ga (l.take i)))],keep:=[9,10],gS:=[cp st 4]})]
theorem B6 (l:List (List UInt8)) (hw:er [.slice .str] l) (hp:(fun l=>l.length<=1000000/\∀i,(nth .str l i).length<=1000000) l):(cG Tryz.B Tryz.vo Tryz.f83 (vp l) [.slice .str] [.slice (.int .i64), .bool] (fun x y=>y=(fun l=>aO l) x) l).holds:=by
 refine holds_of (p:=
  let za:=List.length l
  let zb:=([],false)=aO l
  let zc:=fun (x_0:Nat)=>ga (List.take x_0 l)
  let zd:=fun (x_0:Nat)=>zc x_0++[(eg (nth Ty.str l x_0)).1]
  ((za<=av)->(∃(x:Nat),(x<=za/\∀(j:Nat),j < x->Option.isNone (cA (nth Ty.str l j))=false)/\((0:Int)=(↑x:Int)/\@List.nil Int=ga (List.take x l)/\True)/\@List.nil Int=ga (List.take x l)/\True)/\(∀x_0:Nat,((x_0<=za/\∀(j:Nat),j < x_0->Option.isNone (cA (nth Ty.str l j))=false)->(((decide ((↑x_0:Int) < (↑za:Int)))=true->((0:Int)<=(↑x_0:Int)/\(↑x_0:Int) < (↑za:Int))/\(List.length (nth Ty.str l x_0)<=(281474976710656:Nat))/\(((!aF.isNil (eg (nth Ty.str l x_0)).2)=true->(zb))/\((!aF.isNil (eg (nth Ty.str l x_0)).2)=false->(True)/\(((!Lib.itoa (eg (nth Ty.str l x_0)).1 == nth Ty.str l x_0)=true->(zb))/\((!Lib.itoa (eg (nth Ty.str l x_0)).1 == nth Ty.str l x_0)=false->(zc x_0=zc x_0/\List.length (zc x_0) + List.length [(eg (nth Ty.str l x_0)).1]<=(1000000000:Nat))/\((aC (↑x_0:Int))->((aC (1:Int))->(aC ((↑x_0:Int) + (1:Int)))/\(∃(x':Nat),(x'<=za/\∀(j:Nat),j < x'->Option.isNone (cA (nth Ty.str l j))=false)/\za - x' < za - x_0/\((↑x_0:Int) + (1:Int)=(↑x':Int)/\zd x_0=ga (List.take x' l)/\True)/\zd x_0=ga (List.take x' l)/\@List.nil Int = @List.nil Int/\True))))))))/\((decide ((↑x_0:Int) < (↑za:Int)))=false->((zc x_0,true)=aO l))))))) (by kernel_rfl) ?_
 dsimp -iota -proj -eta only
 refine fun h0=>⟨(⟨0,⟨Nat.zero_le _,fun j hj=>absurd hj (Nat.not_lt_zero _)⟩,⟨rfl,rfl,trivial⟩,rfl,trivial⟩),fun x_0 q_0=>iL (fun h1=>⟨(by omega),(Nat.le_trans (hp.2 _) (by decide)),iB (fun h2=>(sw (i:=x_0) (by omega) (by rw [qM,h2];rfl))) (fun h2=>⟨trivial,⟨fun h3 => ?a,fun h3=>⟨?b,fun h4 h5=>⟨?c,?d⟩⟩⟩⟩)⟩) (fun h1=>(Ed (i:=x_0) (by omega) (fun j hj _=>q_0.2 j hj)))⟩
 case a=>
  simp only [bl,reduceCtorEq] at h3
  exact sw (i:=x_0) (by omega) (by rw [qM,decide_eq_false h3];simp)
 case b=>
  simp only [bl,reduceCtorEq] at h3
  exact ⟨rfl,by unfold ga;simp only [List.length_map,List.length_take,List.length_singleton];omega⟩
 case c=>
  simp only [bl,reduceCtorEq] at h3
  simp only [aC,av] at *;omega
 case d=>
  simp only [bl,reduceCtorEq] at h3
  exact ⟨x_0 + 1,⟨by omega,iz q_0.2 (by rw [qM,h2,decide_eq_true h3];rfl)⟩,by omega,⟨by omega,(uU (by omega)).symm,trivial⟩,(uU (by omega)).symm,(by trivial)⟩
theorem Tryz.B7:bj Tryz.prog Tryz.B.eT Tryz.X 83 [.slice .str] [.slice (.int .i64), .bool] (fun l=>l.length<=1000000/\∀i,(nth .str l i).length<=1000000) (fun x y=>y=(fun l=>aO l) x):=
 bN (X:=Tryz.X) Tryz.A8 Tryz.func83 (by kernel_rfl) (fun x=>vp x) (fun x hw hp=>B6 x hw hp)
noncomputable def Tryz.xH:List (FuncId × (Bool × aY)):=[(118,(true,aM [.int .i64] [.str] (fun _=>True) (fun n=>Lib.itoa n))),
 (117,(true,aM [.str] [.int .i64, .err] (fun s=>s.length<=281474976710656) (fun s=>eg s))),
 (124,(true,aM [.str, .str] [.str, .bool] (fun _=>True) (fun x=>(Lib.trimPrefix x.1 x.2,Lib.hasPrefix x.1 x.2)))),
 (82,(true,aM [.str, .str] [.str] (fun _=>True) (fun x=>Lib.trimSuffix x.1 x.2))),
 (81,(true,aM [.str, .str] [.slice .str] (fun x=>x.1.length < 4294967281/\x.2.length=1) (fun x=>parts (wZ x.2) x.1))),
 (83,(true,aM [.slice .str] [.slice (.int .i64), .bool] (fun l=>l.length<=1000000/\∀i,(nth .str l i).length<=1000000) (fun l=>aO l))),
 (84,(true,aM [af] [.str, .err] (fun _=>True) (fun e=>bq e)))]
theorem Tryz.B8:bn Tryz.prog Tryz.B Tryz.X Tryz.xH:=
 aG (ar Tryz.tI) (aG (ar Tryz.AS) (aG (ar Tryz.qZ) (aG (ar Tryz.pR) (aG (ar Tryz.AT) (aG (ar Tryz.B7) (aG (ar Tryz.AW) (bA Tryz.bz)))))))
def Tryz.xI (s:List UInt8):cC:=[
 (300004,fun st=>{X:=List Int × Bool,inv:=fun y=>lM (parts 32 (Lib.trimSuffix s [10])) y,bV:=fun _=>0,ba:=fun y=>[(5,sD (.slice (.int .i64)) y.1),(6,sB y.2)],keep:=[0,2,3,4]}),
 (300005,fun st=>{X:=Bool,inv:=fun c=>c=false ↔ kD (parts 32 (Lib.trimSuffix s [10])),bV:=fun _=>0,ba:=fun c=>[(69,sB c)],keep:=[0,2,3,4,5]}),
 (300011,fun st=>{X:=List (List UInt8),inv:=fun x=>ft (parts 32 (Lib.trimSuffix s [10])) x (Int.toNat (jS (.int .i64) st 8)),bV:=fun _=>0,ba:=fun x=>[(9,sD (.slice .str) x)],keep:=[0,2,3,4,5,7,8,82,83,84,85]}),
 (0,fun st=>{X:=Nat,inv:=fun i=>i<=(Int.toNat (nth (.int .i64) (jS (.slice (.int .i64)) st 5) 0)) + (Int.toNat (nth (.int .i64) (jS (.slice (.int .i64)) st 5) 1)),bV:=fun i=>(Int.toNat (nth (.int .i64) (jS (.slice (.int .i64)) st 5) 0)) + (Int.toNat (nth (.int .i64) (jS (.slice (.int .i64)) st 5) 1)) - i,ba:=fun i=>[(83,sI i)],ag:=fun i=>[(cp st 7, .cells 43 [.d .str (nth .str (parts 32 (Lib.trimSuffix s [10])) 0), .app ai (bO bo (parts 32 (Lib.trimSuffix s [10])) (Nat.min i (Int.toNat (nth (.int .i64) (jS (.slice (.int .i64)) st 5) 0)))) (kS st (cp st 7) 1), .app aq (bg bo (parts 32 (Lib.trimSuffix s [10])) (Int.toNat (nth (.int .i64) (jS (.slice (.int .i64)) st 5) 0)) (i - (Int.toNat (nth (.int .i64) (jS (.slice (.int .i64)) st 5) 0)))) (kS st (cp st 7) 2)]),(kS st (cp st 7) 1, .tok ai (bO bo (parts 32 (Lib.trimSuffix s [10])) (Nat.min i (Int.toNat (nth (.int .i64) (jS (.slice (.int .i64)) st 5) 0))))),(kS st (cp st 7) 2, .tok aq (bg bo (parts 32 (Lib.trimSuffix s [10])) (Int.toNat (nth (.int .i64) (jS (.slice (.int .i64)) st 5) 0)) (i - (Int.toNat (nth (.int .i64) (jS (.slice (.int .i64)) st 5) 0)))))],keep:=[0,2,4,5,7,82],gS:=[cp st 7,kS st (cp st 7) 1,kS st (cp st 7) 2]})]
theorem GR (s:List UInt8) (hw:er [.str] s) (hp:(fun s=>s.length<=100000) s):(cG Tryz.B Tryz.xH Tryz.f47 (Tryz.xI s) [.str] [af, .err] (fun x y=>y=(fun s=>cU s) x) s).holds:=by
 refine holds_of (p:=
  let za:=Lib.trimSuffix s [(10:UInt8)]
  let zb:=parts (32:UInt8) za
  let zc:=List.length zb<=av
  let zd:=(↑(List.length zb):Int)
  let ze:=(([],[],[],()),aF.no (4:Int))=cU s
  let zf:=(0:Int)<=(1:Int)
  let zg:=List.drop (1:Nat) (List.take (3:Nat) zb)
  let zh:=@List.nil (List UInt8 × Int × Int × Unit) = @List.nil (List UInt8 × Int × Int × Unit)
  let zi:=@List.nil (Int × Int × Int × Unit) = @List.nil (Int × Int × Int × Unit)
  let zj:=(@List.nil UInt8 = @List.nil UInt8/\zh/\zi/\True)/\zi/\zh/\True
  let zk:=kD zb
  let zl:=∃(x':Bool),(x'=false ↔ zk)/\(true=x'/\True)/\zj
  let zm:=(0:Int)<=(0:Int)
  let zn:=fun (x_0:List Int × Bool)=>zm/\(0:Int) < (↑(List.length x_0.1):Int)
  let zo:=Ty.int IntKind.i64
  let zp:=fun (x_0:List Int × Bool)=>nth zo x_0.1 (0:Nat)
  let zq:=fun (x_0:List Int × Bool)=>zf/\(1:Int) < (↑(List.length x_0.1):Int)
  let zr:=fun (x_0:List Int × Bool)=>nth zo x_0.1 (1:Nat)
  let zs:=fun (x_0:List Int × Bool)=>aC (zp x_0 + zr x_0)
  let zt:=aC (3:Int)
  let zu:=fun (x_1:Int)=>(3:Int) + x_1
  let zv:=fun (x_0:List Int × Bool)=>Int.toNat (zp x_0)
  let zw:=fun (x_0:List Int × Bool)=>zv x_0 + Int.toNat (zr x_0)
  let zx:=nth Ty.str zb (0:Nat)
  let zy:=zx=zx
  let zz:=fun (x_2:Nat)=>aC (↑x_2:Int)
  let zaa:=fun (x_2:Nat) (x_0:List Int × Bool)=>bO bo zb (Nat.min x_2 (zv x_0))
  let zab:=fun (x_0:List Int × Bool) (x_2:Nat)=>bg bo zb (zv x_0) (x_2 - zv x_0)
  let zac:=zi/\zh/\zj
  let zad:=fun (x_3:List (List UInt8))=>(↑(List.length x_3):Int)
  let zae:=fun (x_3:List (List UInt8))=>List.drop (1:Nat) (List.take (List.length x_3) x_3)
  let zaf:=fun (x_3:List (List UInt8))=>(aO (zae x_3)).1
  let zag:=fun (x_3:List (List UInt8))=>[(nth Ty.str x_3 (0:Nat),nth zo (zaf x_3) (0:Nat),nth zo (zaf x_3) (1:Nat),())]
  let zah:=fun (x_2:Nat)=>(↑x_2:Int) + (1:Int)
  let zai:=fun (x_3:List (List UInt8))=>(aO x_3).1
  let zaj:=fun (x_3:List (List UInt8))=>(↑(List.length (zai x_3)):Int)
  let zak:=fun (x_3:List (List UInt8))=>[(nth zo (zai x_3) (0:Nat),nth zo (zai x_3) (1:Nat),nth zo (zai x_3) (2:Nat),())]
  (True)/\(List.length za < (4294967281:Nat)/\List.length [(32:UInt8)]=(1:Nat))/\((zc)->(((decide (zd < (3:Int)))=true->(ze))/\((decide (zd < (3:Int)))=false->(((zf/\(1:Int)<=(3:Int)/\(3:Int)<=zd)/\(List.length zg<=(1000000:Nat)/\∀(i:Nat),List.length (nth Ty.str zg i)<=(1000000:Nat))/\(∃(x':List Int × Bool),lM zb x'/\((aO zg).1=x'.1/\(aO zg).2=x'.2/\True)/\zj))/\((∀x_0:List Int × Bool,((lM zb x_0)->(((((!x_0.2)=true->(zl))/\((!x_0.2)=false->(zn x_0)/\(((decide (zp x_0 < (0:Int)))=true->(zl))/\((decide (zp x_0 < (0:Int)))=false->(zn x_0)/\(((decide (zp x_0 > (6:Int)))=true->(zl))/\((decide (zp x_0 > (6:Int)))=false->(zq x_0)/\(((decide (zr x_0 < (0:Int)))=true->(zl))/\((decide (zr x_0 < (0:Int)))=false->(zq x_0)/\(((decide (zr x_0 > (36:Int)))=true->(zl))/\((decide (zr x_0 > (36:Int)))=false->((zc)->(zn x_0)/\(zq x_0)/\((aC (zp x_0))->((aC (zr x_0))->(zs x_0)/\(∀x_1:Int,((x_1=(3:Int) * (zp x_0 + zr x_0))->((zt)->((zs x_0)->(aC x_1)/\((zt)->((aC x_1)->(aC (zu x_1))/\(∃(x':Bool),(x'=false ↔ zk)/\((zd != zu x_1)=x'/\True)/\zj)))))))))))))))))))))/\((∀x_1:Bool,((x_1=false ↔ zk)->(((x_1)=true->(ze))/\((x_1)=false->(zm/\(0:Int) < zd)/\(zn x_0)/\(zq x_0)/\((aC (zp x_0))->((aC (zr x_0))->(zs x_0)/\(∃(x:Nat),x<=zw x_0/\((0:Int)=(↑x:Int)/\True)/\(zy/\@List.nil (List UInt8 × Int × Int × Unit)=bO bo zb (Nat.min x (zv x_0))/\@List.nil (Int × Int × Int × Unit)=bg bo zb (zv x_0) (x - zv x_0)/\True)/\@List.nil (List UInt8 × Int × Int × Unit)=bO bo zb (Nat.min x (zv x_0))/\@List.nil (Int × Int × Int × Unit)=bg bo zb (zv x_0) (x - zv x_0)/\True)/\(∀x_2:Nat,((x_2<=zw x_0)->(((decide ((↑x_2:Int) < zp x_0 + zr x_0))=true->(((∀x_3:Int,((x_3=(3:Int) * (↑x_2:Int))->((zt)->((zz x_2)->(aC x_3)/\((zt)->((aC x_3)->(aC (zu x_3))/\(∀x_4:Int,((x_4=(3:Int) * (↑x_2:Int))->((zt)->((zz x_2)->(aC x_4)/\((aC (6:Int))->((aC x_4)->(aC ((6:Int) + x_4))/\((0:Int)<=zu x_3/\zu x_3<=(6:Int) + x_4/\(6:Int) + x_4<=zd)/\(∃(x':List (List UInt8)),ft zb x' x_2/\(List.drop (Int.toNat (zu x_3)) (List.take (Int.toNat ((6:Int) + x_4)) zb)=x'/\True)/\(zy/\zaa x_2 x_0=zaa x_2 x_0/\zab x_0 x_2=zab x_0 x_2/\True)/\zaa x_2 x_0=zaa x_2 x_0/\zab x_0 x_2=zab x_0 x_2/\zac))))))))))))))/\((∀x_3:List (List UInt8),((ft zb x_3 x_2)->(zn x_0)/\(((decide ((↑x_2:Int) < zp x_0))=true->(zf/\(1:Int)<=zad x_3/\zad x_3<=zad x_3)/\(List.length (zae x_3)<=(1000000:Nat)/\∀(i:Nat),List.length (nth Ty.str (zae x_3) i)<=(1000000:Nat))/\(((!(aO (zae x_3)).2)=true->(ze))/\((!(aO (zae x_3)).2)=false->(zm/\(0:Int) < zad x_3)/\(zm/\(0:Int) < (↑(List.length (zaf x_3)):Int))/\(zf/\(1:Int) < (↑(List.length (zaf x_3)):Int))/\(zaa x_2 x_0=zaa x_2 x_0/\List.length (zaa x_2 x_0) + List.length (zag x_3)<=(1000000000:Nat))/\((zz x_2)->((aC (1:Int))->(aC (zah x_2))/\(∃(x':Nat),x'<=zw x_0/\zw x_0 - x' < zw x_0 - x_2/\(zah x_2=(↑x':Int)/\True)/\(zy/\zaa x_2 x_0++zag x_3=bO bo zb (Nat.min x' (zv x_0))/\zab x_0 x_2=bg bo zb (zv x_0) (x' - zv x_0)/\True)/\zaa x_2 x_0++zag x_3=bO bo zb (Nat.min x' (zv x_0))/\zab x_0 x_2=bg bo zb (zv x_0) (x' - zv x_0)/\zac))))))/\((decide ((↑x_2:Int) < zp x_0))=false->(List.length x_3<=(1000000:Nat)/\∀(i:Nat),List.length (nth Ty.str x_3 i)<=(1000000:Nat))/\(((!(aO x_3).2)=true->(ze))/\((!(aO x_3).2)=false->(zm/\(0:Int) < zaj x_3)/\(zf/\(1:Int) < zaj x_3)/\((0:Int)<=(2:Int)/\(2:Int) < zaj x_3)/\(zab x_0 x_2=zab x_0 x_2/\List.length (zab x_0 x_2) + List.length (zak x_3)<=(1000000000:Nat))/\((zz x_2)->((aC (1:Int))->(aC (zah x_2))/\(∃(x':Nat),x'<=zw x_0/\zw x_0 - x' < zw x_0 - x_2/\(zah x_2=(↑x':Int)/\True)/\(zy/\zaa x_2 x_0=bO bo zb (Nat.min x' (zv x_0))/\zab x_0 x_2++zak x_3=bg bo zb (zv x_0) (x' - zv x_0)/\True)/\zaa x_2 x_0=bO bo zb (Nat.min x' (zv x_0))/\zab x_0 x_2++zak x_3=bg bo zb (zv x_0) (x' - zv x_0)/\zac))))))))))))/\((decide ((↑x_2:Int) < zp x_0 + zr x_0))=false->(True)/\(((!aF.isNil (bq (zx,zaa x_2 x_0,zab x_0 x_2,())).2)=true->(ze))/\((!aF.isNil (bq (zx,zaa x_2 x_0,zab x_0 x_2,())).2)=false->(((!(bq (zx,zaa x_2 x_0,zab x_0 x_2,())).1 == s)=true->(ze))/\((!(bq (zx,zaa x_2 x_0,zab x_0 x_2,())).1 == s)=false->(((zx,zaa x_2 x_0,zab x_0 x_2,()),aF.nil)=cU s))))))))))))))))))))))))) (by kernel_rfl) ?_
 dsimp -iota -proj -eta only
 refine ⟨trivial,(by have:=vS s [10];exact ⟨by omega,rfl⟩),fun h0=>iL (fun h1=>(Ad (by omega))) (fun h1=>⟨⟨(by trivial),(Jj hp 1 3),(⟨_,Jl (by omega),⟨rfl,rfl,trivial⟩,(by trivial)⟩)⟩,fun x_0 q_0=>⟨iB (fun h2=>(⟨_,Ac (q_0.2 h2),⟨rfl,trivial⟩,(by trivial)⟩)) (fun h2=>⟨?a,iL (fun h3=>(⟨_,Ac (fun hd=>by have k0:=q_0.k0 hd;have:=hd.a0;omega),⟨rfl,trivial⟩,(by trivial)⟩)) (fun h3=>⟨?b,iL (fun h4=>(⟨_,Ac (fun hd=>by have k0:=q_0.k0 hd;have:=hd.a6;omega),⟨rfl,trivial⟩,(by trivial)⟩)) (fun h4=>⟨?c,iL (fun h5=>(⟨_,Ac (fun hd=>by have k1:=q_0.k1 hd;have:=hd.b0;omega),⟨rfl,trivial⟩,(by trivial)⟩)) (fun h5=>⟨?d,iL (fun h6=>(⟨_,Ac (fun hd=>by have k1:=q_0.k1 hd;have:=hd.cn;omega),⟨rfl,trivial⟩,(by trivial)⟩)) (fun h6 h7=>⟨?e,?f,fun h8 h9=>⟨?g,fun x_1 q_1 h10 h11=>⟨?h,fun h12 h13=>⟨?i,(⟨_,Kv (q_0.1 h2).2.1 (q_0.1 h2).2.2 (q_0.l0 h2) (q_0.l1 h2) (by omega) (by omega) (by omega) (by omega) q_1,⟨rfl,trivial⟩,(by trivial)⟩)⟩⟩⟩⟩)⟩)⟩)⟩)⟩),fun x_1 q_1=>⟨fun h2=>(BP (fun hd=>by rw [q_1.2 hd] at h2;cases h2)),fun h2=>⟨(by omega),?j,?k,fun h3 h4=>⟨?l,(⟨0,Nat.zero_le _,⟨rfl,trivial⟩,⟨rfl,FX _ _ _,IK _ _ _,trivial⟩,FX _ _ _,IK _ _ _,(by trivial)⟩),fun x_2 q_2=>iL (fun h5=>⟨fun x_3 q_3 h6 h7=>⟨?m,fun h8 h9=>⟨?n,fun x_4 q_4 h10 h11=>⟨?o,fun h12 h13=>⟨?p,(by have hd:=(q_1.1 h2);have k0:=q_0.k0 hd;have k1:=q_0.k1 hd;have a0:=hd.a0;have a6:=hd.a6;have b0:=hd.b0;have cn:=hd.cn;have hl:=hd.len;omega),(⟨_,FU q_3 q_4 (by have hd:=(q_1.1 h2);have k0:=q_0.k0 hd;have k1:=q_0.k1 hd;have a0:=hd.a0;have a6:=hd.a6;have b0:=hd.b0;have cn:=hd.cn;have hl:=hd.len;omega),⟨rfl,trivial⟩,(by trivial)⟩)⟩⟩⟩⟩,fun x_3 q_3=>⟨?q,iL (fun h6=>⟨?r,(Ee q_3 (nJ hp)),iB (fun h7=>(BQ q_3 (by have hd:=(q_1.1 h2);have k0:=q_0.k0 hd;have k1:=q_0.k1 hd;have a0:=hd.a0;have a6:=hd.a6;have b0:=hd.b0;have cn:=hd.cn;have hl:=hd.len;omega) h7)) (fun h7=>⟨?s,?t,?u,⟨rfl,BR (by have hd:=(q_1.1 h2);have k0:=q_0.k0 hd;have k1:=q_0.k1 hd;have a0:=hd.a0;have a6:=hd.a6;have b0:=hd.b0;have cn:=hd.cn;have hl:=hd.len;omega)⟩,fun h8 h9=>⟨?v,(by exact ⟨x_2 + 1,by have hd:=(q_1.1 h2);have k0:=q_0.k0 hd;have k1:=q_0.k1 hd;have a0:=hd.a0;have a6:=hd.a6;have b0:=hd.b0;have cn:=hd.cn;have hl:=hd.len;omega,by have hd:=(q_1.1 h2);have k0:=q_0.k0 hd;have k1:=q_0.k1 hd;have a0:=hd.a0;have a6:=hd.a6;have b0:=hd.b0;have cn:=hd.cn;have hl:=hd.len;omega,⟨by omega,trivial⟩,⟨rfl,xh q_3 h7 (by have hd:=(q_1.1 h2);have k0:=q_0.k0 hd;have k1:=q_0.k1 hd;have a0:=hd.a0;have a6:=hd.a6;have b0:=hd.b0;have cn:=hd.cn;have hl:=hd.len;omega),xi (by have hd:=(q_1.1 h2);have k0:=q_0.k0 hd;have k1:=q_0.k1 hd;have a0:=hd.a0;have a6:=hd.a6;have b0:=hd.b0;have cn:=hd.cn;have hl:=hd.len;omega),trivial⟩,xh q_3 h7 (by have hd:=(q_1.1 h2);have k0:=q_0.k0 hd;have k1:=q_0.k1 hd;have a0:=hd.a0;have a6:=hd.a6;have b0:=hd.b0;have cn:=hd.cn;have hl:=hd.len;omega),xi (by have hd:=(q_1.1 h2);have k0:=q_0.k0 hd;have k1:=q_0.k1 hd;have a0:=hd.a0;have a6:=hd.a6;have b0:=hd.b0;have cn:=hd.cn;have hl:=hd.len;omega),(by trivial)⟩)⟩⟩)⟩) (fun h6=>⟨(FV q_3 (nJ hp)),iB (fun h7=>(Ag q_3 (by have hd:=(q_1.1 h2);have k0:=q_0.k0 hd;have k1:=q_0.k1 hd;have a0:=hd.a0;have a6:=hd.a6;have b0:=hd.b0;have cn:=hd.cn;have hl:=hd.len;omega) (by have hd:=(q_1.1 h2);have k0:=q_0.k0 hd;have k1:=q_0.k1 hd;have a0:=hd.a0;have a6:=hd.a6;have b0:=hd.b0;have cn:=hd.cn;have hl:=hd.len;omega) h7)) (fun h7=>⟨?w,?x,?y,⟨rfl,FZ (by have hd:=(q_1.1 h2);have k0:=q_0.k0 hd;have k1:=q_0.k1 hd;have a0:=hd.a0;have a6:=hd.a6;have b0:=hd.b0;have cn:=hd.cn;have hl:=hd.len;omega)⟩,fun h8 h9=>⟨?z,(by exact ⟨x_2 + 1,by have hd:=(q_1.1 h2);have k0:=q_0.k0 hd;have k1:=q_0.k1 hd;have a0:=hd.a0;have a6:=hd.a6;have b0:=hd.b0;have cn:=hd.cn;have hl:=hd.len;omega,by have hd:=(q_1.1 h2);have k0:=q_0.k0 hd;have k1:=q_0.k1 hd;have a0:=hd.a0;have a6:=hd.a6;have b0:=hd.b0;have cn:=hd.cn;have hl:=hd.len;omega,⟨by omega,trivial⟩,⟨rfl,uX (by have hd:=(q_1.1 h2);have k0:=q_0.k0 hd;have k1:=q_0.k1 hd;have a0:=hd.a0;have a6:=hd.a6;have b0:=hd.b0;have cn:=hd.cn;have hl:=hd.len;omega),Ai q_3 h7 (by have hd:=(q_1.1 h2);have k0:=q_0.k0 hd;have k1:=q_0.k1 hd;have a0:=hd.a0;have a6:=hd.a6;have b0:=hd.b0;have cn:=hd.cn;have hl:=hd.len;omega),trivial⟩,uX (by have hd:=(q_1.1 h2);have k0:=q_0.k0 hd;have k1:=q_0.k1 hd;have a0:=hd.a0;have a6:=hd.a6;have b0:=hd.b0;have cn:=hd.cn;have hl:=hd.len;omega),Ai q_3 h7 (by have hd:=(q_1.1 h2);have k0:=q_0.k0 hd;have k1:=q_0.k1 hd;have a0:=hd.a0;have a6:=hd.a6;have b0:=hd.b0;have cn:=hd.cn;have hl:=hd.len;omega),(by trivial)⟩)⟩⟩)⟩)⟩⟩) (fun h5=>⟨trivial,iB (fun h6 => ?a0) (fun h6=>⟨fun h7 => ?a1,fun h7 => ?a2⟩)⟩)⟩⟩⟩⟩⟩)⟩
 case a|b|c|d|e|f=>rw [(q_0.1 h2).1];simp
 case g|h|i|v=>simp only [aC,av] at *;omega
 case j|k|q=>rw [q_0.get (q_1.1 h2)];simp
 case l|m|n|o|p|z=>have hd:=(q_1.1 h2);have k0:=q_0.k0 hd;have k1:=q_0.k1 hd;have a0:=hd.a0;have a6:=hd.a6;have b0:=hd.b0;have cn:=hd.cn;have hl:=hd.len;simp only [aC] at *;omega
 case r|s=>rw [q_3.len];simp
 case t|u=>rw [xg q_3 h7];simp
 case w|x|y=>rw [Af q_3 h7];simp
 case a0=>
  rw [Aj (a:=Int.toNat (nth (.int .i64) x_0.1 0)) (b:=Int.toNat (nth (.int .i64) x_0.1 1)) (by have hd:=(q_1.1 h2);have k0:=q_0.k0 hd;have k1:=q_0.k1 hd;have a0:=hd.a0;have a6:=hd.a6;have b0:=hd.b0;have cn:=hd.cn;have hl:=hd.len;omega)] at h6
  exact sA (by have hd:=(q_1.1 h2);have k0:=q_0.k0 hd;have k1:=q_0.k1 hd;have a0:=hd.a0;have a6:=hd.a6;have b0:=hd.b0;have cn:=hd.cn;have hl:=hd.len;omega) (by have hd:=(q_1.1 h2);have k0:=q_0.k0 hd;have k1:=q_0.k1 hd;have a0:=hd.a0;have a6:=hd.a6;have b0:=hd.b0;have cn:=hd.cn;have hl:=hd.len;omega) (.inl h6)
 case a1=>
  simp only [bl,reduceCtorEq] at h7
  rw [Aj (a:=Int.toNat (nth (.int .i64) x_0.1 0)) (b:=Int.toNat (nth (.int .i64) x_0.1 1)) (by have hd:=(q_1.1 h2);have k0:=q_0.k0 hd;have k1:=q_0.k1 hd;have a0:=hd.a0;have a6:=hd.a6;have b0:=hd.b0;have cn:=hd.cn;have hl:=hd.len;omega)] at h7
  exact sA (by have hd:=(q_1.1 h2);have k0:=q_0.k0 hd;have k1:=q_0.k1 hd;have a0:=hd.a0;have a6:=hd.a6;have b0:=hd.b0;have cn:=hd.cn;have hl:=hd.len;omega) (by have hd:=(q_1.1 h2);have k0:=q_0.k0 hd;have k1:=q_0.k1 hd;have a0:=hd.a0;have a6:=hd.a6;have b0:=hd.b0;have cn:=hd.cn;have hl:=hd.len;omega) (.inr h7)
 case a2=>
  simp only [bl,reduceCtorEq] at h7
  exact FQ h6 h7
theorem Tryz.GS:bj Tryz.prog Tryz.B.eT Tryz.X 47 [.str] [af, .err] (fun s=>s.length<=100000) (fun x y=>y=(fun s=>cU s) x):=
 bN (X:=Tryz.X) Tryz.B8 Tryz.func47 (by kernel_rfl) (fun x=>Tryz.xI x) (fun x hw hp=>GR x hw hp)
end Go.Proofs.YtgokjhhcfemnhaaGreatDoor

namespace Go.Proofs.YtgokjhhcfemnhaaGreatDoor
open Go.Vg Go.Mrl
theorem Tryz.JJ:bj Tryz.prog Tryz.B.eT Tryz.X 80 [.str, .str, .int .i64, .int .i64] [.slice .str] (fun x=>x.1.length < 4294967281/\x.2.1.length=1/\x.2.2.1=(1:Int)/\x.2.2.2=(-1:Int)) (fun x y=>y=bD (wZ x.2.1) x.1):=by
 refine ⟨⟨Tryz.f80,Tryz.func80,by kernel_rfl,by kernel_rfl⟩,fun O w x vs hG hO ha hp => ?_⟩
 obtain ⟨s,p,sv,n⟩:=x
 obtain ⟨hs,hp,hsv,hn⟩:=hp
 obtain ⟨c,rfl⟩:∃c,p = [c]:=List.length_eq_one_iff.1 hp
 obtain ⟨v,vs',rfl,hv,u,vs2,rfl,hu,t,vs3,rfl,ht,z,hz⟩:=ha
 obtain ⟨rfl,hz⟩:=hz
 obtain ⟨rfl,hl⟩:=iH hv
 obtain ⟨rfl,_⟩:=iH hu
 have et:t = .int .i64 1:=by obtain ⟨e,_⟩:=ht.one rfl;simp at e;rw [e,show sv=(1:Int) from hsv]
 have ez:z = .int .i64 (-1):=by obtain ⟨e,_⟩:=hz.one rfl;simp at e;rw [e,show n=(-1:Int) from hn]
 subst et
 subst ez
 obtain ⟨m,hm⟩:=hG.max
 have hsz:(⟨s.toArray⟩:ByteArray).size=s.length:=by simp [ByteArray.size]
 have h1:1<=(⟨#[c]⟩:ByteArray).size:=Nat.le_refl 1
 have hlen:=Lib.splitB_all ⟨#[c]⟩ h1 1 _ ⟨s.toArray⟩ rfl
 have hdat:=Lib.splitB_data ⟨#[c]⟩ 1 (Lib.countB ⟨s.toArray⟩ ⟨#[c]⟩) ⟨s.toArray⟩
 have hcb:=Lib.countB_le ⟨#[c]⟩ h1 _ ⟨s.toArray⟩ (Nat.le_refl _)
 have hcall:Calls Tryz.prog 80 #[.string ⟨s.toArray⟩, .string ⟨#[c]⟩, .int .i64 1, .int .i64 (-1)] w fun e w'=>
   e = .returned (.slice (some ⟨w.heap.size,0,none⟩) (Lib.splitB ⟨#[c]⟩ 1 (Lib.countB ⟨s.toArray⟩ ⟨#[c]⟩ + 1 - 1) ⟨s.toArray⟩).length (Lib.countB ⟨s.toArray⟩ ⟨#[c]⟩ + 1))/\w'=w.alloc (.cells (Lib.cellsOf (Lib.splitB ⟨#[c]⟩ 1 (Lib.countB ⟨s.toArray⟩ ⟨#[c]⟩ + 1 - 1) ⟨s.toArray⟩) (Lib.countB ⟨s.toArray⟩ ⟨#[c]⟩ + 1)) 9):=Any.strings_genSplit {Tryz.CV with} (by kernel_rfl) ⟨s.toArray⟩ ⟨#[c]⟩ 1 (-1) (Lib.countB ⟨s.toArray⟩ ⟨#[c]⟩ + 1) m w (by rw [hsz];exact hs) hm h1 (Nat.le_refl 1) (by decide) (by decide) (by rw [if_pos (by decide)];omega)
 rw [Nat.add_sub_cancel,hlen] at hcall
 have e2:Lib.cellsOf (Lib.splitB ⟨#[c]⟩ 1 (Lib.countB ⟨s.toArray⟩ ⟨#[c]⟩) ⟨s.toArray⟩) (Lib.countB ⟨s.toArray⟩ ⟨#[c]⟩ + 1)=((Lib.splitB ⟨#[c]⟩ 1 (Lib.countB ⟨s.toArray⟩ ⟨#[c]⟩) ⟨s.toArray⟩).map Value.string).toArray:=by rw [<-hlen];exact Lib.cellsOf_full _
 rw [e2] at hcall
 refine hcall.mono ?_
 rintro e w' ⟨rfl,rfl⟩
 have hd:(Lib.splitB ⟨#[c]⟩ 1 (Lib.countB ⟨s.toArray⟩ ⟨#[c]⟩) ⟨s.toArray⟩).map (·.data.toList)=bD c s:=hdat
 have hlf:(bD c s).length=Lib.countB ⟨s.toArray⟩ ⟨#[c]⟩ + 1:=by rw [<-hd,List.length_map,hlen]
 refine ⟨[_],bD c s,rfl,rfl,⟨_,rfl,VR.aW rfl ⟨_,rfl,?_, .inr ⟨w.heap.size,0,Lib.countB ⟨s.toArray⟩ ⟨#[c]⟩ + 1,by rw [hlf],by rw [hlf];exact Nat.le_refl _,fun i y hy => ?_⟩⟩⟩,(Vg.Below.refl _ w).alloc (Nat.le_refl _) _⟩
 ·rw [hlf];have hs:s.length < 4294967281:=hs;rw [hsz] at hcb;unfold av;omega
 ·have hyl:=xw c s y (List.mem_of_getElem? hy)
  refine ⟨[.string ⟨y.toArray⟩],⟨rfl,Nat.le_trans hyl hl⟩,fun j u hj=>⟨?_,fun hh => ?_⟩⟩
  ·have hj0:j=0:=by
    rcases j with _ | j
    ·rfl
    ·simp at hj
   subst hj0
   simp at hj
   subst hj
   rw [<-hd,List.getElem?_map,Option.map_eq_some_iff] at hy
   obtain ⟨q,hq,rfl⟩:=hy
   have hh:(w.alloc (.cells ((Lib.splitB ⟨#[c]⟩ 1 (Lib.countB ⟨s.toArray⟩ ⟨#[c]⟩) ⟨s.toArray⟩).map Value.string).toArray 9)).heap[w.heap.size]?=some (.cells ((Lib.splitB ⟨#[c]⟩ 1 (Lib.countB ⟨s.toArray⟩ ⟨#[c]⟩) ⟨s.toArray⟩).map Value.string).toArray 9 (0,0)):=heap_alloc_new w _
   rw [Lib.cell_of_heap hh]
   simp only [Ty.size,Nat.mul_one,Nat.zero_add,Nat.add_zero,List.getElem?_toArray,List.getElem?_map,hq,Option.map_some]
  ·have:=hO _ _ hh
   simp at this
noncomputable def Tryz.pS:List (FuncId × (Bool × aY)):=[(80,(true,aM [.str, .str, .int .i64, .int .i64] [.slice .str] (fun x=>x.1.length < 4294967281/\x.2.1.length=1/\x.2.2.1=(1:Int)/\x.2.2.2=(-1:Int)) (fun x=>bD (wZ x.2.1) x.1)))]
theorem Tryz.vq:bn Tryz.prog Tryz.B Tryz.X Tryz.pS:=
 aG (ar Tryz.JJ) (bA Tryz.bz)
theorem wh (s:List UInt8) (p:List UInt8) (hw:er [.str, .str] (s,p)) (hp:(fun x=>x.1.length < 4294967281/\x.2.length=1) (s,p)):(cG Tryz.B Tryz.pS Tryz.f46 [] [.str, .str] [.slice .str] (fun x y=>y=(fun x=>bD (wZ x.2) x.1) x) (s,p)).holds:=by
 refine holds_of (p:=
  let za:=List.length p
  let zb:=bD (List.rec (0:UInt8) (fun (head:UInt8) (tail:List UInt8) (tail_ih:UInt8)=>head) p) s
  ((za<=av)->(List.length s < (4294967281:Nat)/\za=(1:Nat)/\(↑za:Int)=(1:Int)/\(-1:Int)=(-1:Int))/\(zb=zb))) (by kernel_rfl) ?_
 dsimp -iota -proj -eta only
 dsimp only at hp
 exact fun h0=>⟨(by omega),rfl⟩
theorem Tryz.wi:bj Tryz.prog Tryz.B.eT Tryz.X 46 [.str, .str] [.slice .str] (fun x=>x.1.length < 4294967281/\x.2.length=1) (fun x y=>y=(fun x=>bD (wZ x.2) x.1) x):=
 bN (X:=Tryz.X) Tryz.vq Tryz.func46 (by kernel_rfl) (fun _=>[]) (fun x hw hp=>wh x.1 x.2 hw hp)
noncomputable def Tryz.xJ:List (FuncId × (Bool × aY)):=[(43,(false,aB Tryz.az [.obj 0] (fun _ _=>True) Tryz.fm)),
 (48,(false,aB Tryz.az [.obj 0, .d (.int .i64), .d .str] (fun _ x => -1<=x.1.1/\x.2.2.2.1.length<=900000000) Tryz.ic)),
 (49,(false,aB Tryz.az [.obj 0] (fun _ x => -1<=x.1.1/\x.2.1.length=x.2.2.1.length) Tryz.ie)),
 (50,(true,aM [.int .i64, .int .i64] [.str] (fun _=>True) (fun x=>cf x.1 x.2)))]
theorem Tryz.B9:bn Tryz.prog Tryz.B Tryz.X Tryz.xJ:=
 aG (Tryz.iY) (aG (Tryz.lD) (aG (Tryz.lE) (aG (ar Tryz.A0) (bA Tryz.bz))))
noncomputable def Tryz.lY:List (Alt Tryz.az [.obj 0]):=[{aR:=Tryz.az,res:=[.d .err],out:=fun _ x=>(dq x).1,ret:=fun _ x=>(au (dq x).2,())}]
theorem GU (d:Dk) (hw:eN [.obj 0] ()) (hp:(fun _ x=>bf x 1000000) () d):(cH Tryz.B Tryz.xJ Tryz.f11 [] Tryz.az [.obj 0] Tryz.lY () d).holds:=by
 refine holds_of (p:=
  let za:=d.2.2.2.1
  let zb:=za=za
  let zc:=(dq d).1
  let zd:=(au (dq d).2,())
  let ze:=(-1:Int)
  let zf:=aJ d (1:Int) (@List.nil UInt8)
  let zg:=aF.isNil (au zf.2)
  let zh:=zf.1.2.2.2.1
  let zi:=zh=zh
  let zj:=ze<=zf.1.1.1
  let zk:=zj/\List.length zf.1.2.1=List.length zf.1.2.2.1
  let zl:=au (aN zf.1).2
  let zm:=(aN zf.1).1
  let zn:=zm.2.2.2.1
  let zo:=zn=zn
  let zp:=ze<=zm.1.1
  let zq:=cf (2:Int) (0:Int)
  let zr:=aJ zm (0:Int) zq
  let zs:=zr.1.2.2.2.1
  let zt:=(aN zr.1).1
  let zu:=(aN zm).1.2.2.2.1
  let zv:=zo/\True/\zm=zc/\(zl,())=zd
  let zw:=aJ zf.1 (0:Int) zq
  let zx:=zw.1.2.2.2.1
  let zy:=(aN zw.1).1
  (zb)/\(True)/\((True)->(((decide ((↑(List.length d.2.2.1):Int) < (112:Int)))=true->(zb/\True/\d=zc/\(aF.no (8:Int),())=zd))/\((decide ((↑(List.length d.2.2.1):Int) < (112:Int)))=false->(zb)/\(ze<=d.1.1/\List.length za<=(900000000:Nat))/\((True)->(((zg)=true->(zi)/\(zk)/\((True)->(((aF.isNil zl)=true->(True)/\(zo)/\(zp/\List.length zn<=(900000000:Nat))/\((True)->(((aF.isNil (au zr.2))=true->(zs=zs)/\(ze<=zr.1.1.1/\List.length zr.1.2.1=List.length zr.1.2.2.1)/\((True)->(zt.2.2.2.1=zt.2.2.2.1/\True/\zt=zc/\(au (aN zr.1).2,())=zd)))/\((aF.isNil (au zr.2))=false->(zs=zs/\True/\zr.1=zc/\(au zr.2,())=zd)))))/\((aF.isNil zl)=false->(((aF.isNil zl)=true->(zo)/\(zp/\List.length zm.2.1=List.length zm.2.2.1)/\((True)->(zu=zu/\True/\(aN zm).1=zc/\(au (aN zm).2,())=zd)))/\((aF.isNil zl)=false->(zv)))))))/\((zg)=false->(((zg)=true->(True)/\(zi)/\(zj/\List.length zh<=(900000000:Nat))/\((True)->(((aF.isNil (au zw.2))=true->(zx=zx)/\(ze<=zw.1.1.1/\List.length zw.1.2.1=List.length zw.1.2.2.1)/\((True)->(zy.2.2.2.1=zy.2.2.2.1/\True/\zy=zc/\(au (aN zw.1).2,())=zd)))/\((aF.isNil (au zw.2))=false->(zx=zx/\True/\zw.1=zc/\(au zw.2,())=zd)))))/\((zg)=false->(((zg)=true->(zi)/\(zk)/\((True)->(zv)))/\((zg)=false->(zi/\True/\zf.1=zc/\(au zf.2,())=zd)))))))))))) (by kernel_rfl) ?_
 dsimp -iota -proj -eta only
 refine ⟨rfl,trivial,fun h0=>iL (fun h1=>(by rw [gi,CO h1];exact ⟨rfl,trivial,rfl,rfl⟩)) (fun h1=>⟨rfl,⟨hp.gg,Nat.le_trans hp.iX (by decide)⟩,fun h2=>⟨fun h3=>⟨rfl,(by have f:=gh hp 1 [];exact ⟨f.gg,f.len⟩),fun h4=>⟨fun h5=>⟨trivial,rfl,(by have f:=lU (gh hp 1 []);exact ⟨f.gg,Nat.le_trans f.iX (by decide)⟩),fun h6=>⟨fun h7=>⟨rfl,(by have f:=gh (lU (gh hp 1 [])) 0 (cf 2 0);exact ⟨f.gg,f.len⟩),fun h8=>(by rw [gi,KW (by omega) (aS.1 h3) (aS.1 h5) (aS.1 h7)];exact ⟨rfl,trivial,rfl,rfl⟩)⟩,fun h7=>(by rw [gi,KV (by omega) (aS.1 h3) (aS.1 h5) (c6 h7)];exact ⟨rfl,trivial,rfl,rfl⟩)⟩⟩,fun h5=>⟨fun h6=>⟨rfl,?a,fun h7 => ?b⟩,fun h6=>(by rw [gi,KU (by omega) (aS.1 h3) (c6 h5)];exact ⟨rfl,trivial,rfl,rfl⟩)⟩⟩⟩,fun h3=>⟨fun h4=>⟨trivial,rfl,?c,fun h5=>⟨fun h6=>⟨rfl,?d,fun h7 => ?e⟩,fun h6 => ?f⟩⟩,fun h4=>⟨fun h5=>⟨rfl,?g,fun h6 => ?h⟩,fun h5=>(by rw [gi,KT (by omega) (c6 h3)];exact ⟨rfl,trivial,rfl,rfl⟩)⟩⟩⟩⟩)⟩
 case a|b|c|d|e|f|g|h=>simp_all
theorem Tryz.xK:bw Tryz.prog Tryz.B.eT Tryz.X 11 false (aB Tryz.az [.obj 0] (fun _ x=>bf x 1000000) Tryz.lY):=
 aV (X:=Tryz.X) Tryz.B9 Tryz.func11 (by kernel_rfl) (fun (a:CD [.obj 0]) (x:PD Tryz.az)=>[]) (fun (a:CD [.obj 0]) (x:PD Tryz.az) hw hp=>GU x hw hp)
noncomputable def Tryz.C1:List (FuncId × (Bool × aY)):=[(42,(false,aB Tryz.az [.obj 0] (fun _ _=>True) Tryz.kK)),
 (43,(false,aB Tryz.az [.obj 0] (fun _ _=>True) Tryz.fm)),
 (44,(false,fb Tryz.B [] Tryz.f44 [])),
 (45,(true,kA [.str] [.int .i64] (fun s=>4<=s.length) (fun s y=>(y:Int)=dB s))),
 (46,(true,aM [.str, .str] [.slice .str] (fun x=>x.1.length < 4294967281/\x.2.length=1) (fun x=>bD (wZ x.2) x.1))),
 (47,(true,aM [.str] [af, .err] (fun s=>s.length<=100000) (fun s=>cU s)))]
theorem Tryz.GV:bn Tryz.prog Tryz.B Tryz.X Tryz.C1:=
 aG (Tryz.pF) (aG (Tryz.iY) (aG (eP (bA Tryz.bz) Tryz.func44 (by kernel_rfl) []) (aG (fB Tryz.GJ) (aG (ar Tryz.wi) (aG (ar Tryz.GS) (bA Tryz.bz))))))
noncomputable def Tryz.C2 (d:Dk):cC:=[
 (0,fun st=>{X:=Nat,inv:=fun i=>i<=2,bV:=fun i=>2 - i,ba:=fun i=>[(29,sI i),(5,sI (bU d i).2)],ag:=fun i=>[(cp st 4, .cells 105 [.ref 0 0, .d (.int .i64) (bU d i).1, .app af [] (kS st (cp st 4) 2)])],keep:=[0,4],gS:=[cp st 4]}),
 (2,fun st=>{X:=Nat,inv:=fun i=>i<=55,bV:=fun i=>55 - i,ba:=fun i=>[(74,sI i),(11,sS (dK d (fe d) i))],keep:=[0,4,5]}),
 (4,fun st=>{X:=Nat,inv:=fun i=>i<=List.length (bC d)/\∀j,j < i->nth .str (bC d) j = []\/(cU (nth .str (bC d) j)).2.isNil=true,bV:=fun i=>List.length (bC d) - i,ba:=fun i=>[(103,sI i)],ag:=fun i=>[(cp st 4, .cells 105 [.ref 0 0, .d (.int .i64) (bU d 2).1, .app af (eJ ((bC d).take i)) (kS st (cp st 4) 2)]),(kS st (cp st 4) 2, .tok af (eJ ((bC d).take i)))],keep:=[4,101,102],gS:=[cp st 4,kS st (cp st 4) 2]})]
noncomputable def Tryz.mJ:List (Alt Tryz.az [.obj 0]):=[
 {aR:=Tryz.az,res:=[.c8, .d .err],ok:=fun _ x=>(bu x).2≠0,out:=fun _ x=>x,ret:=fun _ x=>(au (bu x).2,())},
 {aR:=Tryz.az++[.box 105 [.obj 0, .d (.int .i64), .d (.slice af)]],res:=[.obj 4, .d .err],ok:=fun _ x=>(bu x).2=0,out:=fun _ x=>(x.1,x.2.1,x.2.2.1,x.2.2.2.1,((bu x).1.1,(bu x).1.2,()),()),ret:=fun _ _=>(aF.nil,())}]
theorem JK (d:Dk) (hw:eN [.obj 0] ()) (hp:(fun _ x=>bf x 1000000/\∀i,i < x.2.2.1.length->(nth .str x.2.2.1 i).length=64) () d):(cH Tryz.B Tryz.C1 Tryz.f10 (Tryz.C2 d) Tryz.az [.obj 0] Tryz.mJ () d).holds:=by
 refine holds_of (p:=
  let za:=d.2.2.2.1
  let zb:=za=za
  let zc:=d.1.2.1
  let zd:=(bu d).2
  let ze:=zd≠(0:Int)
  let zf:=d=d
  let zg:=(au zd,())
  let zh:=zb/\ze/\zf/\(aF.no (9:Int),())=zg
  let zi:=d.2.2.1
  let zj:=List.length zi
  let zk:=(↑zj:Int)
  let zl:=zb/\ze/\zf/\(aF.no (4:Int),())=zg
  let zm:=C.ref (0:Nat) (0:Nat)
  let zn:=zm=zm
  let zo:=@List.nil (List UInt8 × List (List UInt8 × Int × Int × Unit) × List (Int × Int × Int × Unit) × Unit) = @List.nil (List UInt8 × List (List UInt8 × Int × Int × Unit) × List (Int × Int × Int × Unit) × Unit)
  let zp:=zo/\True
  let zq:=fun (x_0:Nat)=>(↑x_0:Int)
  let zr:=!aF.isNil (aF.no (9:Int))
  let zs:=(0:Int)<=(1:Int)
  let zt:=(1:Int)<=(5:Int)
  let zu:=List.length (@List.nil UInt8)
  let zv:=(↑zu:Int)
  let zw:=(0:Int)<=(5:Int)
  let zx:=(5:Int)<=(9:Int)
  let zy:=List.drop (1:Nat) (List.take (5:Nat) (@List.nil UInt8))
  let zz:=List.drop (5:Nat) (List.take (9:Nat) (@List.nil UInt8))
  let zaa:=(0:Int)<=(0:Int)
  let zab:=fun (x_0:Nat)=>(bU d x_0).1
  let zac:=fun (x_0:Nat)=>aC (zq x_0)
  let zad:=aC (1:Int)
  let zae:=fun (x_0:Nat)=>zq x_0 + (1:Int)
  let zaf:=fun (x_0:Nat)=>aC (zae x_0)
  let zag:=d.2.1
  let zah:=(C.ax (1:Nat)=C.ax (1:Nat)/\C.ax (2:Nat)=C.ax (2:Nat)/\zb/\d.1.1=d.1.1/\zc=zc/\True)/\zag=zag/\zi=zi/\zb/\True
  let zai:=zo/\zah
  let zaj:=fun (x_0:Nat)=>((zac x_0)->((zad)->(zaf x_0)/\(∃(x':Nat),x'<=(2:Nat)/\(2:Nat) - x' < (2:Nat) - x_0/\(zae x_0=(↑x':Int)/\(bU d x_0).2=(bU d x').2/\True)/\(zn/\zab x_0=(bU d x').1/\zp)/\zai)))
  let zak:=fun (x_1:Int) (x_0:Nat) (x_2:Int)=>(((decide (x_1 > zab x_0))=true->(((decide (x_2<=(3520:Int)))=true->((zac x_0)->((zad)->(zaf x_0)/\(∃(x':Nat),x'<=(2:Nat)/\(2:Nat) - x' < (2:Nat) - x_0/\(zae x_0=(↑x':Int)/\x_2=(bU d x').2/\True)/\(zn/\x_1=(bU d x').1/\zp)/\zai))))/\((decide (x_2<=(3520:Int)))=false->(zaj x_0))))/\((decide (x_1 > zab x_0))=false->(zaj x_0)))
  let zal:=fun (x_0:Nat)=>(zs/\zt/\(5:Int)<=zv)/\(zw/\zx/\(9:Int)<=zv)/\((4:Nat)<=List.length zy)/\(∀x_1:Int,((x_1=dB zy)->((4:Nat)<=List.length zz)/\(∀x_2:Int,((x_2=dB zz)->(zaa/\(0:Int) < zv)/\((((↑(UInt8.toNat (br (@List.nil UInt8) (0:Nat))):Int) == (83:Int))=true->(zak x_1 x_0 x_2))/\(((↑(UInt8.toNat (br (@List.nil UInt8) (0:Nat))):Int) == (83:Int))=false->(zaj x_0)))))))
  let zam:=!aF.isNil (aF.no (1:Int))
  let zan:=zb/\ze/\zf/\(aF.no (1:Int),())=zg
  let zao:=fun (x_0:Nat)=>(((zam)=true->(zan))/\((zam)=false->(zal x_0)))
  let zap:=!aF.isNil aF.nil
  let zaq:=zb/\ze/\zf/\(aF.nil,())=zg
  let zar:=fun (x_0:Nat)=>nth Ty.str zi x_0
  let zas:=fun (x_0:Nat)=>(↑(List.length (zar x_0)):Int)
  let zat:=fun (x_0:Nat)=>List.drop (1:Nat) (List.take (5:Nat) (zar x_0))
  let zau:=fun (x_0:Nat)=>List.drop (5:Nat) (List.take (9:Nat) (zar x_0))
  let zav:=fe d
  let zaw:=fun (x_3:Int) (x_1:Nat)=>(2:Int) + x_3 + zq x_1
  let zax:=fun (x_1:Nat)=>dK d zav x_1
  let zay:=fun (x_0:Nat)=>(zn/\zab x_0=zab x_0/\zp)/\zai
  let zaz:=fun (x_1:Nat) (x_0:Nat)=>(List.length (zax x_1) + zu<=av)/\((zac x_1)->((zad)->(zaf x_1)/\(∃(x':Nat),x'<=(55:Nat)/\(55:Nat) - x' < (55:Nat) - x_1/\(zae x_1=(↑x':Int)/\zax x_1 ++ @List.nil UInt8=dK d zav x'/\True)/\zay x_0)))
  let zba:=fun (x_1:Nat) (x_0:Nat)=>(((zam)=true->(zan))/\((zam)=false->(zaz x_1 x_0)))
  let zbb:=fun (x_0 x_1:Nat)=>List.drop (0:Nat) (List.take (Int.toNat (bU d x_0).2) (zax x_1))
  let zbc:=bC d
  let zbd:=List.length zbc
  let zbe:=(bU d (2:Nat)).1
  let zbf:=fun (x_0 x_1 x_2:Nat)=>nth Ty.str (bD (10:UInt8) (zbb x_0 x_1)) x_2
  let zbg:=fun (x_2:Nat)=>eJ (List.take x_2 zbc)
  (zb)/\(True)/\((True)->(((zc)=true->(zh))/\((zc)=false->(zb)/\(True)/\((True)->(((decide (zk < (112:Int)))=true->(zl))/\((decide (zk < (112:Int)))=false->(∃(x:Nat),x<=(2:Nat)/\((0:Int)=(↑x:Int)/\(0:Int)=(bU d x).2/\True)/\(zn/\(0:Int)=(bU d x).1/\zp)/\True)/\(∀x_0:Nat,((x_0<=(2:Nat))->(((decide (zq x_0 < (2:Int)))=true->(((zc)=true->(((zr)=true->(zh))/\((zr)=false->(zal x_0))))/\((zc)=false->(((decide (zq x_0 < (0:Int)))=true->(zao x_0))/\((decide (zq x_0 < (0:Int)))=false->((zj<=av)->(((decide (zq x_0>=zk))=true->(zao x_0))/\((decide (zq x_0>=zk))=false->((0:Int)<=zq x_0/\zq x_0 < zk)/\(x_0 < zj)/\(((zap)=true->(zaq))/\((zap)=false->(zs/\zt/\(5:Int)<=zas x_0)/\(zw/\zx/\(9:Int)<=zas x_0)/\((4:Nat)<=List.length (zat x_0))/\(∀x_1:Int,((x_1=dB (zat x_0))->((4:Nat)<=List.length (zau x_0))/\(∀x_2:Int,((x_2=dB (zau x_0))->(zaa/\(0:Int) < zas x_0)/\((((↑(UInt8.toNat (br (zar x_0) (0:Nat))):Int) == (83:Int))=true->(zak x_1 x_0 x_2))/\(((↑(UInt8.toNat (br (zar x_0) (0:Nat))):Int) == (83:Int))=false->(zaj x_0)))))))))))))))))/\((decide (zq x_0 < (2:Int)))=false->(((zab x_0 == (0:Int))=true->(zl))/\((zab x_0 == (0:Int))=false->(∃(x:Nat),x<=(55:Nat)/\((0:Int)=(↑x:Int)/\@List.nil UInt8=dK d zav x/\True)/\True)/\(∀x_1:Nat,((x_1<=(55:Nat))->(((decide (zq x_1 < (55:Int)))=true->((2:Int)≠(0:Int))/\(∀x_2:Int,((x_2=Int.tmod (zab x_0) (2:Int))->(∀x_3:Int,((x_3=x_2 * (55:Int))->((aC x_2)->((aC (55:Int))->(aC x_3)/\((aC (2:Int))->((aC x_3)->(aC ((2:Int) + x_3))/\((aC ((2:Int) + x_3))->((zac x_1)->(aC (zaw x_3 x_1))/\(((zc)=true->(((zr)=true->(zh))/\((zr)=false->(zaz x_1 x_0))))/\((zc)=false->(((decide (zaw x_3 x_1 < (0:Int)))=true->(zba x_1 x_0))/\((decide (zaw x_3 x_1 < (0:Int)))=false->((zj<=av)->(((decide (zaw x_3 x_1>=zk))=true->(zba x_1 x_0))/\((decide (zaw x_3 x_1>=zk))=false->((0:Int)<=zaw x_3 x_1/\zaw x_3 x_1 < zk)/\(Int.toNat (zaw x_3 x_1) < zj)/\(((zap)=true->(zaq))/\((zap)=false->(List.length (zax x_1) + List.length (nth Ty.str zi (Int.toNat (zaw x_3 x_1)))<=av)/\((zac x_1)->((zad)->(zaf x_1)/\(∃(x':Nat),x'<=(55:Nat)/\(55:Nat) - x' < (55:Nat) - x_1/\(zae x_1=(↑x':Int)/\zax x_1++nth Ty.str zi (Int.toNat (zaw x_3 x_1))=dK d zav x'/\True)/\zay x_0)))))))))))))))))))))))/\((decide (zq x_1 < (55:Int)))=false->(zaa/\(0:Int)<=(bU d x_0).2/\(bU d x_0).2<=(↑(List.length (zax x_1)):Int))/\(List.length (zbb x_0 x_1) < (4294967281:Nat)/\List.length [(10:UInt8)]=(1:Nat))/\((List.length (bD (10:UInt8) (zbb x_0 x_1))<=av)->(∃(x:Nat),(x<=zbd/\∀(j:Nat),j < x->nth Ty.str zbc j = @List.nil UInt8\/aF.isNil (au (jt (nth Ty.str zbc j)).2)=true)/\((0:Int)=(↑x:Int)/\True)/\(zn/\zab x_0=zbe/\@List.nil (List UInt8 × List (List UInt8 × Int × Int × Unit) × List (Int × Int × Int × Unit) × Unit)=eJ (List.take x zbc)/\True)/\@List.nil (List UInt8 × List (List UInt8 × Int × Int × Unit) × List (Int × Int × Int × Unit) × Unit)=eJ (List.take x zbc)/\True)/\(∀x_2:Nat,((x_2<=zbd/\∀(j:Nat),j < x_2->nth Ty.str zbc j = @List.nil UInt8\/aF.isNil (au (jt (nth Ty.str zbc j)).2)=true)->(((decide (zq x_2 < (↑(List.length (bD (10:UInt8) (zbb x_0 x_1))):Int)))=true->((0:Int)<=zq x_2/\zq x_2 < (↑(List.length (bD (10:UInt8) (zbb x_0 x_1))):Int))/\(((zbf x_0 x_1 x_2 == @List.nil UInt8)=true->((zac x_2)->((zad)->(zaf x_2)/\(∃(x':Nat),(x'<=zbd/\∀(j:Nat),j < x'->nth Ty.str zbc j = @List.nil UInt8\/aF.isNil (au (jt (nth Ty.str zbc j)).2)=true)/\zbd - x' < zbd - x_2/\(zae x_2=(↑x':Int)/\True)/\(zn/\zbe=zbe/\zbg x_2=eJ (List.take x' zbc)/\True)/\zbg x_2=eJ (List.take x' zbc)/\zah))))/\((zbf x_0 x_1 x_2 == @List.nil UInt8)=false->(List.length (zbf x_0 x_1 x_2)<=(100000:Nat))/\(((!aF.isNil (au (jt (zbf x_0 x_1 x_2)).2))=true->(zl))/\((!aF.isNil (au (jt (zbf x_0 x_1 x_2)).2))=false->(zbg x_2=zbg x_2/\List.length (zbg x_2) + List.length [(jt (zbf x_0 x_1 x_2)).1]<=(1000000000:Nat))/\((zac x_2)->((zad)->(zaf x_2)/\(∃(x':Nat),(x'<=zbd/\∀(j:Nat),j < x'->nth Ty.str zbc j = @List.nil UInt8\/aF.isNil (au (jt (nth Ty.str zbc j)).2)=true)/\zbd - x' < zbd - x_2/\(zae x_2=(↑x':Int)/\True)/\(zn/\zbe=zbe/\zbg x_2++[(jt (zbf x_0 x_1 x_2)).1]=eJ (List.take x' zbc)/\True)/\zbg x_2++[(jt (zbf x_0 x_1 x_2)).1]=eJ (List.take x' zbc)/\zah))))))))/\((decide (zq x_2 < (↑(List.length (bD (10:UInt8) (zbb x_0 x_1))):Int)))=false->(zb/\zd=(0:Int)/\(d.1,zag,zi,za,(zbe,zbg x_2,()),())=(d.1,zag,zi,za,((bu d).1.1,(bu d).1.2,()),())/\(aF.nil,())=(aF.nil,())))))))))))))))))))))))) (by kernel_rfl) ?_
 dsimp -iota -proj -eta only
 refine ⟨rfl,trivial,fun h0=>⟨fun h1=>(by rw [Gj h1];exact ⟨rfl,by decide,rfl,rfl⟩),fun h1=>⟨rfl,trivial,fun h2=>iL (fun h3=>(by rw [Ay h1 h3];exact ⟨rfl,by decide,rfl,rfl⟩)) (fun h3=>⟨(⟨0,Nat.zero_le _,⟨rfl,by rw [rH],trivial⟩,⟨rfl,by rw [rH],rfl,trivial⟩,(by trivial)⟩),fun x_0 q_0=>iL (fun h4=>⟨fun h5=>⟨fun h6=>(Bool.noConfusion (h1.symm.trans h5)),fun h6=>absurd (show true=false from h6) (by decide)⟩,fun h5=>⟨fun h6=>absurd (show false=true from h6) (by decide),fun h6 h7=>iE (fun h8=>⟨fun h9=>(by exfalso;omega),fun h9=>absurd (show true=false from h9) (by decide)⟩) (fun h8=>⟨?a,?b,⟨fun h9=>absurd (show false=true from h9) (by decide),fun h9=>⟨?c,?d,?e,fun x_1 q_1=>⟨?f,fun x_2 q_2=>⟨?g,iQ (fun h10=>iL (fun h11=>iE (fun h12 h13 h14=>⟨?h,?i⟩) (fun h12 h13 h14=>⟨?j,?k⟩)) (fun h11 h12 h13=>⟨?l,?m⟩)) (fun h10 h11 h12=>⟨?n,?o⟩)⟩⟩⟩⟩⟩)⟩⟩) (fun h4=>iQ (fun h5 => ?p) (fun h5=>⟨(⟨0,Nat.zero_le _,⟨rfl,by rw [IT],trivial⟩,(by trivial)⟩),fun x_1 q_1=>iL (fun h6=>⟨(by trivial),fun x_2 q_2 x_3 q_3 h7 h8=>⟨?q,fun h9 h10=>⟨?r,fun h11 h12=>⟨?s,⟨fun h13=>⟨fun h14=>(Bool.noConfusion (h1.symm.trans h13)),fun h14=>absurd (show true=false from h14) (by decide)⟩,fun h13=>iL (fun h14=>⟨fun h15 => ?t,fun h15=>absurd (show true=false from h15) (by decide)⟩) (fun h14 h15=>iE (fun h16=>⟨fun h17 => ?u,fun h17=>absurd (show true=false from h17) (by decide)⟩) (fun h16=>⟨?v,?w,⟨fun h17=>absurd (show false=true from h17) (by decide),fun h17=>⟨?x,fun h18 h19=>⟨?y,?z⟩⟩⟩⟩))⟩⟩⟩⟩⟩) (fun h6=>⟨?a0,?a1,fun h7=>⟨?a2,fun x_2 q_2=>iL (fun h8=>⟨?a3,iQ (fun h9 h10 h11=>⟨?a4,?a5⟩) (fun h9=>⟨?a6,iB (fun h10 => ?a7) (fun h10=>⟨?a8,fun h11 h12=>⟨?a9,?aa⟩⟩)⟩)⟩) (fun h8 => ?ab)⟩⟩)⟩))⟩)⟩⟩⟩
 case a|b|a3=>omega
 case c|d|g=>
  have h64:(nth .str d.2.2.1 x_0).length=64:=hp.2 _ (by omega)
  rw [h64];decide
 case e|f=>
  have h64:(nth .str d.2.2.1 x_0).length=64:=hp.2 _ (by omega)
  rw [List.length_drop,List.length_take,h64];decide
 case h|j|l|n|y|a4|a9=>simp only [aC,av] at *;omega
 case i=>
  have e1:x_1=km d x_0:=q_1.trans (kH d x_0).symm;have e2:x_2=lA d x_0:=q_2.trans (mb d x_0).symm
  subst e1;subst e2
  exact ⟨x_0 + 1,by omega,by omega,⟨by omega,by rw [ow h10 (by omega) h12],trivial⟩,⟨rfl,by rw [ow h10 (by omega) h12],rfl,trivial⟩,(by trivial)⟩
 case k=>
  have e1:x_1=km d x_0:=q_1.trans (kH d x_0).symm;have e2:x_2=lA d x_0:=q_2.trans (mb d x_0).symm
  subst e1;subst e2
  have hn:bU d (x_0 + 1)=bU d x_0:=nk fun z=>by have:=z.2.2;omega
  exact ⟨x_0 + 1,by omega,by omega,⟨by omega,by rw [hn],trivial⟩,⟨rfl,by rw [hn],rfl,trivial⟩,(by trivial)⟩
 case m=>
  have e1:x_1=km d x_0:=q_1.trans (kH d x_0).symm;have e2:x_2=lA d x_0:=q_2.trans (mb d x_0).symm
  subst e1;subst e2
  have hn:bU d (x_0 + 1)=bU d x_0:=nk fun z=>by have:=z.2.1;omega
  exact ⟨x_0 + 1,by omega,by omega,⟨by omega,by rw [hn],trivial⟩,⟨rfl,by rw [hn],rfl,trivial⟩,(by trivial)⟩
 case o=>
  have hn:bU d (x_0 + 1)=bU d x_0:=nk fun z=>h10 z.1
  exact ⟨x_0 + 1,by omega,by omega,⟨by omega,by rw [hn],trivial⟩,⟨rfl,by rw [hn],rfl,trivial⟩,(by trivial)⟩
 case p=>
  have hx0:x_0=2:=by omega
  subst hx0
  rw [xx h1 (by omega) h5];exact ⟨rfl,by decide,rfl,rfl⟩
 case q|r|s=>have hr:=cO d x_0;have ht:=nn hr.1.1;simp only [aC] at *;omega
 case t|u=>exfalso;have hr:=cO d x_0;have ht:=nn hr.1.1;omega
 case v|w=>have hr:=cO d x_0;have ht:=nn hr.1.1;omega
 case x=>
  have hx0:x_0=2:=(by omega);subst hx0;have hr:=cO d 2;have ht:=nn hr.1.1;have hb:fe d=2 + x_3:=(by rw [eU,q_3,q_2])
  have h64:(nth .str d.2.2.1 (Int.toNat (2 + x_3 + (x_1:Int)))).length=64:=hp.2 _ (by omega)
  have hl:=eV hp.2 (b:=fe d) (by omega) x_1 (by omega)
  rw [h64,hl];have:av=9223372036854775807:=rfl;omega
 case z=>
  have hx0:x_0=2:=(by omega);subst hx0;have hr:=cO d 2;have ht:=nn hr.1.1;have hb:fe d=2 + x_3:=(by rw [eU,q_3,q_2])
  exact ⟨x_1 + 1,by omega,by omega,⟨by omega,by rw [Ep,hb];rfl,trivial⟩,(by trivial)⟩
 case a0=>
  have hx0:x_0=2:=(by omega);subst hx0;have hx1:x_1=55:=(by omega);subst hx1;have hr:=cO d 2;have ht:=nn hr.1.1;have hbb:=eU d;have hll:(dK d (fe d) 55).length=64 * 55:=eV hp.2 (by omega) 55 (by omega);have hLL:bD 10 (List.drop 0 (List.take (Int.toNat (bU d 2).2) (dK d (fe d) 55)))=bC d:=(by rw [cP];rfl)
  rw [hll];exact ⟨by decide,hr.2.1,by omega⟩
 case a1=>
  have hx0:x_0=2:=(by omega);subst hx0;have hx1:x_1=55:=(by omega);subst hx1;have hr:=cO d 2;have ht:=nn hr.1.1;have hbb:=eU d;have hll:(dK d (fe d) 55).length=64 * 55:=eV hp.2 (by omega) 55 (by omega);have hLL:bD 10 (List.drop 0 (List.take (Int.toNat (bU d 2).2) (dK d (fe d) 55)))=bC d:=(by rw [cP];rfl)
  refine ⟨?_,rfl⟩;rw [List.drop_zero,List.length_take,hll];omega
 case a2=>
  have hx0:x_0=2:=(by omega);subst hx0;have hx1:x_1=55:=(by omega);subst hx1;have hr:=cO d 2;have ht:=nn hr.1.1;have hbb:=eU d;have hll:(dK d (fe d) 55).length=64 * 55:=eV hp.2 (by omega) 55 (by omega);have hLL:bD 10 (List.drop 0 (List.take (Int.toNat (bU d 2).2) (dK d (fe d) 55)))=bC d:=(by rw [cP];rfl)
  exact ⟨0,⟨Nat.zero_le _,fun j hj=>absurd hj (Nat.not_lt_zero _)⟩,⟨rfl,trivial⟩,⟨rfl,rfl,by rw [List.take_zero,Gm],trivial⟩,by rw [List.take_zero,Gm],trivial⟩
 case a5=>
  have hx0:x_0=2:=(by omega);subst hx0;have hx1:x_1=55:=(by omega);subst hx1;have hr:=cO d 2;have ht:=nn hr.1.1;have hbb:=eU d;have hll:(dK d (fe d) 55).length=64 * 55:=eV hp.2 (by omega) 55 (by omega);have hLL:bD 10 (List.drop 0 (List.take (Int.toNat (bU d 2).2) (dK d (fe d) 55)))=bC d:=(by rw [cP];rfl)
  (try rw [hLL] at h8);(try rw [hLL] at h9);(try rw [hLL] at h10);(try rw [hLL])
  have e:=Gk (L:=bC d) (i:=x_2) (by omega) h9
  exact ⟨x_2 + 1,⟨by omega,iz q_2.2 (.inl h9)⟩,by omega,⟨by omega,trivial⟩,⟨rfl,rfl,e.symm,trivial⟩,e.symm,(by trivial)⟩
 case a6=>
  have hx0:x_0=2:=(by omega);subst hx0;have hx1:x_1=55:=(by omega);subst hx1;have hr:=cO d 2;have ht:=nn hr.1.1;have hbb:=eU d;have hll:(dK d (fe d) 55).length=64 * 55:=eV hp.2 (by omega) 55 (by omega);have hLL:bD 10 (List.drop 0 (List.take (Int.toNat (bU d 2).2) (dK d (fe d) 55)))=bC d:=(by rw [cP];rfl)
  (try rw [hLL] at h8);(try rw [hLL] at h9);(try rw [hLL] at h10);(try rw [hLL])
  have hm:nth .str (bC d) x_2∈bC d:=gz (t:=.str) (by omega)
  have hm2:nth .str (bC d) x_2∈bD 10 (List.take (bU d 2).2.toNat (dK d (fe d) 55)):=by rw [<-cP];exact hm
  refine Nat.le_trans (xw 10 _ _ hm2) ?_
  rw [List.length_take,hll];omega
 case a7=>
  have hx0:x_0=2:=(by omega);subst hx0;have hx1:x_1=55:=(by omega);subst hx1;have hr:=cO d 2;have ht:=nn hr.1.1;have hbb:=eU d;have hll:(dK d (fe d) 55).length=64 * 55:=eV hp.2 (by omega) 55 (by omega);have hLL:bD 10 (List.drop 0 (List.take (Int.toNat (bU d 2).2) (dK d (fe d) 55)))=bC d:=(by rw [cP];rfl)
  (try rw [hLL] at h8);(try rw [hLL] at h9);(try rw [hLL] at h10);(try rw [hLL])
  rw [H0 h1 (by omega) h5 ⟨x_2,by omega,h9,h10⟩];exact ⟨rfl,by decide,rfl,rfl⟩
 case a8=>
  have hx0:x_0=2:=(by omega);subst hx0;have hx1:x_1=55:=(by omega);subst hx1;have hr:=cO d 2;have ht:=nn hr.1.1;have hbb:=eU d;have hll:(dK d (fe d) 55).length=64 * 55:=eV hp.2 (by omega) 55 (by omega);have hLL:bD 10 (List.drop 0 (List.take (Int.toNat (bU d 2).2) (dK d (fe d) 55)))=bC d:=(by rw [cP];rfl)
  refine ⟨rfl,?_⟩
  have h1:=H2 (List.take x_2 (bC d))
  have h2:=Er 10 (List.take (bU d 2).2.toNat (dK d (fe d) 55))
  rw [<-cP,List.length_take,hll] at h2
  rw [List.length_take] at h1;rw [List.length_singleton];omega
 case aa=>
  have hx0:x_0=2:=(by omega);subst hx0;have hx1:x_1=55:=(by omega);subst hx1;have hr:=cO d 2;have ht:=nn hr.1.1;have hbb:=eU d;have hll:(dK d (fe d) 55).length=64 * 55:=eV hp.2 (by omega) 55 (by omega);have hLL:bD 10 (List.drop 0 (List.take (Int.toNat (bU d 2).2) (dK d (fe d) 55)))=bC d:=(by rw [cP];rfl)
  (try rw [hLL] at h8);(try rw [hLL] at h9);(try rw [hLL] at h10);(try rw [hLL])
  have e:=Gl (L:=bC d) (i:=x_2) (by omega) h9
  exact ⟨x_2 + 1,⟨by omega,iz q_2.2 (.inr h10)⟩,by omega,⟨by omega,trivial⟩,⟨rfl,rfl,e.symm,trivial⟩,e.symm,(by trivial)⟩
 case ab=>
  have hx0:x_0=2:=(by omega);subst hx0;have hx1:x_1=55:=(by omega);subst hx1;have hr:=cO d 2;have ht:=nn hr.1.1;have hbb:=eU d;have hll:(dK d (fe d) 55).length=64 * 55:=eV hp.2 (by omega) 55 (by omega);have hLL:bD 10 (List.drop 0 (List.take (Int.toNat (bU d 2).2) (dK d (fe d) 55)))=bC d:=(by rw [cP];rfl)
  (try rw [hLL] at h8);(try rw [hLL] at h9);(try rw [hLL] at h10);(try rw [hLL])
  rw [CP h1 (by omega) h5 (Jp (i:=x_2) (by omega) q_2.2),List.take_of_length_le (by omega)];exact ⟨rfl,rfl,rfl,rfl⟩
theorem Tryz.wj:bw Tryz.prog Tryz.B.eT Tryz.X 10 false (aB Tryz.az [.obj 0] (fun _ x=>bf x 1000000/\∀i,i < x.2.2.1.length->(nth .str x.2.2.1 i).length=64) Tryz.mJ):=
 aV (X:=Tryz.X) Tryz.GV Tryz.func10 (by kernel_rfl) (fun (a:CD [.obj 0]) (x:PD Tryz.az)=>Tryz.C2 x) (fun (a:CD [.obj 0]) (x:PD Tryz.az) hw hp=>JK x hw hp)
end Go.Proofs.YtgokjhhcfemnhaaGreatDoor

namespace Go.Proofs.YtgokjhhcfemnhaaGreatDoor
open Go.Vg Go.Shelf Go.RowKit
theorem vr {P:Program} (w:World) (t e ty:TypeId) (z:Value) (ht:P.underlying t=some (.slice e)) (hv:∀w,(zeroValue e).run P w = .ok z w) (h1:∀u∈z.cells,u.oneCell'=true) (b o n c:Nat) (hn:0 < n)
  (hc:∀j,j < n * z.cells.size->(w.cell? ⟨b,o + j,none⟩).isSome=true) (hf:∀j,j < n * z.cells.size->w.frozen? ⟨b,o + j,none⟩=false) :
  (Builtin.clear_ #[t] ty #[.slice (some ⟨b,o,none⟩) n c]).run P w = .ok (.tuple #[]) (w.setCells b o (Builtin.zeroCells z.cells n).toList):=by
 have hl:(Builtin.zeroCells z.cells n).toList.length=n * z.cells.size:=by rw [Array.length_toList,size_zeroCells]
 have hst:=run_storeCells_cells (P:=P) b o (Builtin.zeroCells z.cells n).toList 0 w (by simpa [hl] using hc) (by simpa [hl] using hf) (by
  intro v hv'
  simp [Builtin.zeroCells] at hv'
  obtain ⟨k,hk,rfl⟩:=hv'
  by_cases h:k % z.cells.size < z.cells.size
  ·rw [getElem!_pos z.cells _ h];exact h1 _ (Array.getElem_mem h)
  ·have:z.cells.size=0:=by
    by_cases h0:z.cells.size=0
    ·exact h0
    ·exact absurd (Nat.mod_lt _ (by omega)) h
   rw [this] at hk;omega)
 simp only [Nat.add_zero] at hst
 obtain ⟨m,rfl⟩:∃m,n=m + 1:=⟨n - 1,by omega⟩
 simp [Builtin.clear_,run_underlying ht,hv,hst]
theorem eC (b:Nat):∀(vs:List Value) (o:Nat) (w:World),(w.setCells b o vs).heap.size=w.heap.size
 | [],_,_=>rfl
 | v :: r,o,w=>(eC b r (o + 1) _).trans (Go.Deep.nblk_setCell _ _ _)
theorem pT {b:Nat} {T:TypeId}:∀(news:List Value) (o:Nat) (w:World) (vs:Array Value),w.heap[b]?=some (.cells vs T (0,0))->o + news.length<=vs.size->
  ∃vs',(w.setCells b o news).heap[b]?=some (.cells vs' T (0,0))/\vs'.size=vs.size/\∀k,vs'[k]?=if k < o then vs[k]? else if k < o + news.length then news[k - o]? else vs[k]?:=by
 intro news
 induction news with
 | nil=>intro o w vs hb _;exact ⟨vs,hb,rfl,fun k=>by simp only [List.length_nil];split <;> (try rfl);rw [if_neg (by omega)]⟩
 | cons x r ih=>
  intro o w vs hb hle
  simp only [List.length_cons] at hle
  obtain ⟨vs',h1,h2,h3⟩:=ih (o + 1) (w.setCell ⟨b,o,none⟩ x) _ (Hz hb) (by simp;omega)
  refine ⟨vs',h1,by simpa using h2,fun k => ?_⟩
  rw [h3,List.length_cons]
  by_cases c1:k < o
  ·rw [if_pos (by omega),if_pos c1,Array.getElem?_setIfInBounds_ne (by omega)]
  ·by_cases c2:k=o
   ·subst c2
    rw [if_pos (by omega),if_neg c1,if_pos (by omega),Array.getElem?_setIfInBounds_self_of_lt (by omega)];simp
   ·rw [if_neg (by omega),if_neg c1]
    by_cases c3:k < o + 1 + r.length
    ·rw [if_pos c3,if_pos (by omega),show k - o=(k - (o + 1)) + 1 by omega,List.getElem?_cons_succ]
    ·rw [if_neg c3,if_neg (by omega),Array.getElem?_setIfInBounds_ne (by omega)]
set_option maxHeartbeats 4000000 in
set_option maxRecDepth 1000000 in
theorem Tryz.KJ:Gn Tryz.prog 57 3:=by
 intro b i j n cap vs T w hb hsz hij hj hcap hbig h1
 obtain ⟨te,ti,td,hu,hf⟩:=cX (t:=36) (e:=af) Tryz.bz (by kernel_rfl)
 obtain ⟨z,hz,hzr⟩:=hf.zero
 have hu':=hu
 rw [Tryz.underlying36] at hu'
 cases hu'
 obtain ⟨news,hnews⟩:∃news,news=(vs.toList.drop (j * 3)).take ((n - j) * 3):=⟨_,rfl⟩
 have hle:n * 3<=vs.size:=by omega
 have hlen:news.length=(n - j) * 3:=by rw [hnews,List.length_take,List.length_drop,Array.length_toList];omega
 have hget:∀(t:Nat) u,news[t]?=some u->vs[j * 3 + t]?=some u:=by
  intro t u ht
  rw [hnews,List.getElem?_take] at ht
  split at ht
  ·rw [List.getElem?_drop,Array.getElem?_toList] at ht;exact ht
  ·cases ht
 obtain ⟨A,hA,hsrc⟩:∃A:Addr,(if cap=j then some (⟨b,0,none⟩:Addr) else some ⟨b,j * 3,none⟩)=some A/\Hid (∀(t:Nat) u,news[t]?=some u->w.drew.cell? (A.add t)=some u):=by
  by_cases h:cap=j
  ·refine ⟨⟨b,0,none⟩,by simp [h],fun t u hu => ?_⟩
   have h0:news.length=0:=by rw [hlen];omega
   rw [List.length_eq_zero_iff.1 h0] at hu
   simp at hu
  ·refine ⟨⟨b,j * 3,none⟩,by simp [h],fun t u hu => ?_⟩
   rw [Addr.add_lit,cell_of_row w.drew b _ vs T (0,0) hb]
   exact hget t u hu
 have mixed:Tryz.prog.follows .mixedOrders=true:=by kernel_rfl
 have hs3:ti.size=3:=hf.size
 have s1:Hid (news.length=(n - j) * 3):=hlen
 have s2:Hid (∀u∈news,u.oneCell'=true):=by
  intro u hu
  obtain ⟨t,ht⟩:=List.getElem?_of_mem hu
  have:=aE ht
  exact h1 (j * 3 + t) u (by omega) (hget t u ht)
 have s3:Hid (∀t,t < news.length->(w.drew.cell? ⟨b,0 + i * 3 + t,none⟩).isSome=true/\w.drew.frozen? ⟨b,0 + i * 3 + t,none⟩=false):=by
  intro t ht
  rw [hlen] at ht
  refine ⟨?_,Lib.frozen_of_heap (w:=w.drew) hb _⟩
  rw [cell_of_row w.drew b _ vs T (0,0) hb,Array.getElem?_eq_getElem (by omega)];rfl
 obtain ⟨W1,hW1⟩:∃W1,W1=w.drew.setCells b (0 + i * 3) news:=⟨_,rfl⟩
 have hW:Hid (W1=w.drew.setCells b (0 + i * 3) news):=hW1
 have hic:i<=cap:=by omega
 have hjc:j<=cap:=by omega
 have hne:¬ ((i:Int)=(j:Int)):=by omega
 have hzv:∀w,(zeroValue 43).run Tryz.prog w = .ok z w:=fun w=>by simp [zeroValue,typeInfo,hf.info,hz]
 have hz0:=fh (S:=ae (fun _ _=>False) ⟨[],[],0⟩ (fun _=>⟨.nilIface,[]⟩) w) (cx:=Tryz.B) hzr
 have hzs:z.cells.size=3:=by
  rw [<-Array.length_toList]
  exact hz0.length.symm.trans (dC af)
 obtain ⟨vs1,v1,v2,v3⟩:=pT (b:=b) (T:=T) news (0 + i * 3) w.drew vs hb (by omega)
 rw [<-hW1] at v1
 have cz:=vr (P:=Tryz.prog) W1 36 43 0 z Tryz.underlying36 hzv (fun u hu=>(uc (eT:=Tryz.B.eT) (A:=fun _ _=>False) (w:=w) hzr (by kernel_rfl)).fu u (by simpa using hu)) b ((i + (n - j)) * 3) (n - (i + (n - j))) (cap - (i + (n - j))) (by omega)
  (fun t ht=>by rw [hzs] at ht;rw [cell_of_row W1 b _ vs1 T (0,0) v1,Array.getElem?_eq_getElem (by omega)];rfl) (fun t ht=>Lib.frozen_of_heap v1 _)
 obtain ⟨W2,hW2⟩:∃W2,W2=W1.setCells b ((i + (n - j)) * 3) (Builtin.zeroCells z.cells (n - (i + (n - j)))).toList:=⟨_,rfl⟩
 rw [<-hW2] at cz
 have hzl:(Builtin.zeroCells z.cells (n - (i + (n - j)))).toList.length=(n - (i + (n - j))) * 3:=by rw [Array.length_toList,size_zeroCells,hzs]
 obtain ⟨vs2,u1,u2,u3⟩:=pT (b:=b) (T:=T) (Builtin.zeroCells z.cells (n - (i + (n - j)))).toList ((i + (n - j)) * 3) W1 vs1 v1 (by omega)
 rw [<-hW2] at u1
 have hfin:Hid (W2.os=w.os/\W2.output=w.output/\W2.heap.size=w.heap.size/\(∀k,k≠b->W2.heap[k]?=w.heap[k]?)/\
       ∃vs',W2.heap[b]?=some (Obj.cells vs' T (0,0))/\vs'.size=vs.size/\∀k,k < (i + (n - j)) * 3->vs'[k]?=vs[if k < i * 3 then k else k + (j - i) * 3]?):=by
  refine ⟨by rw [hW2,hW1,World.os_setCells,World.os_setCells];rfl,by rw [hW2,hW1,World.output_setCells,World.output_setCells];rfl,by rw [hW2,hW1,eC,eC];rfl,fun k hk => ?_,vs2,u1,by omega,fun k hk => ?_⟩
  ·by_cases hlt:k < w.heap.size
   ·rw [hW2,World.heap_setCells_other _ _ _ _ (by rw [hW1,eC];exact hlt) hk,hW1,World.heap_setCells_other w.drew _ _ _ (show k < w.drew.heap.size from hlt) hk];rfl
   ·rw [Array.getElem?_eq_none (by rw [hW2,hW1,eC,eC];show w.heap.size<=k;omega),Array.getElem?_eq_none (by omega)]
  ·rw [u3,if_pos hk,v3]
   by_cases c:k < i * 3
   ·rw [if_pos (by omega),if_pos c]
   ·rw [if_neg (by omega),if_pos (by omega),if_neg c,hnews,List.getElem?_take,if_pos (by omega),List.getElem?_drop,Array.getElem?_toList]
    congr 1;omega
 have cz:Hid ((Builtin.clear_ #[36] 0 #[.slice (some ⟨b,(i + (n - j)) * 3,none⟩) (n - (i + (n - j))) (cap - (i + (n - j)))]).run Tryz.prog W1 = .ok (.tuple #[]) W2):=cz
 have cz:=cz.out
 clear hW1 hget hnews hlen h1 hW2 u1 u2 u3 v1 v2 v3 hzl
 go_enter Tryz.func57,Tryz.ntmps57
 go_wp2_with fail
 go_region_law_o (refine step_append_room rfl (.tmp 22) (.tmp 25) 36 rfl 43 ti 3 Tryz.underlying36 hf.info hs3 b 0 i cap (by simp [Act.eval,Act.put]) A (n - j) (cap - j) news (by simp [Act.eval,Act.put,hA]) s1.out hsrc.out s2.out (by omega) s3.out ?_;rw [<-hW.out])
 go_wp2
 go_ret
 exact ⟨rfl,hfin.out⟩
end Go.Proofs.YtgokjhhcfemnhaaGreatDoor

namespace Go.Proofs.YtgokjhhcfemnhaaGreatDoor
open Go.Vg Go.Mrl
theorem Tryz.KY:∃fn,Tryz.prog.funcs[57]?=some fn/\fn.body.isNone=false/\(fn.name == "runtime.NumGoroutine")=false:=⟨_,Tryz.func57,by kernel_rfl,by kernel_rfl⟩
noncomputable def Tryz.C3:List (FuncId × (Bool × aY)):=[(52,(false,fb Tryz.B [] Tryz.f52 [])),
 (57,(false,v8 af)),
 (53,(false,aB Tryz.aL [.obj 0, .d .str] (fun _ _=>True) Tryz.mI)),
 (55,(false,aB Tryz.aL [.obj 0, .d (.slice af)] (fun a x=>a.1.length<=100/\0<=(x.1.1:Int)/\(x.1.1:Int)<=1000000000/\bf x.2 1000000) Tryz.pG))]
theorem Tryz.GW:bn Tryz.prog Tryz.B Tryz.X Tryz.C3:=
 aG (eP (bA Tryz.bz) Tryz.func52 (by kernel_rfl) []) (aG (Es Tryz.KY Tryz.KJ) (aG (Tryz.wg) (aG (Tryz.CZ) (bA Tryz.bz))))
theorem JL {x:Sh} {s:aj} (h:¬ 0<=bQ x.1.2.1 s):df x s=(x,5):=by unfold df;rw [if_neg h]
theorem Iu {x:Sh} {s:aj} (h:0<=bQ x.1.2.1 s):df x s=ni x (x.1.2.1.take (bQ x.1.2.1 s).toNat++x.1.2.1.drop (bQ x.1.2.1 s + 1).toNat):=by
 unfold df;rw [if_pos h,List.eraseIdx_eq_take_drop_succ,show (bQ x.1.2.1 s + 1).toNat=(bQ x.1.2.1 s).toNat + 1 by omega]
def Tryz.tM:List (Alt Tryz.aL [.obj 0, .d .str]):=[{aR:=Tryz.aL,res:=[.d .err],out:=fun a x=>(df x a.1).1,ret:=fun a x=>(au (df x a.1).2,())}]
theorem JM (s:List UInt8) (r:Int) (o:List (D af)) (d:Dk) (hw:eN [.obj 0, .d .str] (s,())) (hp:(fun _ x=>x.1.2.1.length<=100/\0<=(x.1.1:Int)/\(x.1.1:Int)<=1000000000/\bf x.2 1000000) (s,()) ((r,o,()),d)):(cH Tryz.B Tryz.C3 Tryz.f14 [] Tryz.aL [.obj 0, .d .str] Tryz.tM (s,()) ((r,o,()),d)).holds:=by
 refine holds_of (p:=
  let za:=d.2.2.2.1=d.2.2.2.1
  let zb:=bQ o s
  let zc:=((r,o,()),d)
  let zd:=(df zc s).1
  let ze:=(au (df zc s).2,())
  let zf:=List.length o
  let zg:=zb + (1:Int)
  let zh:=List.take (Int.toNat zb) o++List.drop (Int.toNat zg) o
  let zi:=b8 d r zh
  let zj:=zi.1.2.2.2.1
  (za)/\(True)/\((True)->(((decide (zb < (0:Int)))=true->(za/\True/\zc=zd/\(aF.no (5:Int),())=ze))/\((decide (zb < (0:Int)))=false->(∀x_0:Bool,(((0:Nat) < zf->x_0=false)->(((x_0)=true->((aC zb)->((aC (1:Int))->(aC zg)/\(False))))/\((x_0)=false->(zf<=(1000000000:Nat))/\((aC zb)->((aC (1:Int))->(aC zg)/\((0:Int)<=zb/\zb < zg/\zg<=(↑zf:Int))/\(za)/\(List.length zh<=(100:Nat)/\(0:Int)<=r/\r<=(1000000000:Int)/\bf d (1000000:Nat))/\((True)->(zj=zj/\True/\(if zi.2=(0:Int) then (r + (1:Int),zh,()) else (r,o,()),zi.1)=zd/\(au zi.2,())=ze)))))))))))) (by kernel_rfl) ?_
 dsimp -iota -proj -eta only
 dsimp only at hp
 exact ⟨rfl,trivial,fun h0=>iL (fun h1=>(by rw [JL (x:=((r,o,()),d)) (show ¬ 0<=bQ o s by omega)];exact ⟨rfl,trivial,rfl,rfl⟩)) (fun h1 x_0 q_0=>⟨fun h2 h3 h4=>⟨(by exfalso;have:=qV q_0 h2;subst this;exact lC s (by omega)),(by have:=qV q_0 h2;subst this;exact lC s (by omega))⟩,fun h2=>⟨(by omega),fun h3 h4=>⟨(by have:=kG o s;have hh:o.length<=100:=hp.1;unfold aC;omega),(by have:=kG o s;exact ⟨by omega,by omega,by omega⟩),rfl,(by have hh:o.length<=100:=hp.1;refine ⟨?_,hp.2⟩;rw [List.length_append,List.length_take,List.length_drop];omega),fun h5=>(by rw [Iu (x:=((r,o,()),d)) (show 0<=bQ o s by omega)];exact ⟨rfl,trivial,rfl,rfl⟩)⟩⟩⟩)⟩
theorem Tryz.JN:bw Tryz.prog Tryz.B.eT Tryz.X 14 false (aB Tryz.aL [.obj 0, .d .str] (fun _ x=>x.1.2.1.length<=100/\0<=(x.1.1:Int)/\(x.1.1:Int)<=1000000000/\bf x.2 1000000) Tryz.tM):=
 aV (X:=Tryz.X) Tryz.GW Tryz.func14 (by kernel_rfl) (fun (a:CD [.obj 0, .d .str]) (x:PD Tryz.aL)=>[]) (fun (a:CD [.obj 0, .d .str]) (x:PD Tryz.aL) hw hp=>JM a.1 x.1.1 x.1.2.1 x.2 hw hp)
end Go.Proofs.YtgokjhhcfemnhaaGreatDoor

namespace Go.Proofs.YtgokjhhcfemnhaaGreatDoor
open Go.Vg Go.Mrl
noncomputable def Tryz.vt:List (FuncId × (Bool × aY)):=[(87,(true,aM [.str] [.err] (fun _=>True) (fun s=>au (ao s)))),
 (94,(true,aM [.str] [.int .i64] (fun _=>True) (fun s=>ao s))),
 (9,(true,aM [.err, .int .i64] [.bool] (fun _=>True) (fun x=>cT x.1 x.2))),
 (48,(false,aB Tryz.az [.obj 0, .d (.int .i64), .d .str] (fun _ x => -1<=x.1.1/\x.2.2.2.1.length<=900000000) Tryz.ic)),
 (44,(false,aB Tryz.az [.obj 0, .d (.int .i64)] (fun _ _=>True) Tryz.mH)),
 (49,(false,aB Tryz.az [.obj 0] (fun _ x => -1<=x.1.1/\x.2.1.length=x.2.2.1.length) Tryz.ie)),
 (42,(false,aB Tryz.az [.obj 0] (fun _ _=>True) Tryz.kK)),
 (43,(false,aB Tryz.az [.obj 0] (fun _ _=>True) Tryz.fm)),
 (8,(false,aB [] [.d (.int .i64)] (fun _ _=>True) Tryz.oy)),
 (10,(false,aB Tryz.az [.obj 0] (fun _ x=>bf x 1000000/\∀i,i < x.2.2.1.length->(nth .str x.2.2.1 i).length=64) Tryz.mJ)),
 (11,(false,aB Tryz.az [.obj 0] (fun _ x=>bf x 1000000) Tryz.lY))]
theorem Tryz.A9:bn Tryz.prog Tryz.B Tryz.X Tryz.vt:=
 aG (ar Tryz.kJ) (aG (ar Tryz.fH) (aG (ar Tryz.mc) (aG (Tryz.lD) (aG (Tryz.tL) (aG (Tryz.lE) (aG (Tryz.pF) (aG (Tryz.iY) (aG (Tryz.wc) (aG (Tryz.wj) (aG (Tryz.xK) (bA Tryz.bz)))))))))))
noncomputable def Tryz.nL:List (Alt [] []):=[{aR:=Tryz.aL,res:=[.obj 1, .obj 0, .d .bool],out:=fun _ _=>mF,ret:=fun _ _=>(true,())}]
theorem EI  (hw:eN [] ()):(cH Tryz.B Tryz.vt Tryz.f37 [] [] [] Tryz.nL () ()).holds:=by
 refine holds_of (p:=
  let za:=List.replicate (112:Nat) (bE (@List.nil UInt8))
  let zb:=(((-1:Int),false,()),za,za,[],())
  let zc:=(dq zb).1
  let zd:=zc.2.2.2.1=zc.2.2.2.1
  let ze:=(bu zc).2
  let zf:=(((bu zc).1.1,(bu zc).1.2,()),zc)=mF
  let zg:=(true,())
  (True)/\(((((112:Int) < (1:Int)\/(120:Int) < (112:Int))->(((!aF.isNil (aF.no (1:Int)))=true->(False))/\((!aF.isNil (aF.no (1:Int)))=false->(False)))))/\((((1:Int)<=(112:Int)/\(112:Int)<=(120:Int))->(((!aF.isNil aF.nil)=true->(False))/\((!aF.isNil aF.nil)=false->(@List.nil (Int × List UInt8 × Unit) = @List.nil (Int × List UInt8 × Unit))/\(bf zb (1000000:Nat))/\((True)->(((!aF.isNil (au (dq zb).2))=true->(False))/\((!aF.isNil (au (dq zb).2))=false->(zd)/\(bf zc (1000000:Nat)/\∀(i:Nat),i < List.length zc.2.2.1->List.length (nth Ty.str zc.2.2.1 i)=(64:Nat))/\((((ze≠(0:Int))->(((aF.isNil (au ze))=true->(False))/\((aF.isNil (au ze))=false->(False)))))/\(((ze=(0:Int))->(((aF.isNil aF.nil)=true->(zd/\True/\zf/\zg=zg))/\((aF.isNil aF.nil)=false->(zd/\True/\zf/\(false,())=zg))))))))))))))) (by kernel_rfl) ?_
 dsimp -iota -proj -eta only
 refine ⟨trivial,⟨fun h0=>⟨fun h1=>(by trivial),fun h1=>absurd (show true=false from h1) (by decide)⟩,fun h0=>⟨fun h1=>absurd (show false=true from h1) (by decide),fun h1=>⟨rfl,⟨Int.le_refl _,Nat.zero_le _,rfl⟩,fun h2=>iB (fun h3=>(c6 h3 ((jA (kI (Int.le_refl _)))).1)) (fun h3=>⟨rfl,⟨((jA (kI (Int.le_refl _)))).2.lX,((jA (kI (Int.le_refl _)))).2.ju.sec⟩,⟨fun h4=>⟨fun h5 => ?a,fun h5 => ?b⟩,fun h4=>⟨fun h5=>⟨rfl,trivial,Prod.ext kj.again rfl,rfl⟩,fun h5=>absurd (show true=false from h5) (by decide)⟩⟩⟩)⟩⟩⟩⟩
 case a|b=>exact h4 kj.rI
theorem Tryz.EJ:bw Tryz.prog Tryz.B.eT Tryz.X 37 false (aB [] [] (fun _ _=>True) Tryz.nL):=
 aV (X:=Tryz.X) Tryz.A9 Tryz.func37 (by kernel_rfl) (fun (a:CD []) (x:PD [])=>[]) (fun (a:CD []) (x:PD []) hw hp=>EI  hw)
end Go.Proofs.YtgokjhhcfemnhaaGreatDoor

namespace Go.Proofs.YtgokjhhcfemnhaaGreatDoor
open Go.Vg Go.Mrl
end Go.Proofs.YtgokjhhcfemnhaaGreatDoor

namespace Go.Proofs.YtgokjhhcfemnhaaGreatDoor
open Go.Vg Go.Mrl
end Go.Proofs.YtgokjhhcfemnhaaGreatDoor

namespace Go.Proofs.YtgokjhhcfemnhaaGreatDoor
open Go.Vg Go.Mrl
theorem Ca (n:Int) (hw:er [.int .i64] n):(cG Tryz.B [] Tryz.f95 [] [.int .i64] [.bool] (fun x y=>y=(fun n=>dy n) x) n).holds:=by
 refine holds_of (p:=
  (((decide (n>=(-2147483648:Int)))=true->(decide (n<=(2147483647:Int))=dy n))/\((decide (n>=(-2147483648:Int)))=false->(false=dy n)))) (by kernel_rfl) ?_
 refine iE (fun h0 => ?a) (fun h0 => ?b)
 case a|b=>unfold dy;rw [Bool.eq_iff_iff];simp;omega
theorem Tryz.Cb:bj Tryz.prog Tryz.B.eT Tryz.X 95 [.int .i64] [.bool] (fun _=>True) (fun x y=>y=(fun n=>dy n) x):=
 bN (X:=Tryz.X) (bA Tryz.bz) Tryz.func95 (by kernel_rfl) (fun _=>[]) (fun x hw hp=>Ca x hw)
noncomputable def Tryz.vu:List (FuncId × (Bool × aY)):=[(87,(true,aM [.str] [.err] (fun _=>True) (fun s=>au (ao s)))),
 (94,(true,aM [.str] [.int .i64] (fun _=>True) (fun s=>ao s))),
 (9,(true,aM [.err, .int .i64] [.bool] (fun _=>True) (fun x=>cT x.1 x.2))),
 (95,(true,aM [.int .i64] [.bool] (fun _=>True) (fun n=>dy n)))]
theorem Tryz.Ba:bn Tryz.prog Tryz.B Tryz.X Tryz.vu:=
 aG (ar Tryz.kJ) (aG (ar Tryz.fH) (aG (ar Tryz.mc) (aG (ar Tryz.Cb) (bA Tryz.bz))))
def vw (e:D af):cC:=[
 (0,fun st=>{X:=Nat,inv:=fun i=>i<=List.length e.2.1/\∀j,j < i->bJ (nth ai e.2.1 j)=0,bV:=fun i=>List.length e.2.1 - i,ba:=fun i=>[(4,sI i)],keep:=[1]}),
 (2,fun st=>{X:=Nat,inv:=fun i=>i<=List.length e.2.2.1/\∀j,j < i->bx e.2.1.length (nth aq e.2.2.1 j)=0,bV:=fun i=>List.length e.2.2.1 - i,ba:=fun i=>[(7,sI i)],keep:=[1]})]
theorem wk (e:D af) (hw:er [af] e):(cG Tryz.B Tryz.vu Tryz.f56 (vw e) [af] [.int .i64] (fun x y=>y=(fun e=>ay e) x) e).holds:=by
 refine holds_of (p:=
  let za:=ao e.1
  let zb:=ay e
  let zc:=e.2.1
  let zd:=List.length zc
  let ze:=zd<=av
  let zf:=(↑zd:Int)
  let zg:=(2:Int)=zb
  let zh:=e.2.2.1
  let zi:=List.length zh
  let zj:=fun (x_0:Nat)=>ao (nth ai zc x_0).1
  let zk:=(1:Int)=zb
  let zl:=fun (x_0:Nat)=>(nth ai zc x_0).2.2.1
  let zm:=fun (x_0:Nat)=>(↑x_0:Int) + (1:Int)
  let zn:=(e.1=e.1/\zc=zc/\zh=zh/\True)/\True
  (True)/\(((decide (za > (0:Int)))=true->(za=zb))/\((decide (za > (0:Int)))=false->((ze)->(((decide (zf < (1:Int)))=true->(zg))/\((decide (zf < (1:Int)))=false->((ze)->(((decide (zf > (6:Int)))=true->(zg))/\((decide (zf > (6:Int)))=false->((zi<=av)->(((decide ((↑zi:Int) > (36:Int)))=true->(zg))/\((decide ((↑zi:Int) > (36:Int)))=false->(∃(x:Nat),(x<=zd/\∀(j:Nat),j < x->bJ (nth ai zc j)=(0:Int))/\((0:Int)=(↑x:Int)/\True)/\True)/\(∀x_0:Nat,((x_0<=zd/\∀(j:Nat),j < x_0->bJ (nth ai zc j)=(0:Int))->((ze)->(((decide ((↑x_0:Int) < zf))=true->((0:Int)<=(↑x_0:Int)/\(↑x_0:Int) < zf)/\(True)/\(((decide (zj x_0 > (0:Int)))=true->(zj x_0=zb))/\((decide (zj x_0 > (0:Int)))=false->(((decide ((nth ai zc x_0).2.1 < (1:Int)))=true->(zk))/\((decide ((nth ai zc x_0).2.1 < (1:Int)))=false->(((decide ((nth ai zc x_0).2.1 > (1000000:Int)))=true->(zk))/\((decide ((nth ai zc x_0).2.1 > (1000000:Int)))=false->(((decide (zl x_0 < (0:Int)))=true->(zk))/\((decide (zl x_0 < (0:Int)))=false->(((decide (zl x_0 > (255:Int)))=true->(zk))/\((decide (zl x_0 > (255:Int)))=false->((16:Int)≠(0:Int))/\(∀x_1:Int,((x_1=Int.tmod (zl x_0) (16:Int))->(((decide (x_1 > (0:Int)))=true->(zk))/\((decide (x_1 > (0:Int)))=false->((aC (↑x_0:Int))->((aC (1:Int))->(aC (zm x_0))/\(∃(x':Nat),(x'<=zd/\∀(j:Nat),j < x'->bJ (nth ai zc j)=(0:Int))/\zd - x' < zd - x_0/\(zm x_0=(↑x':Int)/\True)/\zn))))))))))))))))))/\((decide ((↑x_0:Int) < zf))=false->(∃(x:Nat),(x<=zi/\∀(j:Nat),j < x->bx zd (nth aq zh j)=(0:Int))/\((0:Int)=(↑x:Int)/\True)/\True)/\(∀x_1:Nat,((x_1<=zi/\∀(j:Nat),j < x_1->bx zd (nth aq zh j)=(0:Int))->((zi<=av)->(((decide ((↑x_1:Int) < (↑zi:Int)))=true->((0:Int)<=(↑x_1:Int)/\(↑x_1:Int) < (↑zi:Int))/\(True)/\(((decide ((nth aq zh x_1).1 < (0:Int)))=true->(zk))/\((decide ((nth aq zh x_1).1 < (0:Int)))=false->((ze)->(((decide ((nth aq zh x_1).1>=zf))=true->(zk))/\((decide ((nth aq zh x_1).1>=zf))=false->(((decide ((nth aq zh x_1).2.1 < (0:Int)))=true->(zk))/\((decide ((nth aq zh x_1).2.1 < (0:Int)))=false->(((decide ((nth aq zh x_1).2.1 > (39:Int)))=true->(zk))/\((decide ((nth aq zh x_1).2.1 > (39:Int)))=false->(((!dy (nth aq zh x_1).2.2.1)=true->(zk))/\((!dy (nth aq zh x_1).2.2.1)=false->((aC (↑x_1:Int))->((aC (1:Int))->(aC (zm x_1))/\(∃(x':Nat),(x'<=zi/\∀(j:Nat),j < x'->bx zd (nth aq zh j)=(0:Int))/\zi - x' < zi - x_1/\(zm x_1=(↑x':Int)/\True)/\zn)))))))))))))))/\((decide ((↑x_1:Int) < (↑zi:Int)))=false->((0:Int)=zb))))))))))))))))))))))) (by kernel_rfl) ?_
 dsimp -iota -proj -eta only
 refine ⟨trivial,iL (fun h0=>((nH h0).symm)) (fun h0 h1=>iL (fun h2=>((fk (by assumption:ao e.1<=0) (.inl (by omega))).symm)) (fun h2 h3=>iL (fun h4=>((fk (by assumption:ao e.1<=0) (.inr (.inl (by omega)))).symm)) (fun h4 h5=>iL (fun h6=>((fk (by assumption:ao e.1<=0) (.inr (.inr (by omega)))).symm)) (fun h6=>⟨?a,fun x_0 q_0 h7=>iL (fun h8=>⟨?b,trivial,iL (fun h9=>(((b5 (by assumption:ao e.1<=0) (bK (by omega) (by omega) (by omega)) q_0.2 (by omega) (uR h9) (by omega))).symm)) (fun h9=>iL (fun h10=>(((b5 (by assumption:ao e.1<=0) (bK (by omega) (by omega) (by omega)) q_0.2 (by omega) (eu h9 (.inl (by assumption))) (by decide))).symm)) (fun h10=>iL (fun h11=>(((b5 (by assumption:ao e.1<=0) (bK (by omega) (by omega) (by omega)) q_0.2 (by omega) (eu h9 (.inr (.inl (by assumption)))) (by decide))).symm)) (fun h11=>iL (fun h12=>(((b5 (by assumption:ao e.1<=0) (bK (by omega) (by omega) (by omega)) q_0.2 (by omega) (eu h9 (.inr (.inr (.inl (by assumption))))) (by decide))).symm)) (fun h12=>iL (fun h13=>(((b5 (by assumption:ao e.1<=0) (bK (by omega) (by omega) (by omega)) q_0.2 (by omega) (eu h9 (.inr (.inr (.inr (.inl (by assumption)))))) (by decide))).symm)) (fun h13=>⟨(by trivial),fun x_1 q_1=>iL (fun h14=>(by have hb:=pj h12 q_1;exact ((b5 (by assumption:ao e.1<=0) (bK (by omega) (by omega) (by omega)) q_0.2 (by omega) (eu h9 (.inr (.inr (.inr (.inr (by rw [hb] at h14;exact h14)))))) (by decide))).symm)) (fun h14 h15 h16=>⟨?c,(by have hb:=pj h12 q_1;exact ⟨x_0 + 1,⟨by omega,iz q_0.2 (zZ h9 h10 h11 h12 h13 (by rw [hb] at h14;exact Int.le_antisymm h14 (Int.emod_nonneg _ (by decide))))⟩,by omega,⟨by omega,trivial⟩,(by trivial)⟩)⟩)⟩)))))⟩) (fun h8=>⟨?d,fun x_1 q_1 h9=>iL (fun h10=>⟨?e,trivial,iL (fun h11=>(((cm (by assumption:ao e.1<=0) (bK (by omega) (by omega) (by omega)) (fun j hj=>q_0.2 j (by omega)) q_1.2 (by omega) (ey (.inl (by assumption))))).symm)) (fun h11 h12=>iE (fun h13=>(((cm (by assumption:ao e.1<=0) (bK (by omega) (by omega) (by omega)) (fun j hj=>q_0.2 j (by omega)) q_1.2 (by omega) (ey (.inr (.inl (by assumption)))))).symm)) (fun h13=>iL (fun h14=>(((cm (by assumption:ao e.1<=0) (bK (by omega) (by omega) (by omega)) (fun j hj=>q_0.2 j (by omega)) q_1.2 (by omega) (ey (.inr (.inr (.inl (by assumption))))))).symm)) (fun h14=>iL (fun h15=>(((cm (by assumption:ao e.1<=0) (bK (by omega) (by omega) (by omega)) (fun j hj=>q_0.2 j (by omega)) q_1.2 (by omega) (ey (.inr (.inr (.inr (.inl (by assumption)))))))).symm)) (fun h15=>iB (fun h16=>(((cm (by assumption:ao e.1<=0) (bK (by omega) (by omega) (by omega)) (fun j hj=>q_0.2 j (by omega)) q_1.2 (by omega) (Eh h16))).symm)) (fun h16 h17 h18=>⟨?f,(⟨x_1 + 1,⟨by omega,iz q_1.2 (BS (by assumption) (by assumption) (by assumption) (by assumption) h16)⟩,by omega,⟨by omega,trivial⟩,(by trivial)⟩)⟩)))))⟩) (fun h10=>((xe (by assumption:ao e.1<=0) (bK (by omega) (by omega) (by omega)) (fun j hj=>q_0.2 j (by omega)) (fun j hj=>q_1.2 j (by omega))).symm))⟩)⟩))))⟩
 case a|d=>exact ⟨0,⟨Nat.zero_le _,fun j hj=>absurd hj (Nat.not_lt_zero _)⟩,⟨rfl,trivial⟩,trivial⟩
 case b|e=>omega
 case c|f=>simp only [aC,av] at *;omega
theorem Tryz.wm:bj Tryz.prog Tryz.B.eT Tryz.X 56 [af] [.int .i64] (fun _=>True) (fun x y=>y=(fun e=>ay e) x):=
 bN (X:=Tryz.X) Tryz.Ba Tryz.func56 (by kernel_rfl) (fun x=>vw x) (fun x hw hp=>wk x hw)
end Go.Proofs.YtgokjhhcfemnhaaGreatDoor

namespace Go.Proofs.YtgokjhhcfemnhaaGreatDoor
open Go.Vg Go.Mrl
@[reducible] def Tryz.cd:List Ob:=[.box 38 [.d (.slice af)]]
noncomputable def Tryz.C4:List (FuncId × (Bool × aY)):=[(56,(true,aM [af] [.int .i64] (fun _=>True) (fun e=>ay e)))]
theorem Tryz.GX:bn Tryz.prog Tryz.B Tryz.X Tryz.C4:=
 aG (ar Tryz.wm) (bA Tryz.bz)
def Tryz.C5 (e:D af) (o:List (D af)):cC:=[
 (0,fun st=>{X:=Nat,inv:=fun i=>i<=o.length/\∀j,j < i->(nth af o j).1≠e.1,bV:=fun i=>o.length - i,ba:=fun i=>[(7,sI i)],keep:=[0,3,6]})]
def Tryz.tN:List (Alt Tryz.cd [.obj 0, .d af]):=[{aR:=Tryz.cd,res:=[.d (.int .i64)],out:=fun a x=>(((fl x.1.1 a.1).1,()),()),ret:=fun a x=>((fl x.1.1 a.1).2,())}]
theorem JO (e:D af) (o:List (D af)) (hw:eN [.obj 0, .d af] (e,())) (hp:(fun _ x=>x.1.1.length<=1000000) (e,()) ((o,()),())):(cH (iw Tryz.B [5000000]) Tryz.C4 Tryz.f13 (Tryz.C5 e o) Tryz.cd [.obj 0, .d af] Tryz.tN (e,()) ((o,()),())).holds:=by
 refine holds_of (p:=
  let za:=(((fl o e).1,()),())
  let zb:=((o,()),())=za
  let zc:=((fl o e).2,())
  let zd:=List.length o
  let ze:=fun (x_0:Nat)=>(0:Int)<=(↑x_0:Int)/\(↑x_0:Int) < (↑zd:Int)
  let zf:=((0:Int),())=zc
  (True)/\(((decide (ay e > (0:Int)))=true->(True/\zb/\(ay e,())=zc))/\((decide (ay e > (0:Int)))=false->(zd<=(1000000000:Nat))/\(∃(x:Nat),(x<=zd/\∀(j:Nat),j < x->(nth af o j).1≠e.1)/\((0:Int)=(↑x:Int)/\True)/\True)/\(∀x_0:Nat,((x_0<=zd/\∀(j:Nat),j < x_0->(nth af o j).1≠e.1)->((zd<=av)->(((decide ((↑x_0:Int) < (↑zd:Int)))=true->(ze x_0)/\(x_0 < zd)/\((((nth af o x_0).1 == e.1)=true->(ze x_0)/\(x_0 < zd)/\(True/\((List.set o x_0 e,()),())=za/\zf))/\(((nth af o x_0).1 == e.1)=false->((aC (↑x_0:Int))->((aC (1:Int))->(aC ((↑x_0:Int) + (1:Int)))/\(∃(x':Nat),(x'<=zd/\∀(j:Nat),j < x'->(nth af o j).1≠e.1)/\zd - x' < zd - x_0/\((↑x_0:Int) + (1:Int)=(↑x':Int)/\True)/\o=o/\(e.1=e.1/\e.2.1=e.2.1/\e.2.2.1=e.2.2.1/\True)/\(o=o/\True)/\True))))))/\((decide ((↑x_0:Int) < (↑zd:Int)))=false->((zd<=av)->((((↑zd:Int) == (3:Int))=true->(True/\zb/\((2:Int),())=zc))/\(((↑zd:Int) == (3:Int))=false->(o=o/\zd + List.length [e]<=(1000000000:Nat))/\(True/\((o++[e],()),())=za/\zf)))))))))))) (by kernel_rfl) ?_
 dsimp -iota -proj -eta only
 dsimp only at hp
 refine ⟨trivial,iL (fun h0=>(by rw [u7 h0];exact ⟨trivial,rfl,rfl⟩)) (fun h0=>⟨?a,(⟨0,⟨Nat.zero_le _,fun j hj=>absurd hj (Nat.not_lt_zero _)⟩,⟨rfl,trivial⟩,trivial⟩),fun x_0 q_0 h1=>iL (fun h2=>⟨?b,?c,iQ (fun h3=>⟨?d,?e,(by rw [Aw (by omega) (by omega) q_0.2 h3];exact ⟨trivial,rfl,rfl⟩)⟩) (fun h3 h4 h5=>⟨(by simp only [aC,av] at *;omega),(⟨x_0 + 1,⟨by omega,iz q_0.2 h3⟩,by omega,⟨by omega,trivial⟩,(by trivial)⟩)⟩)⟩) (fun h2 h3=>iQ (fun h4=>(by rw [xu (by omega) (fun j hj=>q_0.2 j (by omega)) h4];exact ⟨trivial,rfl,rfl⟩)) (fun h4=>⟨(by have:o.length<=1000000:=hp;exact ⟨rfl,by rw [List.length_singleton];omega⟩),(by rw [tC (by omega) (fun j hj=>q_0.2 j (by omega)) h4];exact ⟨trivial,rfl,rfl⟩)⟩))⟩)⟩
 case a|b|c|d|e=>omega
theorem Tryz.JP:bw Tryz.prog Tryz.B.eT Tryz.X 13 false (aB Tryz.cd [.obj 0, .d af] (fun _ x=>x.1.1.length<=1000000) Tryz.tN):=
 aV (B:=(iw Tryz.B [5000000])) (X:=Tryz.X) (bn.hint (l:=[5000000]) Tryz.GX) Tryz.func13 (by kernel_rfl) (fun (a:CD [.obj 0, .d af]) (x:PD Tryz.cd)=>Tryz.C5 a.1 x.1.1) (fun (a:CD [.obj 0, .d af]) (x:PD Tryz.cd) hw hp=>JO a.1 x.1.1 hw hp)
def Tryz.Bb (s:List UInt8) (o:List (D af)):cC:=[
 (0,fun st=>{X:=Nat,inv:=fun i=>i<=o.length,bV:=fun i=>o.length - i,ba:=fun i=>[(6,sI i),(5, .s (.one (.app af (c7 (o.take i) s) (cp st 5))))],ag:=fun i=>[(cp st 5, .tok af (c7 (o.take i) s))],keep:=[0,1,4],gS:=[cp st 5]})]
def Tryz.q8:List (Alt Tryz.cd [.obj 0, .d .str]):=[{aR:=Tryz.cd,res:=[.d (.int .i64)],out:=fun a x=>(((dU x.1.1 a.1).1,()),()),ret:=fun a x=>((dU x.1.1 a.1).2,())}]
theorem Iv (s:List UInt8) (o:List (D af)) (hw:eN [.obj 0, .d .str] (s,())) (hp:(fun _ x=>x.1.1.length<=1000000) (s,()) ((o,()),())):(cH (iw Tryz.B [35]) [] Tryz.f15 (Tryz.Bb s o) Tryz.cd [.obj 0, .d .str] Tryz.q8 (s,()) ((o,()),())).holds:=by
 refine holds_of (p:=
  let za:=List.length o
  let zb:=fun (x_0:Nat)=>(0:Int)<=(↑x_0:Int)/\(↑x_0:Int) < (↑za:Int)
  let zc:=fun (x_0:Nat)=>c7 (List.take x_0 o) s
  let zd:=fun (x_0:Nat)=>(↑x_0:Int) + (1:Int)
  let ze:=fun (x_0:Nat)=>zc x_0++[nth af o x_0]
  let zf:=(o=o/\True)/\True
  let zg:=(((dU o s).1,()),())
  let zh:=((dU o s).2,())
  (∃(x:Nat),x<=za/\((0:Int)=(↑x:Int)/\@List.nil (List UInt8 × List (List UInt8 × Int × Int × Unit) × List (Int × Int × Int × Unit) × Unit)=c7 (List.take x o) s/\True)/\@List.nil (List UInt8 × List (List UInt8 × Int × Int × Unit) × List (Int × Int × Int × Unit) × Unit)=c7 (List.take x o) s/\True)/\(∀x_0:Nat,((x_0<=za)->((za<=av)->(((decide ((↑x_0:Int) < (↑za:Int)))=true->(zb x_0)/\(((!(nth af o x_0).1 == s)=true->(zb x_0)/\(zc x_0=zc x_0/\List.length (zc x_0) + List.length [nth af o x_0]<=(1000000000:Nat))/\((aC (↑x_0:Int))->((aC (1:Int))->(aC (zd x_0))/\(∃(x':Nat),x'<=za/\za - x' < za - x_0/\(zd x_0=(↑x':Int)/\ze x_0=c7 (List.take x' o) s/\True)/\ze x_0=c7 (List.take x' o) s/\zf))))/\((!(nth af o x_0).1 == s)=false->((aC (↑x_0:Int))->((aC (1:Int))->(aC (zd x_0))/\(∃(x':Nat),x'<=za/\za - x' < za - x_0/\(zd x_0=(↑x':Int)/\zc x_0=c7 (List.take x' o) s/\True)/\zc x_0=c7 (List.take x' o) s/\zf))))))/\((decide ((↑x_0:Int) < (↑za:Int)))=false->((List.length (zc x_0)<=av)->((za<=av)->((((↑(List.length (zc x_0)):Int) == (↑za:Int))=true->(True/\((o,()),())=zg/\((5:Int),())=zh))/\(((↑(List.length (zc x_0)):Int) == (↑za:Int))=false->(True/\((zc x_0,()),())=zg/\((0:Int),())=zh))))))))))) (by kernel_rfl) ?_
 dsimp -iota -proj -eta only
 dsimp only at hp
 refine ⟨(⟨0,Nat.zero_le _,⟨rfl,rfl,trivial⟩,rfl,trivial⟩),fun x_0 q_0 h0=>iL (fun h1=>⟨(by omega),⟨fun h2=>⟨?a,?b,fun h3 h4=>⟨?c,?d⟩⟩,fun h2 h3 h4=>⟨?e,?f⟩⟩⟩) (fun h1 h2 h3=>iQ (fun h4=>(by rw [List.take_of_length_le (by omega)] at h4;rw [En h4];exact ⟨trivial,rfl,rfl⟩)) (fun h4=>(by rw [List.take_of_length_le (by omega)] at *;rw [Eo h4];exact ⟨trivial,rfl,rfl⟩)))⟩
 case a=>
  simp only [bl,reduceCtorEq] at h2
  omega
 case b=>
  simp only [bl,reduceCtorEq] at h2
  refine ⟨rfl,?_⟩;have h1:=Gi (o.take x_0) s;rw [List.length_take] at h1;rw [List.length_singleton];have:o.length<=1000000:=hp;omega
 case c|e=>
  simp only [bl,reduceCtorEq] at h2
  simp only [aC,av] at *;omega
 case d=>
  simp only [bl,reduceCtorEq] at h2
  exact ⟨x_0 + 1,by omega,by omega,⟨by omega,(u9 (by omega) h2).symm,trivial⟩,(u9 (by omega) h2).symm,(by trivial)⟩
 case f=>
  simp only [bl,reduceCtorEq] at h2
  exact ⟨x_0 + 1,by omega,by omega,⟨by omega,(vb (by omega) h2).symm,trivial⟩,(vb (by omega) h2).symm,(by trivial)⟩
theorem Tryz.Iw:bw Tryz.prog Tryz.B.eT Tryz.X 15 false (aB Tryz.cd [.obj 0, .d .str] (fun _ x=>x.1.1.length<=1000000) Tryz.q8):=
 aV (B:=(iw Tryz.B [35])) (X:=Tryz.X) (bn.hint (l:=[35]) (bA Tryz.bz)) Tryz.func15 (by kernel_rfl) (fun (a:CD [.obj 0, .d .str]) (x:PD Tryz.cd)=>Tryz.Bb a.1 x.1.1) (fun (a:CD [.obj 0, .d .str]) (x:PD Tryz.cd) hw hp=>Iv a.1 x.1.1 hw hp)
def Tryz.C6 (s:List UInt8) (o:List (D af)):cC:=[
 (0,fun st=>{X:=Nat,inv:=fun i=>i<=o.length/\∀j,j < i->(nth af o j).1≠s,bV:=fun i=>o.length - i,ba:=fun i=>[(6,sI i)],keep:=[0,1,4]})]
def Tryz.tO:List (Alt Tryz.cd [.obj 0, .d .str]):=[{aR:=Tryz.cd,res:=[.d af, .d .bool],out:=fun _ x=>x,ret:=fun a x=>((bG x.1.1 a.1).1,(bG x.1.1 a.1).2,())}]
theorem JQ (s:List UInt8) (o:List (D af)) (hw:eN [.obj 0, .d .str] (s,())):(cH Tryz.B [] Tryz.f17 (Tryz.C6 s o) Tryz.cd [.obj 0, .d .str] Tryz.tO (s,()) ((o,()),())).holds:=by
 refine holds_of (p:=
  let za:=List.length o
  let zb:=fun (x_0:Nat)=>(0:Int)<=(↑x_0:Int)/\(↑x_0:Int) < (↑za:Int)
  let zc:=((o,()),())
  let zd:=((bG o s).1,(bG o s).2,())
  let ze:=@List.nil (List UInt8 × Int × Int × Unit) = @List.nil (List UInt8 × Int × Int × Unit)
  let zf:=@List.nil (Int × Int × Int × Unit) = @List.nil (Int × Int × Int × Unit)
  (∃(x:Nat),(x<=za/\∀(j:Nat),j < x->(nth af o j).1≠s)/\((0:Int)=(↑x:Int)/\True)/\True)/\(∀x_0:Nat,((x_0<=za/\∀(j:Nat),j < x_0->(nth af o j).1≠s)->((za<=av)->(((decide ((↑x_0:Int) < (↑za:Int)))=true->(zb x_0)/\((((nth af o x_0).1 == s)=true->(zb x_0)/\(True/\zc=zc/\(nth af o x_0,true,())=zd))/\(((nth af o x_0).1 == s)=false->((aC (↑x_0:Int))->((aC (1:Int))->(aC ((↑x_0:Int) + (1:Int)))/\(∃(x':Nat),(x'<=za/\∀(j:Nat),j < x'->(nth af o j).1≠s)/\za - x' < za - x_0/\((↑x_0:Int) + (1:Int)=(↑x':Int)/\True)/\(@List.nil UInt8 = @List.nil UInt8/\ze/\zf/\True)/\zf/\ze/\(o=o/\True)/\True))))))/\((decide ((↑x_0:Int) < (↑za:Int)))=false->(True/\zc=zc/\(([],[],[],()),false,())=zd))))))) (by kernel_rfl) ?_
 dsimp -iota -proj -eta only
 refine ⟨(⟨0,⟨Nat.zero_le _,fun j hj=>absurd hj (Nat.not_lt_zero _)⟩,⟨rfl,trivial⟩,trivial⟩),fun x_0 q_0 h0=>iL (fun h1=>⟨?a,iQ (fun h2=>⟨?b,?c⟩) (fun h2 h3 h4=>⟨(by simp only [aC,av] at *;omega),(⟨x_0 + 1,⟨by omega,iz q_0.2 h2⟩,by omega,⟨by omega,trivial⟩,(by trivial)⟩)⟩)⟩) (fun h1=>(by rw [Gh (by rw [kg fun j hj=>q_0.2 j (by omega)];decide)];exact ⟨trivial,rfl,rfl⟩))⟩
 case a|b=>omega
 case c=>
  have hf:=px (by omega) q_0.2 h2
  rw [CN (by rw [hf];omega),hf];exact ⟨trivial,rfl,rfl⟩
theorem Tryz.JR:bw Tryz.prog Tryz.B.eT Tryz.X 17 false (aB Tryz.cd [.obj 0, .d .str] (fun _ _=>True) Tryz.tO):=
 aV (X:=Tryz.X) (bA Tryz.bz) Tryz.func17 (by kernel_rfl) (fun (a:CD [.obj 0, .d .str]) (x:PD Tryz.cd)=>Tryz.C6 a.1 x.1.1) (fun (a:CD [.obj 0, .d .str]) (x:PD Tryz.cd) hw hp=>JQ a.1 x.1.1 hw)
def Tryz.xL (o:List (D af)):cC:=[
 (0,fun st=>{X:=Nat,inv:=fun i=>i<=o.length,bV:=fun i=>o.length - i,ba:=fun i=>[(4,sI i),(3, .s (.one (.app .str (bm (o.take i)) (cp st 3))))],ag:=fun i=>[(cp st 3, .tok .str (bm (o.take i)))],keep:=[0,2],gS:=[cp st 3]})]
def Tryz.pH:List (Alt Tryz.cd [.obj 0]):=[{aR:=Tryz.cd,res:=[.d (.slice .str)],out:=fun _ x=>x,ret:=fun _ x=>(bm x.1.1,())}]
theorem GY (o:List (D af)) (hw:eN [.obj 0] ()) (hp:(fun _ x=>x.1.1.length<=1000000) () ((o,()),())):(cH (iw Tryz.B [24]) [] Tryz.f21 (Tryz.xL o) Tryz.cd [.obj 0] Tryz.pH () ((o,()),())).holds:=by
 refine holds_of (p:=
  let za:=List.length o
  let zb:=fun (x_0:Nat)=>bm (List.take x_0 o)
  let zc:=fun (x_0:Nat)=>zb x_0++[(nth af o x_0).1]
  let zd:=((o,()),())
  (∃(x:Nat),x<=za/\((0:Int)=(↑x:Int)/\@List.nil (List UInt8)=bm (List.take x o)/\True)/\@List.nil (List UInt8)=bm (List.take x o)/\True)/\(∀x_0:Nat,((x_0<=za)->((za<=av)->(((decide ((↑x_0:Int) < (↑za:Int)))=true->((0:Int)<=(↑x_0:Int)/\(↑x_0:Int) < (↑za:Int))/\(zb x_0=zb x_0/\List.length (zb x_0) + List.length [(nth af o x_0).1]<=(1000000000:Nat))/\((aC (↑x_0:Int))->((aC (1:Int))->(aC ((↑x_0:Int) + (1:Int)))/\(∃(x':Nat),x'<=za/\za - x' < za - x_0/\((↑x_0:Int) + (1:Int)=(↑x':Int)/\zc x_0=bm (List.take x' o)/\True)/\zc x_0=bm (List.take x' o)/\@List.nil (List UInt8) = @List.nil (List UInt8)/\(o=o/\True)/\True))))/\((decide ((↑x_0:Int) < (↑za:Int)))=false->(True/\zd=zd/\(zb x_0,())=(bm o,())))))))) (by kernel_rfl) ?_
 dsimp -iota -proj -eta only
 dsimp only at hp
 refine ⟨(⟨0,Nat.zero_le _,⟨rfl,rfl,trivial⟩,rfl,trivial⟩),fun x_0 q_0 h0=>iL (fun h1=>⟨(by omega),?a,fun h2 h3=>⟨(by simp only [aC,av] at *;omega),(⟨x_0 + 1,by omega,by omega,⟨by omega,kZ (by omega),trivial⟩,kZ (by omega),(by trivial)⟩)⟩⟩) (fun h1=>(by rw [List.take_of_length_le (by omega)];exact ⟨trivial,rfl,rfl⟩))⟩
 case a=>refine ⟨rfl,?_⟩;rw [u6,List.length_take,List.length_singleton];have:o.length<=1000000:=hp;omega
theorem Tryz.GZ:bw Tryz.prog Tryz.B.eT Tryz.X 21 false (aB Tryz.cd [.obj 0] (fun _ x=>x.1.1.length<=1000000) Tryz.pH):=
 aV (B:=(iw Tryz.B [24])) (X:=Tryz.X) (bn.hint (l:=[24]) (bA Tryz.bz)) Tryz.func21 (by kernel_rfl) (fun (a:CD [.obj 0]) (x:PD Tryz.cd)=>Tryz.xL x.1.1) (fun (a:CD [.obj 0]) (x:PD Tryz.cd) hw hp=>GY x.1.1 hw hp)
end Go.Proofs.YtgokjhhcfemnhaaGreatDoor

namespace Go.Proofs.YtgokjhhcfemnhaaGreatDoor
open Go.Vg Go.Mrl
def Bc (a:List Int) (b:List Int):cC:=[(0,fun st=>{X:=Nat,inv:=fun i=>i<=a.length/\∀j,j < i->nth (.int .i64) a j=nth (.int .i64) b j,bV:=fun i=>a.length - i,ba:=fun i=>[(5,sI i)],keep:=[0,1]})]
theorem wo (a:List Int) (b:List Int) (hw:er [.slice (.int .i64), .slice (.int .i64)] (a,b)):(cG Tryz.B [] Tryz.f75 (Bc a b) [.slice (.int .i64), .slice (.int .i64)] [.bool] (fun x y=>y=(fun x=>jW x.1 x.2) x) (a,b)).holds:=by
 refine holds_of (p:=
  let za:=List.length a
  let zb:=(↑(List.length b):Int)
  let zc:=false=jW a b
  let zd:=Ty.int IntKind.i64
  ((za<=av)->((List.length b<=av)->((((↑za:Int) != zb)=true->(zc))/\(((↑za:Int) != zb)=false->(∃(x:Nat),(x<=za/\∀(j:Nat),j < x->nth zd a j=nth zd b j)/\((0:Int)=(↑x:Int)/\True)/\True)/\(∀x_0:Nat,((x_0<=za/\∀(j:Nat),j < x_0->nth zd a j=nth zd b j)->((za<=av)->(((decide ((↑x_0:Int) < (↑za:Int)))=true->((0:Int)<=(↑x_0:Int)/\(↑x_0:Int) < (↑za:Int))/\((0:Int)<=(↑x_0:Int)/\(↑x_0:Int) < zb)/\(((nth zd a x_0 != nth zd b x_0)=true->(zc))/\((nth zd a x_0 != nth zd b x_0)=false->((aC (↑x_0:Int))->((aC (1:Int))->(aC ((↑x_0:Int) + (1:Int)))/\(∃(x':Nat),(x'<=za/\∀(j:Nat),j < x'->nth zd a j=nth zd b j)/\za - x' < za - x_0/\((↑x_0:Int) + (1:Int)=(↑x':Int)/\True)/\True))))))/\((decide ((↑x_0:Int) < (↑za:Int)))=false->(true=jW a b))))))))))) (by kernel_rfl) ?_
 dsimp -iota -proj -eta only
 refine fun h0 h1=>iN (fun h2=>(Fv (by assumption))) (fun h2=>⟨(⟨0,⟨by omega,fun j hj=>by omega⟩,⟨rfl,trivial⟩,trivial⟩),fun x_0 q_0 h3=>iL (fun h4=>⟨?a,?b,iN (fun h5=>(HB (i:=x_0) (by assumption))) (fun h5 h6 h7=>⟨(by simp only [aC,av] at *;omega),(⟨x_0 + 1,⟨by omega,qD q_0.2 (by assumption)⟩,by omega,⟨by omega,trivial⟩,(by trivial)⟩)⟩)⟩) (fun h4=>(DL (by assumption) (fun i hi=>q_0.2 i (by omega))))⟩)
 case a|b=>omega
theorem Tryz.wq:bj Tryz.prog Tryz.B.eT Tryz.X 75 [.slice (.int .i64), .slice (.int .i64)] [.bool] (fun _=>True) (fun x y=>y=(fun x=>jW x.1 x.2) x):=
 bN (X:=Tryz.X) (bA Tryz.bz) Tryz.func75 (by kernel_rfl) (fun x=>Bc x.1 x.2) (fun x hw hp=>wo x.1 x.2 hw)
def Bd (a:List (List UInt8)) (b:List (List UInt8)):cC:=[(0,fun st=>{X:=Nat,inv:=fun i=>i<=a.length/\∀j,j < i->nth .str a j=nth .str b j,bV:=fun i=>a.length - i,ba:=fun i=>[(5,sI i)],keep:=[0,1]})]
theorem Be (a:List (List UInt8)) (b:List (List UInt8)) (hw:er [.slice .str, .slice .str] (a,b)):(cG Tryz.B [] Tryz.f19 (Bd a b) [.slice .str, .slice .str] [.bool] (fun x y=>y=(fun x=>eL x.1 x.2) x) (a,b)).holds:=by
 refine holds_of (p:=
  let za:=List.length a
  let zb:=(↑(List.length b):Int)
  let zc:=false=eL a b
  ((za<=av)->((List.length b<=av)->((((↑za:Int) != zb)=true->(zc))/\(((↑za:Int) != zb)=false->(∃(x:Nat),(x<=za/\∀(j:Nat),j < x->nth Ty.str a j=nth Ty.str b j)/\((0:Int)=(↑x:Int)/\True)/\True)/\(∀x_0:Nat,((x_0<=za/\∀(j:Nat),j < x_0->nth Ty.str a j=nth Ty.str b j)->((za<=av)->(((decide ((↑x_0:Int) < (↑za:Int)))=true->((0:Int)<=(↑x_0:Int)/\(↑x_0:Int) < (↑za:Int))/\((0:Int)<=(↑x_0:Int)/\(↑x_0:Int) < zb)/\(((!nth Ty.str a x_0 == nth Ty.str b x_0)=true->(zc))/\((!nth Ty.str a x_0 == nth Ty.str b x_0)=false->((aC (↑x_0:Int))->((aC (1:Int))->(aC ((↑x_0:Int) + (1:Int)))/\(∃(x':Nat),(x'<=za/\∀(j:Nat),j < x'->nth Ty.str a j=nth Ty.str b j)/\za - x' < za - x_0/\((↑x_0:Int) + (1:Int)=(↑x':Int)/\True)/\True))))))/\((decide ((↑x_0:Int) < (↑za:Int)))=false->(true=eL a b))))))))))) (by kernel_rfl) ?_
 dsimp -iota -proj -eta only
 refine fun h0 h1=>iN (fun h2=>(Fw (by assumption))) (fun h2=>⟨(⟨0,⟨by omega,fun j hj=>by omega⟩,⟨rfl,trivial⟩,trivial⟩),fun x_0 q_0 h3=>iL (fun h4=>⟨?a,?b,⟨fun h5 => ?c,fun h5 h6 h7=>⟨?d,?e⟩⟩⟩) (fun h4=>(DM (by assumption) (fun i hi=>q_0.2 i (by omega))))⟩)
 case a|b=>omega
 case c=>
  simp only [bl,reduceCtorEq] at h5
  exact HC (i:=x_0) (by assumption)
 case d=>
  simp only [bl,reduceCtorEq] at h5
  simp only [aC,av] at *;omega
 case e=>
  simp only [bl,reduceCtorEq] at h5
  exact ⟨x_0 + 1,⟨by omega,qD q_0.2 (by assumption)⟩,by omega,⟨by omega,trivial⟩,(by trivial)⟩
theorem Tryz.Bf:bj Tryz.prog Tryz.B.eT Tryz.X 19 [.slice .str, .slice .str] [.bool] (fun _=>True) (fun x y=>y=(fun x=>eL x.1 x.2) x):=
 bN (X:=Tryz.X) (bA Tryz.bz) Tryz.func19 (by kernel_rfl) (fun x=>Bd x.1 x.2) (fun x hw hp=>Be x.1 x.2 hw)
end Go.Proofs.YtgokjhhcfemnhaaGreatDoor

namespace Go.Proofs.YtgokjhhcfemnhaaGreatDoor
open Go.Vg Go.Mrl
def Bg (a:List (D aq)) (b:List (D aq)):cC:=[(0,fun st=>{X:=Nat,inv:=fun i=>i<=a.length/\∀j,j < i->nth aq a j=nth aq b j,bV:=fun i=>a.length - i,ba:=fun i=>[(5,sI i)],keep:=[0,1]})]
theorem wu (a:List (D aq)) (b:List (D aq)) (hw:er [.slice aq, .slice aq] (a,b)):(cG Tryz.B [] Tryz.f35 (Bg a b) [.slice aq, .slice aq] [.bool] (fun x y=>y=(fun x=>jh x.1 x.2) x) (a,b)).holds:=by
 refine holds_of (p:=
  let za:=List.length a
  let zb:=(↑(List.length b):Int)
  let zc:=false=jh a b
  ((za<=av)->((List.length b<=av)->((((↑za:Int) != zb)=true->(zc))/\(((↑za:Int) != zb)=false->(∃(x:Nat),(x<=za/\∀(j:Nat),j < x->nth aq a j=nth aq b j)/\((0:Int)=(↑x:Int)/\True)/\True)/\(∀x_0:Nat,((x_0<=za/\∀(j:Nat),j < x_0->nth aq a j=nth aq b j)->((za<=av)->(((decide ((↑x_0:Int) < (↑za:Int)))=true->((0:Int)<=(↑x_0:Int)/\(↑x_0:Int) < (↑za:Int))/\((0:Int)<=(↑x_0:Int)/\(↑x_0:Int) < zb)/\(((!(decide ((nth aq a x_0).1=(nth aq b x_0).1) && (decide ((nth aq a x_0).2.1=(nth aq b x_0).2.1) && (decide ((nth aq a x_0).2.2.1=(nth aq b x_0).2.2.1) && true))))=true->(zc))/\((!(decide ((nth aq a x_0).1=(nth aq b x_0).1) && (decide ((nth aq a x_0).2.1=(nth aq b x_0).2.1) && (decide ((nth aq a x_0).2.2.1=(nth aq b x_0).2.2.1) && true))))=false->((aC (↑x_0:Int))->((aC (1:Int))->(aC ((↑x_0:Int) + (1:Int)))/\(∃(x':Nat),(x'<=za/\∀(j:Nat),j < x'->nth aq a j=nth aq b j)/\za - x' < za - x_0/\((↑x_0:Int) + (1:Int)=(↑x':Int)/\True)/\True))))))/\((decide ((↑x_0:Int) < (↑za:Int)))=false->(true=jh a b))))))))))) (by kernel_rfl) ?_
 dsimp -iota -proj -eta only
 refine fun h0 h1=>iN (fun h2=>(Fx (by assumption))) (fun h2=>⟨(⟨0,⟨by omega,fun j hj=>by omega⟩,⟨rfl,trivial⟩,trivial⟩),fun x_0 q_0 h3=>iL (fun h4=>⟨?a,?b,⟨fun h5 => ?c,fun h5 h6 h7=>⟨?d,?e⟩⟩⟩) (fun h4=>(DN (by assumption) (fun i hi=>q_0.2 i (by omega))))⟩)
 case a|b=>omega
 case c=>
  simp only [bl,reduceCtorEq] at h5
  exact HE (i:=x_0) (fun e=>by rw [e] at h5;simp at h5)
 case d=>
  simp only [bl,reduceCtorEq] at h5
  simp only [aC,av] at *;omega
 case e=>
  simp only [bl,reduceCtorEq] at h5
  have h:=h5;simp at h;exact ⟨x_0 + 1,⟨by omega,qD q_0.2 (Prod.ext h.1 (Prod.ext h.2.1 (Prod.ext h.2.2 rfl)))⟩,by omega,⟨by omega,trivial⟩,(by trivial)⟩
theorem Tryz.wv:bj Tryz.prog Tryz.B.eT Tryz.X 35 [.slice aq, .slice aq] [.bool] (fun _=>True) (fun x y=>y=(fun x=>jh x.1 x.2) x):=
 bN (X:=Tryz.X) (bA Tryz.bz) Tryz.func35 (by kernel_rfl) (fun x=>Bg x.1 x.2) (fun x hw hp=>wu x.1 x.2 hw)
end Go.Proofs.YtgokjhhcfemnhaaGreatDoor

namespace Go.Proofs.YtgokjhhcfemnhaaGreatDoor
open Go.Vg Go.Mrl
noncomputable def Tryz.xM:List (FuncId × (Bool × aY)):=[(35,(true,aM [.slice aq, .slice aq] [.bool] (fun _=>True) (fun x=>jh x.1 x.2)))]
theorem Tryz.Cc:bn Tryz.prog Tryz.B Tryz.X Tryz.xM:=
 aG (ar Tryz.wv) (bA Tryz.bz)
def xN (a:D af) (b:D af):cC:=[
 (0,fun st=>{X:=Nat,inv:=fun i=>i<=List.length a.2.1,bV:=fun i=>List.length a.2.1 - i,ba:=fun i=>[(5,sI i)],keep:=[2,3]})]
theorem Bh (a:D af) (b:D af) (hw:er [af,af] (a,b)):(cG Tryz.B Tryz.xM Tryz.f18 (xN a b) [af,af] [.bool] (fun x y=>x.1=x.2->y=true) (a,b)).holds:=by
 refine holds_of (p:=
  let za:=a=b->false=true
  let zb:=a.2.1
  let zc:=List.length zb
  let zd:=b.2.1
  let ze:=(↑(List.length zd):Int)
  let zf:=b.2.2.1
  let zg:=a.2.2.1
  (((!a.1 == b.1)=true->(za))/\((!a.1 == b.1)=false->((zc<=av)->((List.length zd<=av)->((((↑zc:Int) != ze)=true->(za))/\(((↑zc:Int) != ze)=false->(∃(x:Nat),x<=zc/\((0:Int)=(↑x:Int)/\True)/\True)/\(∀x_0:Nat,((x_0<=zc)->((zc<=av)->(((decide ((↑x_0:Int) < (↑zc:Int)))=true->((0:Int)<=(↑x_0:Int)/\(↑x_0:Int) < (↑zc:Int))/\((0:Int)<=(↑x_0:Int)/\(↑x_0:Int) < ze)/\(((!((nth ai zb x_0).1 == (nth ai zd x_0).1 && (decide ((nth ai zb x_0).2.1=(nth ai zd x_0).2.1) && (decide ((nth ai zb x_0).2.2.1=(nth ai zd x_0).2.2.1) && true))))=true->(za))/\((!((nth ai zb x_0).1 == (nth ai zd x_0).1 && (decide ((nth ai zb x_0).2.1=(nth ai zd x_0).2.1) && (decide ((nth ai zb x_0).2.2.1=(nth ai zd x_0).2.2.1) && true))))=false->((aC (↑x_0:Int))->((aC (1:Int))->(aC ((↑x_0:Int) + (1:Int)))/\(∃(x':Nat),x'<=zc/\zc - x' < zc - x_0/\((↑x_0:Int) + (1:Int)=(↑x':Int)/\True)/\(b.1=b.1/\zd=zd/\zf=zf/\True)/\(a.1=a.1/\zb=zb/\zg=zg/\True)/\True))))))/\((decide ((↑x_0:Int) < (↑zc:Int)))=false->(True)/\(a=b->jh zg zf=true))))))))))))) (by kernel_rfl) ?_
 dsimp -iota -proj -eta only
 refine ⟨fun h0 => ?a,fun h0 h1 h2=>iN (fun h3 => ?b) (fun h3=>⟨?c,fun x_0 q_0 h4=>iL (fun h5=>⟨?d,?e,⟨fun h6 => ?f,fun h6 h7 h8=>⟨?g,?h⟩⟩⟩) (fun h5=>⟨trivial,?i⟩)⟩)⟩
 case a=>
  simp only [bl,reduceCtorEq] at h0
  intro e;subst e;exact absurd rfl h0
 case b=>
  simp only [bl,reduceCtorEq] at h0
  intro e;subst e;exact absurd rfl h3
 case c=>
  simp only [bl,reduceCtorEq] at h0
  exact ⟨0,by omega,⟨rfl,trivial⟩,trivial⟩
 case d|e=>
  simp only [bl,reduceCtorEq] at h0
  omega
 case f=>
  simp only [bl,reduceCtorEq] at h0 h6
  intro e;subst e;simp at h6
 case g=>
  simp only [bl,reduceCtorEq] at h0 h6
  simp only [aC,av] at *;omega
 case h=>
  simp only [bl,reduceCtorEq] at h0 h6
  exact ⟨x_0 + 1,by omega,by omega,⟨by omega,trivial⟩,(by trivial)⟩
 case i=>
  simp only [bl,reduceCtorEq] at h0
  intro e;subst e;exact decide_eq_true rfl
theorem Tryz.Bi:bj Tryz.prog Tryz.B.eT Tryz.X 18 [af,af] [.bool] (fun _=>True) (fun x y=>x.1=x.2->y=true):=
 bN (X:=Tryz.X) Tryz.Cc Tryz.func18 (by kernel_rfl) (fun x=>xN x.1 x.2) (fun x hw hp=>Bh x.1 x.2 hw)
end Go.Proofs.YtgokjhhcfemnhaaGreatDoor

namespace Go.Proofs.YtgokjhhcfemnhaaGreatDoor
open Go.Vg Go.Mrl
def xO (e:D af):cC:=[
 (0,fun st=>{X:=Nat,inv:=fun i=>i<=e.2.1.length/\∀j,j < i->(nth ai e.2.1 j).1.length<=20,bV:=fun i=>e.2.1.length - i,ba:=fun i=>[(3,sI i)],keep:=[1]})]
theorem x7 (e:D af) (hw:er [af] e):(cG Tryz.B [] Tryz.f38 (xO e) [af] [.bool] (fun e y=>y=true->lq e) e).holds:=by
 refine holds_of (p:=
  let za:=false=true->lq e
  let zb:=e.2.1
  let zc:=List.length zb
  let zd:=e.2.2.1
  let ze:=fun (x_0:Nat)=>List.length (nth ai zb x_0).1
  ((List.length e.1<=av)->(((decide ((↑(List.length e.1):Int) > (20:Int)))=true->(za))/\((decide ((↑(List.length e.1):Int) > (20:Int)))=false->((zc<=av)->(((decide ((↑zc:Int) > (8:Int)))=true->(za))/\((decide ((↑zc:Int) > (8:Int)))=false->((List.length zd<=av)->(((decide ((↑(List.length zd):Int) > (40:Int)))=true->(za))/\((decide ((↑(List.length zd):Int) > (40:Int)))=false->(∃(x:Nat),(x<=zc/\∀(j:Nat),j < x->List.length (nth ai zb j).1<=(20:Nat))/\((0:Int)=(↑x:Int)/\True)/\True)/\(∀x_0:Nat,((x_0<=zc/\∀(j:Nat),j < x_0->List.length (nth ai zb j).1<=(20:Nat))->((zc<=av)->(((decide ((↑x_0:Int) < (↑zc:Int)))=true->((0:Int)<=(↑x_0:Int)/\(↑x_0:Int) < (↑zc:Int))/\((ze x_0<=av)->(((decide ((↑(ze x_0):Int) > (20:Int)))=true->(za))/\((decide ((↑(ze x_0):Int) > (20:Int)))=false->((aC (↑x_0:Int))->((aC (1:Int))->(aC ((↑x_0:Int) + (1:Int)))/\(∃(x':Nat),(x'<=zc/\∀(j:Nat),j < x'->List.length (nth ai zb j).1<=(20:Nat))/\zc - x' < zc - x_0/\((↑x_0:Int) + (1:Int)=(↑x':Int)/\True)/\(e.1=e.1/\zb=zb/\zd=zd/\True)/\True)))))))/\((decide ((↑x_0:Int) < (↑zc:Int)))=false->(true=true->lq e)))))))))))))))) (by kernel_rfl) ?_
 dsimp -iota -proj -eta only
 refine fun h0=>iL (fun h1 => ?a) (fun h1 h2=>iL (fun h3 => ?b) (fun h3 h4=>iL (fun h5 => ?c) (fun h5=>⟨?d,fun x_0 q_0 h6=>iL (fun h7=>⟨(by omega),fun h8=>iL (fun h9 => ?e) (fun h9 h10 h11=>⟨(by simp only [aC,av] at *;omega),(⟨x_0 + 1,⟨by omega,iz q_0.2 (by omega)⟩,by omega,⟨by omega,trivial⟩,(by trivial)⟩)⟩)⟩) (fun h7=>(fun _=>⟨by omega,by omega,by omega,fun i hi=>q_0.2 i (by omega)⟩))⟩)))
 case a|b|c|e=>simp_all
 case d=>refine ⟨0,?_⟩;(repeat' (first | exact trivial | rfl | omega | assumption | apply And.intro))
theorem Tryz.pU:bj Tryz.prog Tryz.B.eT Tryz.X 38 [af] [.bool] (fun _=>True) (fun e y=>y=true->lq e):=
 bN (X:=Tryz.X) (bA Tryz.bz) Tryz.func38 (by kernel_rfl) (fun x=>xO x) (fun x hw hp=>x7 x hw)
noncomputable def Tryz.Bj:List (FuncId × (Bool × aY)):=[(38,(true,kA [af] [.bool] (fun _=>True) (fun e y=>y=true->lq e)))]
theorem Tryz.EK:bn Tryz.prog Tryz.B Tryz.X Tryz.Bj:=
 aG (fB Tryz.pU) (bA Tryz.bz)
def xP (l:List (D bW)) (m:Int):cC:=[
 (0,fun st=>{X:=Nat × Int,inv:=fun x=>x.1<=l.length/\(0<=x.2/\x.2<=20000)/\∀j,j < x.1->qG (nth bW l j),bV:=fun x=>l.length - x.1,ba:=fun x=>[(6,sI x.1),(5,sI x.2)],keep:=[0]})]
theorem Bk (l:List (D bW)) (m:Int) (hw:er [.slice bW, .int .i64] (l,m)):(cG (DG Tryz.B) Tryz.Bj Tryz.f7 (xP l m) [.slice bW, .int .i64] [.bool] (fun x y=>y=true->l6 x.1 x.2) (l,m)).holds:=by
 refine holds_of (p:=
  let za:=List.length l
  let zb:=false=true->l6 l m
  let zc:=fun (x_0:Nat × Int)=>(↑x_0.1:Int) < (↑za:Int)
  let zd:=fun (x_0:Nat × Int)=>(0:Int)<=(↑x_0.1:Int)/\zc x_0
  let ze:=fun (x_0:Nat × Int)=>List.length (nth bW l x_0.1).2.2.1
  let zf:=fun (x_0:Nat × Int)=>List.length (nth bW l x_0.1).2.1
  ((za<=av)->(((decide ((↑za:Int) > m))=true->(zb))/\((decide ((↑za:Int) > m))=false->(∃(x:Nat × Int),(x.1<=za/\((0:Int)<=x.2/\x.2<=(20000:Int))/\∀(j:Nat),j < x.1->qG (nth bW l j))/\((0:Int)=(↑x.1:Int)/\(0:Int)=x.2/\True)/\True)/\(∀x_0:Nat × Int,((x_0.1<=za/\((0:Int)<=x_0.2/\x_0.2<=(20000:Int))/\∀(j:Nat),j < x_0.1->qG (nth bW l j))->((za<=av)->(((decide (zc x_0))=true->(zd x_0)/\((ze x_0<=av)->(∀x_1:Int,((x_1=IntKind.wrap IntKind.i64 (x_0.2 + (↑(ze x_0):Int)))->(zd x_0)/\((zf x_0<=av)->(((decide ((↑(zf x_0):Int) > (100:Int)))=true->(zb))/\((decide ((↑(zf x_0):Int) > (100:Int)))=false->(zd x_0)/\((ze x_0<=av)->(((decide ((↑(ze x_0):Int) > (1300:Int)))=true->(zb))/\((decide ((↑(ze x_0):Int) > (1300:Int)))=false->(((decide (x_1 > (20000:Int)))=true->(zb))/\((decide (x_1 > (20000:Int)))=false->(zd x_0)/\(True)/\(∀x_2:Bool,((x_2=true->lq (nth bW l x_0.1).2.2.2.2.2.1)->(((!x_2)=true->(zb))/\((!x_2)=false->(∀x_3:Int,((x_3=IntKind.wrap IntKind.i64 ((↑x_0.1:Int) + (1:Int)))->(∃(x':Nat × Int),(x'.1<=za/\((0:Int)<=x'.2/\x'.2<=(20000:Int))/\∀(j:Nat),j < x'.1->qG (nth bW l j))/\za - x'.1 < za - x_0.1/\(x_3=(↑x'.1:Int)/\x_1=x'.2/\True)/\True)))))))))))))))))))/\((decide (zc x_0))=false->(true=true->l6 l m)))))))))) (by kernel_rfl) ?_
 dsimp -iota -proj -eta only
 refine fun h0=>iL (fun h1 => ?a) (fun h1=>⟨(by exact ⟨(0,0),⟨by omega,by simp,fun j hj=>by simp only at hj;omega⟩,⟨rfl,rfl,trivial⟩,trivial⟩),fun x_0 q_0 h2=>iL (fun h3=>⟨?b,fun h4 x_1 q_1=>⟨?c,fun h5=>iL (fun h6 => ?d) (fun h6=>⟨?e,fun h7=>iL (fun h8 => ?f) (fun h8=>iL (fun h9 => ?g) (fun h9=>⟨?h,trivial,fun x_2 q_2=>iB (fun h10 => ?i) (fun h10 x_3 q_3 => ?j)⟩))⟩)⟩⟩) (fun h3=>(fun _=>⟨by omega,fun i hi=>q_0.2.2 i (by omega)⟩))⟩)
 case a|d|f|g|i=>simp_all
 case b|c|e|h=>omega
 case j=>
  have hw2:IntKind.wrap IntKind.i64 (x_0.2 + (List.length (nth bW l x_0.1).2.2.1:Int))=x_0.2 + (List.length (nth bW l x_0.1).2.2.1:Int):=fE (by omega) (by omega)
  have hw3:IntKind.wrap IntKind.i64 ((x_0.1:Int) + 1)=(x_0.1:Int) + 1:=fE (by omega) (by have:(av:Int)=9223372036854775807:=rfl;omega)
  exact ⟨(x_0.1 + 1,_),⟨by omega,by simp only;omega,iz q_0.2.2 ⟨by omega,by omega,by simp_all⟩⟩,by simp only;omega,⟨by simp only;omega,rfl,trivial⟩,(by trivial)⟩
theorem Tryz.Bl:bj Tryz.prog Tryz.B.eT Tryz.X 7 [.slice bW, .int .i64] [.bool] (fun _=>True) (fun x y=>y=true->l6 x.1 x.2):=
 bN (B:=(DG Tryz.B)) (X:=Tryz.X) (bn.wrap Tryz.EK) Tryz.func7 (by kernel_rfl) (fun x=>xP x.1 x.2) (fun x hw hp=>Bk x.1 x.2 hw)
end Go.Proofs.YtgokjhhcfemnhaaGreatDoor

