/- A part of the proof that the law ImageSaysCard holds of the given program: facts that are used there. -/
import Derived.Test.YtgokjhhcfemnhaaGreatDoorPart3
import Derived.Test.YtgokjhhcfemnhaaGreatDoorChecked
import Derived.Lib.LaidTab
import Derived.Lib.ItoaNum
import Derived.Shelf.Strconv.Itoa3
import Derived.Shelf.Strconv.AtoiAll
import Derived.Shelf.Strings.Split
import Derived.Shelf.Small.Wraps
import Derived.Shelf.Strings.Prefix
import Derived.Shelf.LaysM
import Derived.Shelf.LaysC
import Derived.Sort.Grow
import Derived.Lib.SplitLaws
import Derived.Lib.Builder
import Derived.Lib.UnsafeStr
import Derived.Lib.Strings
import Derived.Lib.Slices
import Derived.Lib.Walk
import Derived.Laws.Externs
import Derived.Deep.Heap
import Derived.Shelf.RegionOpenPlain
set_option linter.unusedSimpArgs false
set_option linter.unusedVariables false
set_option maxRecDepth 100000
set_option maxHeartbeats 4000000
namespace Go.Proofs.YtgokjhhcfemnhaaGreatDoor
open Go.Vg
noncomputable def Tryz.B:Cx:={eT:=95,τ:=[(2,(.int .i64)),(3,(.int .i64)),(4, .bool),(5,(.int .u8)),(7,(.prod (.int .i64) (.prod (.int .i64) (.prod .bool (.prod (.int .u8) .unit))))),(9, .str),(12,(.int .u64)),(13,(.prod .str (.prod (.int .u64) .unit))),(18,(.prod .eK .unit)),(21,(.int .i32)),(22,(.slice bT)),(26, .err),(27, .err),(36,(.slice fj)),(37,(.prod (.slice fj) .unit)),(38,(.prod (.slice fj) .unit)),(39,(.int .u64)),(40,(.slice gO)),(41,(.slice aN)),(42,fj),(43,fj),(44,bT),(45,bT),(54,(.slice .str)),(57,(.slice aA)),(71,(.slice bE)),(77,(.slice (.int .i64))),(83,bE),(84,bE),(85,(.slice aI)),(86,(.slice aJ)),(87,aA),(88,aA),(92,gO),(93,gO),(95,(.int .i64)),(99,(.slice AS)),(100,LY),(101,LY),(104,(.prod .eK (.prod (.int .i64) (.prod (.slice fj) .unit)))),(105,(.prod .eK (.prod (.int .i64) (.prod (.slice fj) .unit)))),(121,(.slice cq)),(122,E7),(123,E7),(134,aI),(135,aI),(142,aN),(143,aN),(150,(.int .u64)),(153,(.slice (.int .u8))),(159,AS),(160,AS),(170, .eK),(171,(.prod .eK (.prod (.int .i64) .unit))),(172,(.prod .eK (.prod (.int .i64) .unit))),(173,(.prod .str (.prod (.int .i64) .unit))),(174,(.prod .str (.prod (.int .i64) .unit))),(176,aJ),(177,aJ),(178,cq),(179,cq),(193,(.slice (.slice (.int .i64)))),(197,(.slice aP)),(198,aP),(199,aP),(205,(.int .u32)),(213,(.prod .eK (.prod (.slice (.int .u8)) .unit))),(214,(.prod .eK (.prod (.slice (.int .u8)) .unit))),(235,(.int .i64)),(244,(.int .i64)),(253,(.int .u64)),(263,(.prod (.int .u8) (.prod (.int .u8) .unit))),(264,(.prod (.int .u8) (.prod (.int .u8) .unit))),(269,(.prod .str (.prod .str (.prod .err .unit)))),(270,(.prod .str (.prod .str (.prod .err .unit)))),(280,(.prod .str .unit)),(281,(.prod .str .unit))],uQ:=[(200,(600,4)),(262,(256,5)),(265,(16,264)),(271,(24,5)),(283,(20,39)),(284,(65,5)),(285,(32,5)),(286,(64,5)),(289,(0,16))],Γ:=[],N:=0,eqs:=[93,135,143,177],kC:=[25,31,59,212],mm:=[(170,(9,174))],n5:=[(214,5)]}
theorem Tryz.bZ:TyOK Tryz.prog Tryz.B:=Mo (n:=16) (by kernel_rfl)
structure Tryz.NI (w:World):Prop where
 pow:Lib.TabIs Tryz.prog w "internal/strconv.uint64pow10" .u64 Lib.pow10Tab
 max:∃m,w.cell? ⟨0,0,none⟩=some (.int .i64 m)
 Ol:∃ev,w.cell? ⟨3,0,none⟩=some ev/\(ev = .nilIface\/∃te pe,ev = .iface te pe)
 Om:∃ev,w.cell? ⟨4,0,none⟩=some ev/\(ev = .nilIface\/∃te pe,ev = .iface te pe)
theorem Tryz.NJ:Tryz.prog.globalNamed "internal/strconv.uint64pow10" = some 5:=by kernel_rfl
theorem tS {w:World} {b o:Nat} {v:Value} (h:w.cell? ⟨b,o,none⟩=some v):b < w.heap.size:=by
 unfold World.cell? at h
 by_cases hb:b < w.heap.size
 ·exact hb
 ·have h0:w.heap[b]?=none:=Array.getElem?_eq_none (by omega)
  simp [h0] at h
theorem ri {w w':World} {b o:Nat} (h:w'.heap[b]?=w.heap[b]?):w'.cell? ⟨b,o,none⟩=w.cell? ⟨b,o,none⟩:=by
 unfold World.cell?
 rw [h]
theorem I4 {P:Program} {w w':World} {nm:String} {g:Nat} (hg:P.globalNamed nm=some g) (h:w'.heap[g]?=w.heap[g]?):w'.var? P nm=w.var? P nm:=by
 unfold World.var?
 rw [hg]
 simp [h]
noncomputable def Tryz.X:Ext:=
 {N2 with
  rI:=Tryz.NI
  EJ:=[5,0,3,4]
  LO:=fun {w} h b hb=>by
   obtain ⟨h1,⟨m,h2⟩,⟨e3,h3,_⟩,⟨e4,h4,_⟩⟩:=h
   simp only [List.mem_cons,List.not_mem_nil,or_false] at hb
   rcases hb with rfl | rfl | rfl | rfl
   ·have h1':=World.var?_cell Tryz.NJ h1 0
    exact tS (v:=.int .u64 1) (by simpa [Lib.pow10Tab] using h1')
   ·exact tS h2
   ·exact tS h3
   ·exact tS h4
  AV:=fun {w w'} h hb=>by
   obtain ⟨h1,⟨m,h2⟩,⟨e3,h3,h5⟩,⟨e4,h4,h6⟩⟩:=h
   refine ⟨?_,⟨m,?_⟩,⟨e3,?_,h5⟩,⟨e4,?_,h6⟩⟩
   ·unfold Lib.TabIs at h1 ⊢
    rw [I4 Tryz.NJ (hb 5 (by simp))];exact h1
   ·rw [ri (hb 0 (by simp))];exact h2
   ·rw [ri (hb 3 (by simp))];exact h3
   ·rw [ri (hb 4 (by simp))];exact h4}
end Go.Proofs.YtgokjhhcfemnhaaGreatDoor

namespace Go.Proofs.YtgokjhhcfemnhaaGreatDoor
open Go.Vg Go.Mrl
def CG (s:List UInt8):cy:=[(0,fun st=>{X:=Nat,inv:=fun i=>i<=s.length/\∀j,j < i->fg j (bX s j)=false,aW:=fun i=>s.length - i,aQ:=fun i=>[(15, .s (.one (.d (.int .i64) i)))],aF:=fun _=>[],aU:=[0,14],fY:=[]})]
def CH (s:List UInt8):cy:=[(0,fun st=>{X:=Nat,inv:=fun i=>i<=s.length/\∀j,j < i->fg j (bX s j)=false,aW:=fun i=>s.length - i,aQ:=fun i=>[(3, .s (.one (.d (.int .i64) i)))],aF:=fun _=>[],aU:=[0],fY:=[]})]
theorem La (s:List UInt8) (hw:c8 [.str] s):(cp Tryz.B [] Tryz.f87 (CG s) [.str] [.err] (fun x y=>y=(fun s=>aY (aK s)) x) s).holds:=by
 refine holds_of (p:=
  let za:=aY (aK s)
  let zb:=bB.no (1:Int)=za
  let zc:=List.length s
  let zd:=fun (x_0:Nat)=>(↑(UInt8.toNat (bX s x_0)):Int)
  let ze:=bB.no (3:Int)=za
  let zf:=fun (x_0:Nat)=>((aC (↑x_0:Int))->((aC (1:Int))->(aC ((↑x_0:Int) + (1:Int)))/\(∃(x':Nat),(x'<=zc/\∀(j:Nat),j < x'->fg j (bX s j)=false)/\zc - x' < zc - x_0/\((↑x_0:Int) + (1:Int)=(↑x':Int)/\True)/\True)))
  let zg:=fun (x_0:Nat)=>(((zd x_0 != (95:Int))=true->(ze))/\((zd x_0 != (95:Int))=false->(zf x_0)))
  let zh:=fun (x_0:Nat)=>((((↑x_0:Int) == (0:Int))=true->(ze))/\(((↑x_0:Int) == (0:Int))=false->(((decide (zd x_0 < (48:Int)))=true->(zg x_0))/\((decide (zd x_0 < (48:Int)))=false->(((decide (zd x_0 > (57:Int)))=true->(zg x_0))/\((decide (zd x_0 > (57:Int)))=false->(zf x_0)))))))
  (((s == @List.nil UInt8)=true->(zb))/\((s == @List.nil UInt8)=false->((zc<=aG)->(((decide ((↑zc:Int) > (8:Int)))=true->(zb))/\((decide ((↑zc:Int) > (8:Int)))=false->((zc<=aG)->(∃(x:Nat),(x<=zc/\∀(j:Nat),j < x->fg j (bX s j)=false)/\((0:Int)=(↑x:Int)/\True)/\True)/\(∀x_0:Nat,((x_0<=zc/\∀(j:Nat),j < x_0->fg j (bX s j)=false)->(((decide ((↑x_0:Int) < (↑zc:Int)))=true->((0:Int)<=(↑x_0:Int)/\(↑x_0:Int) < (↑zc:Int))/\(((decide (zd x_0 < (97:Int)))=true->(zh x_0))/\((decide (zd x_0 < (97:Int)))=false->(((decide (zd x_0 > (122:Int)))=true->(zh x_0))/\((decide (zd x_0 > (122:Int)))=false->(zf x_0))))))/\((decide ((↑x_0:Int) < (↑zc:Int)))=false->(bB.nil=za)))))))))))) (by kernel_rfl) ?_
 dsimp -iota -proj -eta only
 refine iQ (fun h0 => ?a) (fun h0 h1=>iL (fun h2 => ?b) (fun h2 h3=>⟨(⟨0,⟨by omega,fun j hj=>by omega⟩,⟨rfl,trivial⟩,trivial⟩),fun x_0 q_0=>iL (fun h4=>⟨?c,iL (fun h5=>iQ (fun h6 => ?d) (fun h6=>iL (fun h7=>iN (fun h8 => ?e) (fun h8 h9 h10=>⟨?f,?g⟩)) (fun h7=>iL (fun h8=>iN (fun h9 => ?h) (fun h9 h10 h11=>⟨?i,?j⟩)) (fun h8 h9 h10=>⟨?k,?l⟩)))) (fun h5=>iL (fun h6=>iQ (fun h7 => ?m) (fun h7=>iL (fun h8=>iN (fun h9 => ?n) (fun h9 h10 h11=>⟨?o,?p⟩)) (fun h8=>iL (fun h9=>iN (fun h10 => ?q) (fun h10 h11 h12=>⟨?r,?s⟩)) (fun h9 h10 h11=>⟨?t,?u⟩)))) (fun h6 h7 h8=>⟨?v,?w⟩))⟩) (fun h4 => ?x)⟩))
 case a|b=>rw [rB (by first | omega | simp [h0])];rfl
 case c|f|o|r|t=>omega
 case d|e|h|m|n|q=>
  have hl:s.length≠0:=fun e=>h0 (List.length_eq_zero_iff.1 e)
  rw [eQ (i:=x_0) (by omega) (by omega) (hU.2 (by omega))];rfl
 case g|j|l|p|s|u|w=>exact ⟨x_0 + 1,⟨by omega,kK q_0.2 (gP.2 (by omega))⟩,by omega,⟨by omega,trivial⟩,trivial⟩
 case i|k|v=>simp only [aC,aG] at *;omega
 case x=>
  have hl:s.length≠0:=fun e=>h0 (List.length_eq_zero_iff.1 e)
  rw [pQ (by omega) (fun i hi=>q_0.2 i (by omega))];rfl
theorem Tryz.fM:bG Tryz.prog Tryz.B.eT Tryz.X 87 [.str] [.err] (fun _=>True) (fun x y=>y=(fun s=>aY (aK s)) x):=
 bI (X:=Tryz.X) (bY Tryz.bZ) Tryz.func87 (by kernel_rfl) (fun x=>CG x) (fun x hw hp=>La x hw)
theorem CI (s:List UInt8) (hw:c8 [.str] s):(cp Tryz.B [] Tryz.f94 (CH s) [.str] [.int .i64] (fun x y=>y=(fun s=>aK s) x) s).holds:=by
 refine holds_of (p:=
  let za:=List.length s
  let zb:=za<=aG
  let zc:=(↑za:Int)
  let zd:=aK s
  let ze:=fun (x_0:Nat)=>(0:Int)<=(↑x_0:Int)/\(↑x_0:Int) < zc
  let zf:=fun (x_0:Nat)=>(↑(UInt8.toNat (bX s x_0)):Int)
  let zg:=fun (x_0:Nat) => !decide (zf x_0<=(122:Int))
  let zh:=(3:Int)=zd
  let zi:=fun (x_0:Nat)=>((aC (↑x_0:Int))->((aC (1:Int))->(aC ((↑x_0:Int) + (1:Int)))/\(∃(x':Nat),(x'<=za/\∀(j:Nat),j < x'->fg j (bX s j)=false)/\za - x' < za - x_0/\((↑x_0:Int) + (1:Int)=(↑x':Int)/\True)/\True)))
  let zj:=fun (x_0:Nat)=>((((↑x_0:Int) == (0:Int))=true->(zh))/\(((↑x_0:Int) == (0:Int))=false->(zi x_0)))
  let zk:=fun (x_0:Nat)=>((((↑x_0:Int) == (0:Int))=true->(zh))/\(((↑x_0:Int) == (0:Int))=false->(((!zf x_0 == (95:Int))=true->(zh))/\((!zf x_0 == (95:Int))=false->(zi x_0)))))
  let zl:=fun (x_0:Nat)=>(ze x_0)/\(((zg x_0)=true->(zk x_0))/\((zg x_0)=false->(zi x_0)))
  ((zb)->(((decide (zc < (1:Int)))=true->((1:Int)=zd))/\((decide (zc < (1:Int)))=false->((zb)->(((decide (zc > (8:Int)))=true->((1:Int)=zd))/\((decide (zc > (8:Int)))=false->(∃(x:Nat),(x<=za/\∀(j:Nat),j < x->fg j (bX s j)=false)/\((0:Int)=(↑x:Int)/\True)/\True)/\(∀x_0:Nat,((x_0<=za/\∀(j:Nat),j < x_0->fg j (bX s j)=false)->((zb)->(((decide ((↑x_0:Int) < zc))=true->(ze x_0)/\(((decide (zf x_0>=(97:Int)))=true->(ze x_0)/\(ze x_0)/\(((decide (zf x_0>=(48:Int)))=true->(ze x_0)/\(((decide (zf x_0<=(57:Int)))=true->(((zg x_0)=true->(zj x_0))/\((zg x_0)=false->(zi x_0))))/\((decide (zf x_0<=(57:Int)))=false->(zl x_0))))/\((decide (zf x_0>=(48:Int)))=false->(zl x_0))))/\((decide (zf x_0>=(97:Int)))=false->(ze x_0)/\(((decide (zf x_0>=(48:Int)))=true->(ze x_0)/\(((decide (zf x_0<=(57:Int)))=true->(zj x_0))/\((decide (zf x_0<=(57:Int)))=false->(ze x_0)/\(zk x_0))))/\((decide (zf x_0>=(48:Int)))=false->(ze x_0)/\(zk x_0))))))/\((decide ((↑x_0:Int) < zc))=false->((0:Int)=zd))))))))))))) (by kernel_rfl) ?_
 dsimp -iota -proj -eta only
 refine fun h0=>iL (fun h1 => ?a) (fun h1 h2=>iL (fun h3 => ?b) (fun h3=>⟨(⟨0,⟨by omega,fun j hj=>by omega⟩,⟨rfl,trivial⟩,trivial⟩),fun x_0 q_0 h4=>iL (fun h5=>⟨?c,iE (fun h6=>⟨?d,?e,iE (fun h7=>⟨?f,iE (fun h8=>⟨fun h9=>iQ (fun h10 => ?g) (fun h10 h11 h12=>⟨?h,?i⟩),fun h9 h10 h11=>⟨?j,?k⟩⟩) (fun h8=>⟨?l,⟨fun h9=>iQ (fun h10 => ?m) (fun h10=>⟨fun h11 => ?n,fun h11 h12 h13=>⟨?o,?p⟩⟩),fun h9 h10 h11=>⟨?q,?r⟩⟩⟩)⟩) (fun h7=>⟨?s,⟨fun h8=>iQ (fun h9 => ?t) (fun h9=>⟨fun h10 => ?u,fun h10 h11 h12=>⟨?v,?w⟩⟩),fun h8 h9 h10=>⟨?x,?y⟩⟩⟩)⟩) (fun h6=>⟨?z,iE (fun h7=>⟨?a0,iE (fun h8=>iQ (fun h9 => ?a1) (fun h9 h10 h11=>⟨(by simp only [aC,aG] at *;omega),(⟨x_0 + 1,⟨by omega,kK q_0.2 (gP.2 (by omega))⟩,by omega,⟨by omega,trivial⟩,trivial⟩)⟩)) (fun h8=>⟨?a2,iQ (fun h9 => ?a3) (fun h9=>⟨fun h10 => ?a4,fun h10 h11 h12=>⟨?a5,?a6⟩⟩)⟩)⟩) (fun h7=>⟨?a7,iQ (fun h8 => ?a8) (fun h8=>⟨fun h9 => ?a9,fun h9 h10 h11=>⟨?aa,?ab⟩⟩)⟩)⟩)⟩) (fun h5=>(by rw [pQ (by omega) (fun i hi=>q_0.2 i (by omega))]))⟩))
 case a|b=>rw [rB (by omega)]
 case c|d|e|f|l|s|z|a0|a2|a7=>omega
 case g|m|a9=>
  simp only [bl,reduceCtorEq] at h9
  rw [eQ (i:=x_0) (by omega) (by omega) (hU.2 (by omega))]
 case h|j|aa=>
  simp only [bl,reduceCtorEq] at h9
  omega
 case i|k|r|ab=>
  simp only [bl,reduceCtorEq] at h9
  exact ⟨x_0 + 1,⟨by omega,kK q_0.2 (gP.2 (by omega))⟩,by omega,⟨by omega,trivial⟩,trivial⟩
 case n=>
  simp only [bl,reduceCtorEq] at h9 h11
  rw [eQ (i:=x_0) (by omega) (by omega) (hU.2 (by omega))]
 case o=>
  simp only [bl,reduceCtorEq] at h9 h11
  omega
 case p=>
  simp only [bl,reduceCtorEq] at h9 h11
  exact ⟨x_0 + 1,⟨by omega,kK q_0.2 (gP.2 (by omega))⟩,by omega,⟨by omega,trivial⟩,trivial⟩
 case q=>
  simp only [bl,reduceCtorEq] at h9
  simp only [aC,aG] at *;omega
 case t=>
  simp only [bl,reduceCtorEq] at h8
  rw [eQ (i:=x_0) (by omega) (by omega) (hU.2 (by omega))]
 case u=>
  simp only [bl,reduceCtorEq] at h8 h10
  rw [eQ (i:=x_0) (by omega) (by omega) (hU.2 (by omega))]
 case v=>
  simp only [bl,reduceCtorEq] at h8 h10
  omega
 case w=>
  simp only [bl,reduceCtorEq] at h8 h10
  exact ⟨x_0 + 1,⟨by omega,kK q_0.2 (gP.2 (by omega))⟩,by omega,⟨by omega,trivial⟩,trivial⟩
 case x=>
  simp only [bl,reduceCtorEq] at h8
  omega
 case y=>
  simp only [bl,reduceCtorEq] at h8
  exact ⟨x_0 + 1,⟨by omega,kK q_0.2 (gP.2 (by omega))⟩,by omega,⟨by omega,trivial⟩,trivial⟩
 case a1|a3|a8=>rw [eQ (i:=x_0) (by omega) (by omega) (hU.2 (by omega))]
 case a4=>
  simp only [bl,reduceCtorEq] at h10
  rw [eQ (i:=x_0) (by omega) (by omega) (hU.2 (by omega))]
 case a5=>
  simp only [bl,reduceCtorEq] at h10
  simp only [aC,aG] at *;omega
 case a6=>
  simp only [bl,reduceCtorEq] at h10
  exact ⟨x_0 + 1,⟨by omega,kK q_0.2 (gP.2 (by omega))⟩,by omega,⟨by omega,trivial⟩,trivial⟩
theorem Tryz.dz:bG Tryz.prog Tryz.B.eT Tryz.X 94 [.str] [.int .i64] (fun _=>True) (fun x y=>y=(fun s=>aK s) x):=
 bI (X:=Tryz.X) (bY Tryz.bZ) Tryz.func94 (by kernel_rfl) (fun x=>CH x) (fun x hw hp=>CI x hw)
theorem Mz (e:bB) (n:Int) (hw:c8 [.err, .int .i64] (e,n)):(cp Tryz.B [] Tryz.f9 [] [.err, .int .i64] [.bool] (fun x y=>y=(fun x=>cG x.1 x.2) x) (e,n)).holds:=by
 refine holds_of (p:=
  let za:=cG e n
  (((bB.isNil e)=true->((n == (0:Int))=za))/\((bB.isNil e)=false->(((bB.FM e)=true->(((decide (n > (0:Int)))=true->((bB.num e == n)=za))/\((decide (n > (0:Int)))=false->(false=za))))/\((bB.FM e)=false->(false=za)))))) (by kernel_rfl) ?_
 dsimp -iota -proj -eta only
 refine ⟨fun h0 => ?a,fun h0=>⟨fun h1=>iL (fun h2 => ?b) (fun h2 => ?c),fun h1 => ?d⟩⟩
 case a|b|c|d=>cases e <;> simp_all [bB.isNil,bB.FM,bB.num,cG] <;> omega
theorem Tryz.gv:bG Tryz.prog Tryz.B.eT Tryz.X 9 [.err, .int .i64] [.bool] (fun _=>True) (fun x y=>y=(fun x=>cG x.1 x.2) x):=
 bI (X:=Tryz.X) (bY Tryz.bZ) Tryz.func9 (by kernel_rfl) (fun _=>[]) (fun x hw hp=>Mz x.1 x.2 hw)
end Go.Proofs.YtgokjhhcfemnhaaGreatDoor

namespace Go.Proofs.YtgokjhhcfemnhaaGreatDoor
open Go.Vg Go.Mrl
theorem Lb (x:Int) (hw:c8 [.int .u64] x) (hp:(fun x=>0<=x/\x<=100) x):(cp Tryz.B [] Tryz.f153 [] [.int .u64] [.int .i64] (fun _ _=>True) x).holds:=by
 refine holds_of (p:=
  let za:=(0:Int)<=(16:Int)
  let zb:=(2:Int) ^ min (16:Nat) (IntKind.bits IntKind.u64)
  let zc:=aC (32:Int)
  let zd:=(32:Int) + (16:Int)
  let ze:=fun (x_1:Int)=>decide (x_1>=(256:Int))
  let zf:=(0:Int)<=(8:Int)
  let zg:=(2:Int) ^ min (8:Nat) (IntKind.bits IntKind.u64)
  let zh:=aC (8:Int)
  let zi:=aC (zd + (8:Int))
  let zj:=[(8:UInt8),8,8,8,8,8,8,8,8,8,8,8,8,8,8,8,8,8,8,8,8,8,8,8,8,8,8,8,8,8,8,8,8,8,8,8,8,8,8,8,8,8,8,8,8,8,8,8,8,8,8,8,8,8,8,8,8,8,8,8,8,8,8,8]
  let zk:=List.append (List.append [(0:UInt8),1,2,2,3,3,3,3,4,4,4,4,4,4,4,4,5,5,5,5,5,5,5,5,5,5,5,5,5,5,5,5,6,6,6,6,6,6,6,6,6,6,6,6,6,6,6,6,6,6,6,6,6,6,6,6,6,6,6,6,6,6,6,6] [(7:UInt8),7,7,7,7,7,7,7,7,7,7,7,7,7,7,7,7,7,7,7,7,7,7,7,7,7,7,7,7,7,7,7,7,7,7,7,7,7,7,7,7,7,7,7,7,7,7,7,7,7,7,7,7,7,7,7,7,7,7,7,7,7,7,7]) (List.append zj zj)
  let zl:=(↑(List.length zk):Int)
  let zm:=fun (x_2:Int)=>(0:Int)<=IntKind.wrap IntKind.u8 x_2/\IntKind.wrap IntKind.u8 x_2 < zl
  let zn:=fun (x_2:Int)=>(↑(UInt8.toNat (bX zk (Int.toNat (IntKind.wrap IntKind.u8 x_2)))):Int)
  let zo:=fun (x_2:Int)=>aC (zn x_2)
  let zp:=(32:Int) + (8:Int)
  let zq:=aC (0:Int)
  let zr:=(0:Int) + (16:Int)
  let zs:=aC (zr + (8:Int))
  let zt:=(0:Int) + (8:Int)
  let zu:=IntKind.wrap IntKind.u8 x
  let zv:=(↑(UInt8.toNat (bX zk (Int.toNat zu))):Int)
  (((decide (x>=(4294967296:Int)))=true->((0:Int)<=(32:Int))/\(∀x_0:Int,((x_0=Int.fdiv x ((2:Int) ^ min (32:Nat) (IntKind.bits IntKind.u64)))->(((decide (x_0>=(65536:Int)))=true->(za)/\(∀x_1:Int,((x_1=Int.fdiv x_0 zb)->((zc)->((aC (16:Int))->(aC zd)/\(((ze x_1)=true->(zf)/\(∀x_2:Int,((x_2=Int.fdiv x_1 zg)->((aC zd)->((zh)->(zi)/\(zm x_2)/\((zi)->((zo x_2)->(aC (zd + (8:Int) + zn x_2))/\(True))))))))/\((ze x_1)=false->(zm x_1)/\((aC zd)->((zo x_1)->(aC (zd + zn x_1))/\(True))))))))))/\((decide (x_0>=(65536:Int)))=false->(((ze x_0)=true->(zf)/\(∀x_1:Int,((x_1=Int.fdiv x_0 zg)->((zc)->((zh)->(aC zp)/\(zm x_1)/\((aC zp)->((zo x_1)->(aC (zp + zn x_1))/\(True))))))))/\((ze x_0)=false->(zm x_0)/\((zc)->((zo x_0)->(aC ((32:Int) + zn x_0))/\(True))))))))))/\((decide (x>=(4294967296:Int)))=false->(((decide (x>=(65536:Int)))=true->(za)/\(∀x_0:Int,((x_0=Int.fdiv x zb)->((zq)->((aC (16:Int))->(aC zr)/\(((ze x_0)=true->(zf)/\(∀x_1:Int,((x_1=Int.fdiv x_0 zg)->((aC zr)->((zh)->(zs)/\(zm x_1)/\((zs)->((zo x_1)->(aC (zr + (8:Int) + zn x_1))/\(True))))))))/\((ze x_0)=false->(zm x_0)/\((aC zr)->((zo x_0)->(aC (zr + zn x_0))/\(True))))))))))/\((decide (x>=(65536:Int)))=false->(((decide (x>=(256:Int)))=true->(zf)/\(∀x_0:Int,((x_0=Int.fdiv x zg)->((zq)->((zh)->(aC zt)/\(zm x_0)/\((aC zt)->((zo x_0)->(aC (zt + zn x_0))/\(True))))))))/\((decide (x>=(256:Int)))=false->((0:Int)<=zu/\zu < zl)/\((zq)->((aC zv)->(aC ((0:Int) + zv))/\(True)))))))))) (by kernel_rfl) ?_
 dsimp -iota -proj -eta only
 refine iE (fun h0=>⟨?a,fun x_0 q_0=>iE (fun h1=>⟨?b,fun x_1 q_1 h2 h3=>⟨?c,iE (fun h4=>⟨?d,fun x_2 q_2 h5 h6=>⟨?e,?f,fun h7 h8=>⟨?g,trivial⟩⟩⟩) (fun h4=>⟨?h,fun h5 h6=>⟨?i,trivial⟩⟩)⟩⟩) (fun h1=>iE (fun h2=>⟨?j,fun x_1 q_1 h3 h4=>⟨?k,?l,fun h5 h6=>⟨?m,trivial⟩⟩⟩) (fun h2=>⟨?n,fun h3 h4=>⟨?o,trivial⟩⟩))⟩) (fun h0=>iE (fun h1=>⟨?p,fun x_0 q_0 h2 h3=>⟨?q,iE (fun h4=>⟨?r,fun x_1 q_1 h5 h6=>⟨?s,?t,fun h7 h8=>⟨?u,trivial⟩⟩⟩) (fun h4=>⟨?v,fun h5 h6=>⟨?w,trivial⟩⟩)⟩⟩) (fun h1=>iE (fun h2=>⟨?x,fun x_0 q_0 h3 h4=>⟨?y,?z,fun h5 h6=>⟨?a0,trivial⟩⟩⟩) (fun h2=>⟨?a1,fun h3 h4=>⟨(by simp only [aC,aG] at *;omega),trivial⟩⟩)))
 case a|b|c|d|e|j|k|p|q|r|s|x|y=>trivial
 case f|g|h|i|l|m|n|o|t|u|v|w|z|a0=>omega
 case a1=>
  rw [show IntKind.u8.wrap x=x from px (by simp [IntKind.min,IntKind.max,IntKind.signed,IntKind.bits];omega)]
  show (0:Int)<=x/\x < 256
  omega
theorem Tryz.Lc:bG Tryz.prog Tryz.B.eT Tryz.X 153 [.int .u64] [.int .i64] (fun x=>0<=x/\x<=100) (fun _ _=>True):=
 bI (X:=Tryz.X) (bY Tryz.bZ) Tryz.func153 (by kernel_rfl) (fun _=>[]) (fun x hw hp=>Lb x hw hp)
noncomputable def Tryz.CJ:List (FuncId × (Bool × bQ)):=[(153,(true,fJ [.int .u64] [.int .i64] (fun x=>0<=x/\x<=100) (fun _ _=>True)))]
theorem Tryz.G7:bU Tryz.prog Tryz.B Tryz.X Tryz.CJ:=
 aS (dj Tryz.Lc) (bY Tryz.bZ)
theorem NK (x:Int) (hw:c8 [.int .u64] x) (hp:(fun x=>0<=x/\x<=100) x):(cp Tryz.B Tryz.CJ Tryz.f123 [] [.int .u64] [.int .i64] (fun _ _=>True) x).holds:=by
 refine holds_of (p:=
  ((0:Int)<=x/\x<=(100:Int))/\(∀x_0:Int,((True)->(True)))) (by kernel_rfl) ?_
 exact ⟨(by trivial),fun x_0 q_0=>trivial⟩
theorem Tryz.NL:bG Tryz.prog Tryz.B.eT Tryz.X 123 [.int .u64] [.int .i64] (fun x=>0<=x/\x<=100) (fun _ _=>True):=
 bI (X:=Tryz.X) Tryz.G7 Tryz.func123 (by kernel_rfl) (fun _=>[]) (fun x hw hp=>NK x hw hp)
theorem Ld (x:List UInt8) (hw:c8 [.str] x):(cp Tryz.B [] Tryz.f176 [] [.str] [.bool] (fun x y=>y=(fun _=>false) x) x).holds:=by
 refine holds_of (p:=
  ((!x == x)=false)) (by kernel_rfl) ?_
 exact (by simp_all)
theorem Tryz.Le:bG Tryz.prog Tryz.B.eT Tryz.X 176 [.str] [.bool] (fun _=>True) (fun x y=>y=(fun _=>false) x):=
 bI (X:=Tryz.X) (bY Tryz.bZ) Tryz.func176 (by kernel_rfl) (fun _=>[]) (fun x hw hp=>Ld x hw)
noncomputable def Tryz.I5:List (FuncId × (Bool × bQ)):=[(176,(true,aM [.str] [.bool] (fun _=>True) (fun _=>false)))]
theorem Tryz.Lf:bU Tryz.prog Tryz.B Tryz.X Tryz.I5:=
 aS (aE Tryz.Le) (bY Tryz.bZ)
theorem MA (x:List UInt8) (y:List UInt8) (hw:c8 [.str, .str] (x,y)):(cp Tryz.B Tryz.I5 Tryz.f149 [] [.str, .str] [.bool] (fun x y=>y=(fun x=>Op.bytesLess x.1 x.2) x) (x,y)).holds:=by
 refine holds_of (p:=
  let za:=Op.bytesLess x y
  (True)/\(((false)=true->(True)/\(((!false)=true->(true=za))/\((!false)=false->(za=za))))/\((false)=false->(za=za)))) (by kernel_rfl) ?_
 dsimp -iota -proj -eta only
 exact ⟨trivial,⟨fun h0=>absurd (show false=true from h0) (by decide),fun h0=>rfl⟩⟩
theorem Tryz.MB:bG Tryz.prog Tryz.B.eT Tryz.X 149 [.str, .str] [.bool] (fun _=>True) (fun x y=>y=(fun x=>Op.bytesLess x.1 x.2) x):=
 bI (X:=Tryz.X) Tryz.Lf Tryz.func149 (by kernel_rfl) (fun _=>[]) (fun x hw hp=>MA x.1 x.2 hw)
noncomputable def Tryz.FA:List (FuncId × (Bool × bQ)):=[(149,(true,aM [.str, .str] [.bool] (fun _=>True) (fun x=>Op.bytesLess x.1 x.2)))]
theorem Tryz.I6:bU Tryz.prog Tryz.B Tryz.X Tryz.FA:=
 aS (aE Tryz.MB) (bY Tryz.bZ)
def I7 (_ _:Int) (xs:List (List UInt8)):cy:=[
 (0,fun st=>{X:=Nat × List (List UInt8),inv:=fun x=>x.1<=xs.length + 1/\x.2.length=xs.length/\List.Perm x.2 xs/\sC x.2 x.1,aW:=fun x=>xs.length + 1 - x.1,aQ:=fun x=>[(6,sI x.1)],aF:=fun x=>[(0, .aV .str x.2)],aU:=[0,1,2],dq:=[0]}),
 (2,fun st=>{X:=Nat × List (List UInt8),inv:=fun x=>x.1<=(aX (.int .i64) st 6).toNat/\x.2.length=xs.length/\List.Perm x.2 xs/\rD x.2 (aX (.int .i64) st 6).toNat x.1,aW:=fun x=>x.1,aQ:=fun x=>[(7,sI x.1)],aF:=fun x=>[(0, .aV .str x.2)],aU:=[0,1,2,6,10,11,12,15],dq:=[0]})]
def xW:List (Alt [.row true .str] [.obj 0, .d (.int .i64), .d (.int .i64)]):=[{bV:=[.row true .str],res:=[],out:=fun _ x=>(gV x.1,()),ret:=fun _ _=>()}]
theorem G8 (a:Int) (b:Int) (xs:List (List UInt8)) (hw:hP [.obj 0, .d (.int .i64), .d (.int .i64)] (a,b,())) (hp:(fun a x=>a.1=0/\a.2.1=x.1.length/\x.1.length<=12) (a,b,()) (xs,())):(dR Tryz.B Tryz.FA Tryz.f143 (I7 a b xs) [.row true .str] [.obj 0, .d (.int .i64), .d (.int .i64)] xW (a,b,()) (xs,())).holds:=by
 refine holds_of (p:=
  let za:=aC (1:Int)
  let zb:=Nat × List (List UInt8)
  let zc:=List.length xs
  let zd:=zc + (1:Nat)
  let ze:=fun (x_0:Nat × List (List UInt8))=>(↑x_0.1:Int)
  let zf:=fun (x_1:Nat × List (List UInt8))=>(0:Int)<=ze x_1/\ze x_1 < (↑(List.length x_1.2):Int)
  let zg:=fun (x_1:Nat × List (List UInt8))=>x_1.1 < List.length x_1.2
  let zh:=fun (x_1:Nat × List (List UInt8))=>ze x_1 - (1:Int)
  let zi:=fun (x_1:Nat × List (List UInt8))=>(0:Int)<=zh x_1/\zh x_1 < (↑(List.length x_1.2):Int)
  let zj:=fun (x_1:Nat × List (List UInt8))=>Int.toNat (zh x_1) < List.length x_1.2
  let zk:=fun (x_1:Nat × List (List UInt8))=>List.set x_1.2 x_1.1 (nth Ty.str x_1.2 (Int.toNat (zh x_1)))
  let zl:=fun (x_0:Nat × List (List UInt8)) (x_1:Nat × List (List UInt8))=>((aC (ze x_0))->((za)->(aC (ze x_0 + (1:Int)))/\(∃(x':zb),(Prod.fst x'<=zd/\List.length (Prod.snd x')=zc/\List.Perm (Prod.snd x') xs/\sC (Prod.snd x') (Prod.fst x'))/\zd - Prod.fst x' < zd - x_0.1/\(ze x_0 + (1:Int)=(↑(Prod.fst x'):Int)/\True)/\x_1.2=Prod.snd x'/\True)))
  ((aC a)->((za)->(aC (a + (1:Int)))/\(∃(x:zb),(Prod.fst x<=zd/\List.length (Prod.snd x)=zc/\List.Perm (Prod.snd x) xs/\sC (Prod.snd x) (Prod.fst x))/\(a + (1:Int)=(↑(Prod.fst x):Int)/\True)/\xs=Prod.snd x/\True)/\(∀x_0:Nat × List (List UInt8),((x_0.1<=zd/\List.length x_0.2=zc/\List.Perm x_0.2 xs/\sC x_0.2 x_0.1)->(((decide (ze x_0 < b))=true->(∃(x:zb),(Prod.fst x<=x_0.1/\List.length (Prod.snd x)=zc/\List.Perm (Prod.snd x) xs/\rD (Prod.snd x) x_0.1 (Prod.fst x))/\(ze x_0=(↑(Prod.fst x):Int)/\True)/\x_0.2=Prod.snd x/\True)/\(∀x_1:Nat × List (List UInt8),((x_1.1<=x_0.1/\List.length x_1.2=zc/\List.Perm x_1.2 xs/\rD x_1.2 x_0.1 x_1.1)->(((decide (ze x_1 > a))=true->(zf x_1)/\(zg x_1)/\((aC (ze x_1))->((za)->(aC (zh x_1))/\(zi x_1)/\(zj x_1)/\(True)/\(((Op.bytesLess (nth Ty.str x_1.2 x_1.1) (nth Ty.str x_1.2 (Int.toNat (zh x_1))))=true->((aC (ze x_1))->((za)->(aC (zh x_1))/\((aC (ze x_1))->((za)->(aC (zh x_1))/\(zi x_1)/\(zj x_1)/\(zf x_1)/\(zg x_1)/\(zf x_1)/\(zg x_1)/\((0:Int)<=zh x_1/\zh x_1 < (↑(List.length (zk x_1)):Int))/\(Int.toNat (zh x_1) < List.length (zk x_1))/\((aC (ze x_1))->((za)->(aC (zh x_1))/\(∃(x':zb),(Prod.fst x'<=x_0.1/\List.length (Prod.snd x')=zc/\List.Perm (Prod.snd x') xs/\rD (Prod.snd x') x_0.1 (Prod.fst x'))/\Prod.fst x' < x_1.1/\(zh x_1=(↑(Prod.fst x'):Int)/\True)/\List.set (zk x_1) (Int.toNat (zh x_1)) (nth Ty.str x_1.2 x_1.1)=Prod.snd x'/\True))))))))/\((Op.bytesLess (nth Ty.str x_1.2 x_1.1) (nth Ty.str x_1.2 (Int.toNat (zh x_1))))=false->(zl x_0 x_1))))))/\((decide (ze x_1 > a))=false->(zl x_0 x_1))))))/\((decide (ze x_0 < b))=false->(True/\(x_0.2,())=(gV xs,())/\()=())))))))) (by kernel_rfl) ?_
 dsimp -iota -proj -eta only
 dsimp only at hp
 refine fun h0 h1=>⟨?a,(⟨(1,xs),⟨by omega,rfl, .refl _,fun a b h1 h2=>by omega⟩,⟨by omega,trivial⟩,rfl,trivial⟩),fun x_0 q_0=>iL (fun h2=>⟨(⟨(x_0.1,x_0.2),⟨by omega,q_0.2.1,q_0.2.2.1,rD.start q_0.2.2.2⟩,⟨rfl,trivial⟩,rfl,trivial⟩),fun x_1 q_1=>iL (fun h3=>⟨?b,?c,fun h4 h5=>⟨?d,?e,?f,trivial,⟨fun h6 h7 h8=>⟨?g,fun h9 h10=>⟨?h,?i,?j,?k,?l,?m,?n,?o,?p,fun h11 h12=>⟨?q,?r⟩⟩⟩,fun h6 h7 h8=>⟨?s,?t⟩⟩⟩⟩) (fun h3 h4 h5=>⟨?u,(by exact ⟨(x_0.1 + 1,x_1.2),⟨by simp only;omega,q_1.2.1,q_1.2.2.1,q_1.2.2.2.done (.inl (by omega)) (by omega)⟩,by simp only;omega,⟨by simp only;omega,trivial⟩,rfl,(by trivial)⟩)⟩)⟩) (fun h2=>⟨trivial,by rw [Iw q_0.2.2.1 (fun a b h1 h2=>q_0.2.2.2 a b h1 (by omega))],rfl⟩)⟩
 case a|d|g|h|q|s|u=>simp only [aC,aG] at *;omega
 case b|c|e|f|i|j|k|l|m|n=>omega
 case o|p=>rw [List.length_set];omega
 case r=>
  have e:((x_1.1:Int) - 1).toNat=x_1.1 - 1:=(by omega)
  rw [e]
  exact ⟨(x_1.1 - 1,oH x_1.2 x_1.1),⟨by simp only;omega,by rw [B2];exact q_1.2.1,(GA (by omega) (by omega)).trans q_1.2.2.1,q_1.2.2.2.swap (by omega) (by omega) (by omega) (by unfold jN;rw [<-e];exact h6)⟩,by simp only;omega,⟨by simp only;omega,trivial⟩,rfl,(by trivial)⟩
 case t=>
  have e:((x_1.1:Int) - 1).toNat=x_1.1 - 1:=(by omega)
  rw [e] at h6
  exact ⟨(x_0.1 + 1,x_1.2),⟨by simp only;omega,q_1.2.1,q_1.2.2.1,q_1.2.2.2.done (.inr (by unfold jN;rw [h6];simp)) (by omega)⟩,by simp only;omega,⟨by simp only;omega,trivial⟩,rfl,(by trivial)⟩
theorem Tryz.G9:cL Tryz.prog Tryz.B.eT Tryz.X 143 false (bM [.row true .str] [.obj 0, .d (.int .i64), .d (.int .i64)] (fun a x=>a.1=0/\a.2.1=x.1.length/\x.1.length<=12) xW):=
 cn (X:=Tryz.X) Tryz.I6 Tryz.func143 (by kernel_rfl) (fun (a:CD [.obj 0, .d (.int .i64), .d (.int .i64)]) (x:PD [.row true .str])=>I7 a.1 a.2.1 x.1) (fun (a:CD [.obj 0, .d (.int .i64), .d (.int .i64)]) (x:PD [.row true .str]) hw hp=>G8 a.1 a.2.1 x.1 hw hp)
noncomputable def Tryz.I8:List (FuncId × (Bool × bQ)):=[(143,(false,bM [.row true .str] [.obj 0, .d (.int .i64), .d (.int .i64)] (fun a x=>a.1=0/\a.2.1=x.1.length/\x.1.length<=12) xW))]
theorem Tryz.Lg:bU Tryz.prog Tryz.B Tryz.X Tryz.I8:=
 aS (Tryz.G9) (bY Tryz.bZ)
def I9 (a b _:Int) (_:List (List UInt8)):cy:=[(0,fun st=>{X:=Unit,inv:=fun _=>True,aW:=fun _=>0,aQ:=fun _=>[(1,sI a),(2,sI b)],aU:=[0]})]
def xX:List (Alt [.row true .str] [.obj 0, .d (.int .i64), .d (.int .i64), .d (.int .i64)]):=[{bV:=[.row true .str],res:=[],out:=fun _ x=>(gV x.1,()),ret:=fun _ _=>()}]
theorem NM (a:Int) (b:Int) (c:Int) (xs:List (List UInt8)) (hw:hP [.obj 0, .d (.int .i64), .d (.int .i64), .d (.int .i64)] (a,b,c,())) (hp:(fun a x=>a.1=0/\a.2.1=x.1.length/\x.1.length<=12) (a,b,c,()) (xs,())):(dR Tryz.B Tryz.I8 Tryz.f122 (I9 a b c xs) [.row true .str] [.obj 0, .d (.int .i64), .d (.int .i64), .d (.int .i64)] xX (a,b,c,()) (xs,())).holds:=by
 refine holds_of (p:=
  let za:=(gV xs,())
  (∃(x:Unit),True/\(a=a/\b=b/\True)/\True)/\(∀x_0:Unit,((True)->((aC b)->((aC a)->(aC (b - a))/\(((decide (b - a<=(12:Int)))=true->(a=(0:Int)/\b=(↑(List.length xs):Int)/\List.length xs<=(12:Nat))/\((True)->(True/\za=za/\()=())))/\((decide (b - a<=(12:Int)))=false->(False)))))))) (by kernel_rfl) ?_
 dsimp -iota -proj -eta only
 dsimp only at hp
 refine ⟨(by simp_all),fun x_0 q_0 h0 h1=>⟨(by simp only [aC,aG] at *;omega),iE (fun h2=>⟨?a,fun h3 => ?b⟩) (fun h2=>(by omega))⟩⟩
 case a|b=>trivial
theorem Tryz.NN:cL Tryz.prog Tryz.B.eT Tryz.X 122 false (bM [.row true .str] [.obj 0, .d (.int .i64), .d (.int .i64), .d (.int .i64)] (fun a x=>a.1=0/\a.2.1=x.1.length/\x.1.length<=12) xX):=
 cn (X:=Tryz.X) Tryz.Lg Tryz.func122 (by kernel_rfl) (fun (a:CD [.obj 0, .d (.int .i64), .d (.int .i64), .d (.int .i64)]) (x:PD [.row true .str])=>I9 a.1 a.2.1 a.2.2.1 x.1) (fun (a:CD [.obj 0, .d (.int .i64), .d (.int .i64), .d (.int .i64)]) (x:PD [.row true .str]) hw hp=>NM a.1 a.2.1 a.2.2.1 x.1 hw hp)
noncomputable def Tryz.Ja:List (FuncId × (Bool × bQ)):=[(122,(false,bM [.row true .str] [.obj 0, .d (.int .i64), .d (.int .i64), .d (.int .i64)] (fun a x=>a.1=0/\a.2.1=x.1.length/\x.1.length<=12) xX)),
 (123,(true,fJ [.int .u64] [.int .i64] (fun x=>0<=x/\x<=100) (fun _ _=>True)))]
theorem Tryz.Lh:bU Tryz.prog Tryz.B Tryz.X Tryz.Ja:=
 aS (Tryz.NN) (aS (dj Tryz.NL) (bY Tryz.bZ))
def sortAlts:List (Alt [.row true .str] [.obj 0]):=[{bV:=[.row true .str],res:=[],out:=fun _ x=>(gV x.1,()),ret:=fun _ _=>()}]
theorem MC (xs:List (List UInt8)) (hw:hP [.obj 0] ()) (hp:(fun _ x=>x.1.length<=12) () (xs,())):(dR Tryz.B Tryz.Ja Tryz.f96 [] [.row true .str] [.obj 0] sortAlts () (xs,())).holds:=by
 refine holds_of (p:=
  let za:=List.length xs
  let zb:=(↑za:Int)
  let zc:=(gV xs,())
  ((za<=aG)->((0:Int)<=IntKind.wrap IntKind.u64 zb/\IntKind.wrap IntKind.u64 zb<=(100:Int))/\(∀x_0:Int,((True)->((0:Int)=(0:Int)/\zb=zb/\za<=(12:Nat))/\((True)->(True/\zc=zc/\()=())))))) (by kernel_rfl) ?_
 dsimp -iota -proj -eta only
 dsimp only at hp
 refine fun h0=>⟨(by rw [xO (by omega) (by omega)];omega),fun x_0 q_0=>⟨?a,fun h1 => ?b⟩⟩
 case a|b=>trivial
theorem Tryz.MD:cL Tryz.prog Tryz.B.eT Tryz.X 96 false (bM [.row true .str] [.obj 0] (fun _ x=>x.1.length<=12) sortAlts):=
 cn (X:=Tryz.X) Tryz.Lh Tryz.func96 (by kernel_rfl) (fun (a:CD [.obj 0]) (x:PD [.row true .str])=>[]) (fun (a:CD [.obj 0]) (x:PD [.row true .str]) hw hp=>MC x.1 hw hp)
end Go.Proofs.YtgokjhhcfemnhaaGreatDoor

namespace Go.Proofs.YtgokjhhcfemnhaaGreatDoor
open Go.Vg Go.Mrl
@[reducible] def Tryz.bw:List Ob:=[.box 172 [.obj 1, .d (.int .i64)], .ext 1 (fE cO)]
noncomputable def Tryz.vG:List (FuncId × (Bool × bQ)):=[(87,(true,aM [.str] [.err] (fun _=>True) (fun s=>aY (aK s)))),
 (94,(true,aM [.str] [.int .i64] (fun _=>True) (fun s=>aK s))),
 (9,(true,aM [.err, .int .i64] [.bool] (fun _=>True) (fun x=>cG x.1 x.2))),
 (96,(false,bM [.row true .str] [.obj 0] (fun _ x=>x.1.length<=12) sortAlts))]
theorem Tryz.xl:bU Tryz.prog Tryz.B Tryz.X Tryz.vG:=
 aS (aE Tryz.fM) (aS (aE Tryz.dz) (aS (aE Tryz.gv) (aS (Tryz.MD) (bY Tryz.bZ))))
def Tryz.tT:List (Alt [] []):=[{bV:=Tryz.bw,res:=[.obj 0],out:=fun _ _=>tH,ret:=fun _ _=>()}]
theorem ME  (hw:hP [] ()):(dR Tryz.B [] Tryz.f58 [] [] [] Tryz.tT () ()).holds:=by
 refine holds_of (p:=
  (True/\(((0:Int),()),([],(0:Int),()),())=tH/\()=())) (by kernel_rfl) ?_
 exact ⟨trivial,rfl,rfl⟩
theorem Tryz.FB:cL Tryz.prog Tryz.B.eT Tryz.X 58 false (bM [] [] (fun _ _=>True) Tryz.tT):=
 cn (X:=Tryz.X) (bY Tryz.bZ) Tryz.func58 (by kernel_rfl) (fun (a:CD []) (x:PD [])=>[]) (fun (a:CD []) (x:PD []) hw hp=>ME  hw)
def Tryz.oS:List (Alt Tryz.bw [.obj 0, .d .str]):=[{bV:=Tryz.bw,res:=[.d .str, .d (.int .i64), .d .err],out:=fun _ x=>x,ret:=fun a x=>((bS x a.1).1,(bS x a.1).2.1,aY (bS x a.1).2.2,())}]
theorem Li (s:List UInt8) (f:ft) (hw:hP [.obj 0, .d .str] (s,())):(dR Tryz.B [] Tryz.f64 [] Tryz.bw [.obj 0, .d .str] Tryz.oS (s,()) f).holds:=by
 refine holds_of (p:=
  let za:=Ty.prod Ty.str (Ty.prod (Ty.int IntKind.i64) Ty.unit)
  let zb:=(bS f s).2
  let zc:=((bS f s).1,zb.1,aY zb.2,())
  let zd:=lh za f.2.1.1 s
  (((!dy za f.2.1.1 s)=true->(True/\f=f/\([],(0:Int),bB.no (5:Int),())=zc))/\((!dy za f.2.1.1 s)=false->(True/\f=f/\(zd.1,zd.2.1,bB.nil,())=zc)))) (by kernel_rfl) ?_
 dsimp -iota -proj -eta only
 refine ⟨fun h0 => ?a,fun h0 => ?b⟩
 case a=>
  simp only [bl,reduceCtorEq] at h0
  exact ⟨trivial,rfl,by rw [oI h0];rfl⟩
 case b=>
  simp only [bl,reduceCtorEq] at h0
  exact ⟨trivial,rfl,by rw [qM h0];rfl⟩
theorem Tryz.CK:cL Tryz.prog Tryz.B.eT Tryz.X 64 false (bM Tryz.bw [.obj 0, .d .str] (fun _ _=>True) Tryz.oS):=
 cn (X:=Tryz.X) (bY Tryz.bZ) Tryz.func64 (by kernel_rfl) (fun (a:CD [.obj 0, .d .str]) (x:PD Tryz.bw)=>[]) (fun (a:CD [.obj 0, .d .str]) (x:PD Tryz.bw) hw hp=>Li a.1 x hw)
def Tryz.mZ:List (Alt Tryz.bw [.obj 0, .d .str, .d .str]):=[{bV:=Tryz.bw,res:=[.d .err],out:=fun a x=>(dO x a.1 a.2.1).1,ret:=fun a x=>(aY (dO x a.1 a.2.1).2,())}]
theorem Jb (s:List UInt8) (t:List UInt8) (f:ft) (hw:hP [.obj 0, .d .str, .d .str] (s,t,())) (hp:(fun _ x=>x.2.1.1.length<=6/\0<=x.1.1/\x.1.1<=1000000) (s,t,()) f):(dR Tryz.B Tryz.vG Tryz.f59 [] Tryz.bw [.obj 0, .d .str, .d .str] Tryz.mZ (s,t,()) f).holds:=by
 refine holds_of (p:=
  let za:=aY (aK s)
  let zb:=dO f s t
  let zc:=f=zb.1
  let zd:=(aY zb.2,())
  let ze:=Ty.prod Ty.str (Ty.prod (Ty.int IntKind.i64) Ty.unit)
  let zf:=f.2.1.1
  let zg:=True/\zc/\(bB.no (8:Int),())=zd
  let zh:=f.1.1 + (1:Int)
  let zi:=(((f.1.1 == (1000000:Int))=true->(zg))/\((f.1.1 == (1000000:Int))=false->((aC f.1.1)->((aC (1:Int))->(aC zh)/\(List.length zf < aG)/\(True/\((zh,()),(eN ze zf s (t,zh,()) f.2.1.2.1,kH ze zf s f.2.1.2.1,()),())=zb.1/\(bB.nil,())=zd)))))
  (True)/\(((!bB.isNil za)=true->(True/\zc/\(za,())=zd))/\((!bB.isNil za)=false->((List.length t<=aG)->(((decide ((↑(List.length t):Int) > (1200:Int)))=true->(True/\zc/\(bB.no (2:Int),())=zd))/\((decide ((↑(List.length t):Int) > (1200:Int)))=false->(((!dy ze zf s)=true->((((↑(List.length zf):Int) == (6:Int))=true->(zg))/\(((↑(List.length zf):Int) == (6:Int))=false->(zi))))/\((!dy ze zf s)=false->(zi))))))))) (by kernel_rfl) ?_
 dsimp -iota -proj -eta only
 refine ⟨trivial,⟨fun h0 => ?a,fun h0 h1=>iL (fun h2 => ?b) (fun h2=>⟨fun h3=>iQ (fun h4 => ?c) (fun h4=>iQ (fun h5 => ?d) (fun h5 h6 h7=>⟨?e,?f,?g⟩)),fun h3=>iQ (fun h4 => ?h) (fun h4 h5 h6=>⟨?i,?j,?k⟩)⟩)⟩⟩
 case a=>
  simp only [bl,reduceCtorEq] at h0
  have hn:¬ aK s=0:=(fun e=>by rw [bL.2 e] at h0;cases h0)
  rw [sF hn];exact ⟨trivial,rfl,rfl⟩
 case b=>
  simp only [bl,reduceCtorEq] at h0
  rw [sG (bL.1 (by assumption)) (by omega)];exact ⟨trivial,rfl,rfl⟩
 case c|d|h=>
  simp only [bl,reduceCtorEq] at h0 h3
  rw [sH (bL.1 (by assumption)) (by omega) (by first | exact .inr (by omega) | exact .inl ⟨by assumption,by omega⟩)];exact ⟨trivial,rfl,rfl⟩
 case e|f|i|j=>
  simp only [bl,reduceCtorEq] at h0 h3
  simp only [aC,aG] at *;omega
 case g|k=>
  simp only [bl,reduceCtorEq] at h0 h3
  rw [wR (bL.1 (by assumption)) (by omega) (by rintro (⟨e1,e2⟩ | e);(first | omega | exact Bool.noConfusion (e1.symm.trans (show dy cO f.2.1.1 s=true by assumption)));omega)];exact ⟨trivial,rfl,rfl⟩
theorem Tryz.zL:cL Tryz.prog Tryz.B.eT Tryz.X 59 false (bM Tryz.bw [.obj 0, .d .str, .d .str] (fun _ x=>x.2.1.1.length<=6/\0<=x.1.1/\x.1.1<=1000000) Tryz.mZ):=
 cn (X:=Tryz.X) Tryz.xl Tryz.func59 (by kernel_rfl) (fun (a:CD [.obj 0, .d .str, .d .str]) (x:PD Tryz.bw)=>[]) (fun (a:CD [.obj 0, .d .str, .d .str]) (x:PD Tryz.bw) hw hp=>Jb a.1 a.2.1 x hw hp)
def Tryz.pn:List (Alt Tryz.bw [.obj 0, .d .str]):=[{bV:=Tryz.bw,res:=[.d .err],out:=fun a x=>(dU x a.1).1,ret:=fun a x=>(aY (dU x a.1).2,())}]
theorem Ha (s:List UInt8) (f:ft) (hw:hP [.obj 0, .d .str] (s,())):(dR Tryz.B [] Tryz.f62 [] Tryz.bw [.obj 0, .d .str] Tryz.pn (s,()) f).holds:=by
 refine holds_of (p:=
  let za:=Ty.prod Ty.str (Ty.prod (Ty.int IntKind.i64) Ty.unit)
  let zb:=dU f s
  let zc:=(aY zb.2,())
  (((!dy za f.2.1.1 s)=true->(True/\f=zb.1/\(bB.no (5:Int),())=zc))/\((!dy za f.2.1.1 s)=false->(True/\(f.1,(fG za f.2.1.1 s,f.2.1.2),())=zb.1/\(bB.nil,())=zc)))) (by kernel_rfl) ?_
 dsimp -iota -proj -eta only
 refine ⟨fun h0 => ?a,fun h0 => ?b⟩
 case a=>
  simp only [bl,reduceCtorEq] at h0
  rw [uy h0];exact ⟨trivial,rfl,rfl⟩
 case b=>
  simp only [bl,reduceCtorEq] at h0
  rw [sJ h0];exact ⟨trivial,rfl,rfl⟩
theorem Tryz.Hb:cL Tryz.prog Tryz.B.eT Tryz.X 62 false (bM Tryz.bw [.obj 0, .d .str] (fun _ _=>True) Tryz.pn):=
 cn (X:=Tryz.X) (bY Tryz.bZ) Tryz.func62 (by kernel_rfl) (fun (a:CD [.obj 0, .d .str]) (x:PD Tryz.bw)=>[]) (fun (a:CD [.obj 0, .d .str]) (x:PD Tryz.bw) hw hp=>Ha a.1 x hw)
def Tryz.CL (f:ft):cy:=[(200000,fun st=>{X:=List FE,inv:=fun x=>mg f.2.1.1 x,aW:=fun x=>(fq cO f.2.1.1 (x.map cr)).length,aQ:=fun x=>[],aU:=[2,9],aO:=[.row false .str],refs:=[(3,0)],pd:=fun x=>(x.map gn,()),aF:=fun x=>[(aR st 9,Nc st (aR st 9) (x.map cr))],dq:=[aR st 9]})]
def Tryz.th:List (Alt Tryz.bw [.obj 0]):=[{bV:=Tryz.bw++[.row false .str],res:=[.obj 2],out:=fun _ x=>(x.1,x.2.1,lz x,()),ret:=fun _ _=>()}]
theorem Lj (f:ft) (hw:hP [.obj 0] ()) (hp:(fun _ x=>x.2.1.1.length<=6/\(x.2.1.1.map cr).Nodup) () f):(dR (ir Tryz.B [3,17]) Tryz.vG Tryz.f66 (Tryz.CL f) Tryz.bw [.obj 0] Tryz.th () f).holds:=by
 refine holds_of (p:=
  let za:=f.2.1.1
  let zb:=C.du (1:Nat)=C.du (1:Nat)
  let zc:=f.2.1
  let zd:=zc.2.1=zc.2.1
  let ze:=@List.nil (List UInt8) = @List.nil (List UInt8)/\(zb/\f.1.1=f.1.1/\True)/\zc=zc/\True
  let zf:=!false
  let zg:=(zf && (zf && (zf && (zf && true))))=true
  let zh:=fun (x_0:List FE)=>fq cO zc.1 (List.map cr x_0)
  let zi:=fun (x_0:List FE) (x_1:List UInt8 × (List UInt8 × Int × Unit) × Int × Unit)=>List.map cr x_0++[x_1.2.2.1]
  let zj:=fun (x_0:List FE) (x_1:List UInt8 × (List UInt8 × Int × Unit) × Int × Unit)=>List.length [(ru cO zc.1 (lj (zi x_0 x_1))).1]
  (((∃(x':List FE),mg za x'/\True/\True/\(((zb/\True)/\@List.nil Int=List.map cr x'/\zd)/\ze)/\zg/\([],())=(List.map gn x',())))/\((∀x_0:List FE,((mg za x_0)->(zd)/\((((zh x_0 = @List.nil (List UInt8 × (List UInt8 × Int × Unit) × Int × Unit))->(List.length (List.map gn x_0)<=(12:Nat))/\((True)->(True/\(f.1,zc,gV (List.map gn x_0),())=(f.1,zc,lz f,())/\()=()))))/\((∀x_1:List UInt8 × (List UInt8 × Int × Unit) × Int × Unit,((x_1∈zh x_0)->(zd)/\(zi x_0 x_1≠@List.nil Int)/\(mO cO zc.1 (lj (zi x_0 x_1))=true)/\((0:Nat) < zj x_0 x_1/\List.length (List.map gn x_0) + zj x_0 x_1<=(1000000000:Nat))/\(∃(x':List FE),mg za x'/\List.length (fq cO za (List.map cr x')) < List.length (fq cO za (List.map cr x_0))/\True/\(((zb/\True)/\zi x_0 x_1=List.map cr x'/\zd)/\ze)/\zg/\(List.map gn x_0++[(ru cO zc.1 (lj (zi x_0 x_1))).1],())=(List.map gn x',()))))))))))) (by kernel_rfl) ?_
 dsimp -iota -proj -eta only
 exact ⟨(⟨[],⟨by simp,by simp⟩,trivial,trivial,⟨⟨⟨rfl,trivial⟩,rfl,rfl⟩,rfl,⟨rfl,rfl,trivial⟩,rfl,trivial⟩,rfl,rfl⟩),fun x_0 q_0=>⟨rfl,⟨fun h0=>⟨(by have:=B3 q_0.sub q_0.nodup;rw [List.length_map];omega),fun h1=>(by exact ⟨trivial,by rw [B4 q_0 hp.2 (by assumption)];rfl,rfl⟩)⟩,fun x_1 q_1=>⟨rfl,(by simp_all),(by rw [wS];exact (at_mem hp.2 (List.mem_filter.1 q_1).1).2),(by have:=B3 q_0.sub q_0.nodup;simp only [List.length_map,List.length_singleton];omega),(by exact ⟨x_0++[x_1],q_0.more q_1,by rw [List.map_append];exact Ix q_1,trivial,⟨⟨⟨rfl,trivial⟩,by rw [List.map_append];rfl,rfl⟩,rfl,⟨rfl,rfl,trivial⟩,rfl,trivial⟩,rfl,by rw [wS,List.map_append,show ru cO f.2.1.1 x_1.2.2.1=x_1 from (at_mem hp.2 (List.mem_filter.1 q_1).1).1];rfl⟩)⟩⟩⟩⟩
theorem Tryz.Lk:cL Tryz.prog Tryz.B.eT Tryz.X 66 false (bM Tryz.bw [.obj 0] (fun _ x=>x.2.1.1.length<=6/\(x.2.1.1.map cr).Nodup) Tryz.th):=
 cn (B:=(ir Tryz.B [3,17])) (X:=Tryz.X) (bU.hint (l:=[3,17]) Tryz.xl) Tryz.func66 (by kernel_rfl) (fun (a:CD [.obj 0]) (x:PD Tryz.bw)=>Tryz.CL x) (fun (a:CD [.obj 0]) (x:PD Tryz.bw) hw hp=>Lj x hw hp)
end Go.Proofs.YtgokjhhcfemnhaaGreatDoor

namespace Go.Proofs.YtgokjhhcfemnhaaGreatDoor
open Go.Shelf
def Tryz.Ea:Go.Shelf.Ren:=⟨fun | 103=>124 | 210=>154 | 206=>177 | n=>n,fun | 9=>9 | 4=>4 | 24=>219 | 3=>3 | n=>n,fun | n=>n⟩
theorem Tryz.MF:Go.Proofs.Lays.n103 Tryz.prog Tryz.Ea:={
 mixed:=by kernel_rfl
 f103:=Tryz.func124.trans (congrArg some (by kernel_rfl))
 f206:=Tryz.func177.trans (congrArg some (by kernel_rfl))
 f210:=Tryz.func154.trans (congrArg some (by kernel_rfl))
 t3:=Tryz.underlying3
 a3:=Tryz.isAgg3
 z3:=Tryz.sizeOf3
 v3:=Tryz.zeroValue3
 t4:=Tryz.underlying4
 a4:=Tryz.isAgg4
 z4:=Tryz.sizeOf4
 v4:=Tryz.zeroValue4
 t9:=Tryz.underlying9
 a9:=Tryz.isAgg9
 z9:=Tryz.sizeOf9
 v9:=Tryz.zeroValue9
 t24:=Tryz.underlying219
 a24:=Tryz.isAgg219
 z24:=Tryz.sizeOf219
 v24:=Tryz.zeroValue219}
open Go.RowKit in
theorem Tryz.strings_CutPrefix (s p:ByteArray) (w:World) :
  Calls Tryz.prog 124 #[.string s, .string p] w fun e w'=>e = .returned (.tuple #[.string ⟨(Lib.trimPrefix s.data.toList p.data.toList).toArray⟩, .bool (Lib.hasPrefix s.data.toList p.data.toList)])/\w'=w:=Any.strings_CutPrefix Tryz.MF s p w
def Tryz.CM:Go.Shelf.Ren:=⟨fun | 171=>118 | 243=>141 | 246=>169 | 283=>185 | 284=>186 | 285=>187 | 286=>188 | 129=>153 | 317=>193 | 318=>194 | 319=>195 | 320=>196 | 337=>197 | 338=>198 | n=>n,fun | 3=>3 | 9=>9 | 2=>2 | 4=>4 | 171=>271 | 0=>0 | 53=>39 | 37=>153 | 5=>5 | 173=>273 | 212=>283 | 51=>205 | 20=>20 | 213=>284 | 46=>150 | 232=>285 | 233=>286 | n=>n,fun | 17=>5 | 18=>6 | 19=>7 | n=>n⟩
theorem Tryz.Ll:Go.Proofs.LaysM.n171 Tryz.prog Tryz.CM:={
 mixed:=by kernel_rfl
 f129:=Tryz.func153.trans (congrArg some (by kernel_rfl))
 f171:=Tryz.func118.trans (congrArg some (by kernel_rfl))
 f243:=Tryz.func141.trans (congrArg some (by kernel_rfl))
 f246:=Tryz.func169.trans (congrArg some (by kernel_rfl))
 f283:=Tryz.func185.trans (congrArg some (by kernel_rfl))
 f284:=Tryz.func186.trans (congrArg some (by kernel_rfl))
 f285:=Tryz.func187.trans (congrArg some (by kernel_rfl))
 f286:=Tryz.func188.trans (congrArg some (by kernel_rfl))
 f317:=Tryz.func193.trans (congrArg some (by kernel_rfl))
 f318:=Tryz.func194.trans (congrArg some (by kernel_rfl))
 f319:=Tryz.func195.trans (congrArg some (by kernel_rfl))
 f320:=Tryz.func196.trans (congrArg some (by kernel_rfl))
 f337:=Tryz.func197.trans (congrArg some (by kernel_rfl))
 f338:=Tryz.func198.trans (congrArg some (by kernel_rfl))
 t0:=Tryz.underlying0
 a0:=Tryz.isAgg0
 z0:=Tryz.sizeOf0
 v0:=Tryz.zeroValue0
 t2:=Tryz.underlying2
 a2:=Tryz.isAgg2
 z2:=Tryz.sizeOf2
 v2:=Tryz.zeroValue2
 t3:=Tryz.underlying3
 a3:=Tryz.isAgg3
 z3:=Tryz.sizeOf3
 v3:=Tryz.zeroValue3
 t4:=Tryz.underlying4
 a4:=Tryz.isAgg4
 z4:=Tryz.sizeOf4
 v4:=Tryz.zeroValue4
 t5:=Tryz.underlying5
 a5:=Tryz.isAgg5
 z5:=Tryz.sizeOf5
 v5:=Tryz.zeroValue5
 t9:=Tryz.underlying9
 a9:=Tryz.isAgg9
 z9:=Tryz.sizeOf9
 v9:=Tryz.zeroValue9
 t20:=Tryz.underlying20
 a20:=Tryz.isAgg20
 z20:=Tryz.sizeOf20
 v20:=Tryz.zeroValue20
 t37:=Tryz.underlying153
 a37:=Tryz.isAgg153
 z37:=Tryz.sizeOf153
 v37:=Tryz.zeroValue153
 t46:=Tryz.underlying150
 a46:=Tryz.isAgg150
 z46:=Tryz.sizeOf150
 v46:=Tryz.zeroValue150
 t51:=Tryz.underlying205
 a51:=Tryz.isAgg205
 z51:=Tryz.sizeOf205
 v51:=Tryz.zeroValue205
 t53:=Tryz.underlying39
 a53:=Tryz.isAgg39
 z53:=Tryz.sizeOf39
 v53:=Tryz.zeroValue39
 t171:=Tryz.underlying271
 a171:=Tryz.isAgg271
 z171:=Tryz.sizeOf271
 v171:=Tryz.zeroValue271
 t173:=Tryz.underlying273
 a173:=Tryz.isAgg273
 z173:=Tryz.sizeOf273
 v173:=Tryz.zeroValue273
 t212:=Tryz.underlying283
 a212:=Tryz.isAgg283
 z212:=Tryz.sizeOf283
 v212:=Tryz.zeroValue283
 t213:=Tryz.underlying284
 a213:=Tryz.isAgg284
 z213:=Tryz.sizeOf284
 t232:=Tryz.underlying285
 a232:=Tryz.isAgg285
 z232:=Tryz.sizeOf285
 v232:=Tryz.zeroValue285
 t233:=Tryz.underlying286
 a233:=Tryz.isAgg286
 z233:=Tryz.sizeOf286
 v233:=Tryz.zeroValue286
 g17:=by kernel_rfl
 g18:=by kernel_rfl
 g19:=by kernel_rfl
 i0:=by kernel_rfl
 i2:=by kernel_rfl
 i3:=by kernel_rfl
 i4:=by kernel_rfl
 i5:=by kernel_rfl
 i9:=by kernel_rfl
 i20:=by kernel_rfl
 i37:=by kernel_rfl
 i46:=by kernel_rfl
 i51:=by kernel_rfl
 i53:=by kernel_rfl
 i171:=by kernel_rfl
 i173:=by kernel_rfl
 i212:=by kernel_rfl
 i232:=by kernel_rfl
 i233:=by kernel_rfl
 m17:=by kernel_rfl
 m18:=by kernel_rfl
 m19:=by kernel_rfl}
open Go.RowKit Go.Sort Go.Lib in
theorem Tryz.strconv_Itoa (n:Int) (h0 : -9223372036854775808<=n) (h1:n<=9223372036854775807) (w:World) (htab:Lib.TabIs Tryz.prog w "internal/strconv.uint64pow10" .u64 Lib.pow10Tab) :
  Calls Tryz.prog 118 #[.int .i64 n] w fun e w'=>e = .returned (.string ⟨(Lib.itoa n).toArray⟩)/\∃k os,w'=grow (w.drewN k) os:=Any.strconv_Itoa Tryz.Ll n h0 h1 w htab
def Tryz.CN:Go.Shelf.Ren:=⟨fun | 172=>117 | 244=>139 | 245=>140 | 247=>164 | 279=>165 | 280=>166 | 281=>167 | 282=>168 | 287=>182 | 316=>183 | 171=>118 | 205=>184 | 321=>191 | 322=>192 | 243=>141 | 246=>169 | 283=>185 | 284=>186 | 285=>187 | 286=>188 | 129=>153 | 317=>193 | 318=>194 | 319=>195 | 320=>196 | 337=>197 | 338=>198 | n=>n,fun | 9=>9 | 3=>3 | 75=>27 | 76=>203 | 4=>4 | 5=>5 | 167=>244 | 37=>153 | 0=>0 | 85=>245 | 2=>2 | 168=>247 | 53=>39 | 175=>267 | 46=>150 | 210=>270 | 127=>233 | 145=>281 | 143=>279 | 21=>21 | 171=>271 | 173=>273 | 212=>283 | 51=>205 | 20=>20 | 213=>284 | 232=>285 | 233=>286 | 80=>215 | n=>n,fun | 15=>3 | 16=>4 | 17=>5 | 18=>6 | 19=>7 | n=>n⟩
theorem Tryz.vH:Go.Proofs.LaysC.n172 Tryz.prog Tryz.CN:={
 mixed:=by kernel_rfl
 f129:=Tryz.func153.trans (congrArg some (by kernel_rfl))
 f171:=Tryz.func118.trans (congrArg some (by kernel_rfl))
 f172:=Tryz.func117.trans (congrArg some (by kernel_rfl))
 f205:=Tryz.func184.trans (congrArg some (by kernel_rfl))
 f243:=Tryz.func141.trans (congrArg some (by kernel_rfl))
 f244:=Tryz.func139.trans (congrArg some (by kernel_rfl))
 f245:=Tryz.func140.trans (congrArg some (by kernel_rfl))
 f246:=Tryz.func169.trans (congrArg some (by kernel_rfl))
 f247:=Tryz.func164.trans (congrArg some (by kernel_rfl))
 f279:=Tryz.func165.trans (congrArg some (by kernel_rfl))
 f280:=Tryz.func166.trans (congrArg some (by kernel_rfl))
 f281:=Tryz.func167.trans (congrArg some (by kernel_rfl))
 f282:=Tryz.func168.trans (congrArg some (by kernel_rfl))
 f283:=Tryz.func185.trans (congrArg some (by kernel_rfl))
 f284:=Tryz.func186.trans (congrArg some (by kernel_rfl))
 f285:=Tryz.func187.trans (congrArg some (by kernel_rfl))
 f286:=Tryz.func188.trans (congrArg some (by kernel_rfl))
 f287:=Tryz.func182.trans (congrArg some (by kernel_rfl))
 f316:=Tryz.func183.trans (congrArg some (by kernel_rfl))
 f317:=Tryz.func193.trans (congrArg some (by kernel_rfl))
 f318:=Tryz.func194.trans (congrArg some (by kernel_rfl))
 f319:=Tryz.func195.trans (congrArg some (by kernel_rfl))
 f320:=Tryz.func196.trans (congrArg some (by kernel_rfl))
 f321:=Tryz.func191.trans (congrArg some (by kernel_rfl))
 f322:=Tryz.func192.trans (congrArg some (by kernel_rfl))
 f337:=Tryz.func197.trans (congrArg some (by kernel_rfl))
 f338:=Tryz.func198.trans (congrArg some (by kernel_rfl))
 t0:=Tryz.underlying0
 a0:=Tryz.isAgg0
 z0:=Tryz.sizeOf0
 v0:=Tryz.zeroValue0
 t2:=Tryz.underlying2
 a2:=Tryz.isAgg2
 z2:=Tryz.sizeOf2
 v2:=Tryz.zeroValue2
 t3:=Tryz.underlying3
 a3:=Tryz.isAgg3
 z3:=Tryz.sizeOf3
 v3:=Tryz.zeroValue3
 t4:=Tryz.underlying4
 a4:=Tryz.isAgg4
 z4:=Tryz.sizeOf4
 v4:=Tryz.zeroValue4
 t5:=Tryz.underlying5
 a5:=Tryz.isAgg5
 z5:=Tryz.sizeOf5
 v5:=Tryz.zeroValue5
 t9:=Tryz.underlying9
 a9:=Tryz.isAgg9
 z9:=Tryz.sizeOf9
 v9:=Tryz.zeroValue9
 t20:=Tryz.underlying20
 a20:=Tryz.isAgg20
 z20:=Tryz.sizeOf20
 v20:=Tryz.zeroValue20
 t21:=Tryz.underlying21
 a21:=Tryz.isAgg21
 z21:=Tryz.sizeOf21
 v21:=Tryz.zeroValue21
 t37:=Tryz.underlying153
 a37:=Tryz.isAgg153
 z37:=Tryz.sizeOf153
 v37:=Tryz.zeroValue153
 t46:=Tryz.underlying150
 a46:=Tryz.isAgg150
 z46:=Tryz.sizeOf150
 v46:=Tryz.zeroValue150
 t51:=Tryz.underlying205
 a51:=Tryz.isAgg205
 z51:=Tryz.sizeOf205
 v51:=Tryz.zeroValue205
 t53:=Tryz.underlying39
 a53:=Tryz.isAgg39
 z53:=Tryz.sizeOf39
 v53:=Tryz.zeroValue39
 t75:=Tryz.underlying27
 a75:=Tryz.isAgg27
 z75:=Tryz.sizeOf27
 v75:=Tryz.zeroValue27
 t76:=Tryz.underlying203
 a76:=Tryz.isAgg203
 z76:=Tryz.sizeOf203
 v76:=Tryz.zeroValue203
 t85:=Tryz.underlying245
 a85:=Tryz.isAgg245
 z85:=Tryz.sizeOf245
 v85:=Tryz.zeroValue245
 t127:=Tryz.underlying233
 a127:=Tryz.isAgg233
 z127:=Tryz.sizeOf233
 v127:=Tryz.zeroValue233
 t143:=Tryz.underlying279
 a143:=Tryz.isAgg279
 z143:=Tryz.sizeOf279
 v143:=Tryz.zeroValue279
 t145:=Tryz.underlying281
 a145:=Tryz.isAgg281
 z145:=Tryz.sizeOf281
 v145:=Tryz.zeroValue281
 t167:=Tryz.underlying244
 a167:=Tryz.isAgg244
 z167:=Tryz.sizeOf244
 v167:=Tryz.zeroValue244
 t168:=Tryz.underlying247
 a168:=Tryz.isAgg247
 z168:=Tryz.sizeOf247
 v168:=Tryz.zeroValue247
 t171:=Tryz.underlying271
 a171:=Tryz.isAgg271
 z171:=Tryz.sizeOf271
 v171:=Tryz.zeroValue271
 t173:=Tryz.underlying273
 a173:=Tryz.isAgg273
 z173:=Tryz.sizeOf273
 v173:=Tryz.zeroValue273
 t175:=Tryz.underlying267
 a175:=Tryz.isAgg267
 z175:=Tryz.sizeOf267
 v175:=Tryz.zeroValue267
 t210:=Tryz.underlying270
 a210:=Tryz.isAgg270
 z210:=Tryz.sizeOf270
 v210:=Tryz.zeroValue270
 t212:=Tryz.underlying283
 a212:=Tryz.isAgg283
 z212:=Tryz.sizeOf283
 v212:=Tryz.zeroValue283
 t213:=Tryz.underlying284
 a213:=Tryz.isAgg284
 z213:=Tryz.sizeOf284
 t232:=Tryz.underlying285
 a232:=Tryz.isAgg285
 z232:=Tryz.sizeOf285
 v232:=Tryz.zeroValue285
 t233:=Tryz.underlying286
 a233:=Tryz.isAgg286
 z233:=Tryz.sizeOf286
 v233:=Tryz.zeroValue286
 g15:=by kernel_rfl
 g16:=by kernel_rfl
 g17:=by kernel_rfl
 g18:=by kernel_rfl
 g19:=by kernel_rfl
 t80:=Tryz.underlying215
 a80:=Tryz.isAgg215
 z80:=Tryz.sizeOf215
 v80:=Tryz.zeroValue215
 i0:=by kernel_rfl
 i2:=by kernel_rfl
 i3:=by kernel_rfl
 i4:=by kernel_rfl
 i5:=by kernel_rfl
 i9:=by kernel_rfl
 i20:=by kernel_rfl
 i21:=by kernel_rfl
 i37:=by kernel_rfl
 i46:=by kernel_rfl
 i51:=by kernel_rfl
 i53:=by kernel_rfl
 i75:=by kernel_rfl
 i76:=by kernel_rfl
 i80:=by kernel_rfl
 i85:=by kernel_rfl
 i127:=by kernel_rfl
 i143:=by kernel_rfl
 i145:=by kernel_rfl
 i167:=by kernel_rfl
 i168:=by kernel_rfl
 i171:=by kernel_rfl
 i173:=by kernel_rfl
 i175:=by kernel_rfl
 i210:=by kernel_rfl
 i212:=by kernel_rfl
 i232:=by kernel_rfl
 i233:=by kernel_rfl
 m15:=by kernel_rfl
 m16:=by kernel_rfl
 m17:=by kernel_rfl
 m18:=by kernel_rfl
 m19:=by kernel_rfl
 c0:=by kernel_rfl
 c2:=by kernel_rfl
 c3:=by kernel_rfl
 c4:=by kernel_rfl
 c5:=by kernel_rfl
 c9:=by kernel_rfl
 c20:=by kernel_rfl
 c21:=by kernel_rfl
 c37:=by kernel_rfl
 c46:=by kernel_rfl
 c51:=by kernel_rfl
 c53:=by kernel_rfl
 c75:=by kernel_rfl
 c76:=by kernel_rfl
 c80:=by kernel_rfl
 c85:=by kernel_rfl
 c127:=by kernel_rfl
 c143:=by kernel_rfl
 c145:=by kernel_rfl
 c167:=by kernel_rfl
 c168:=by kernel_rfl
 c171:=by kernel_rfl
 c173:=by kernel_rfl
 c175:=by kernel_rfl
 c210:=by kernel_rfl
 c212:=by kernel_rfl
 c213:=by kernel_rfl
 c232:=by kernel_rfl
 c233:=by kernel_rfl}
open Go.RowKit in
theorem Tryz.strconv_Atoi_ok (s:ByteArray) (hmax:s.size<=9223372036854775806) (v:Int) (h:Lib.atoiAll s.data.toList = .ok v) (w:World) :
  Calls Tryz.prog 117 #[.string s] w fun e w'=>e = .returned (.tuple #[.int .i64 v, .nilIface])/\(w'=w\/∃t,w'=Lib.bytesWorld w 5 t):=Any.strconv_Atoi_ok Tryz.vH s hmax v h w
open Go.RowKit in
theorem Tryz.strconv_Atoi_syntax (s:ByteArray) (hlim:s.size<=281474976710656) (h:Lib.atoiAll s.data.toList=Go.Lib.NumEnd.syntax) (ev:Value) (w:World) (hv:w.cell? ⟨3,0,none⟩=some ev) (hev:ev = .nilIface\/∃te pe,ev = .iface te pe) :
  Calls Tryz.prog 117 #[.string s] w fun e w'=>∃N,e = .returned (.tuple #[.int .i64 (0), .iface 247 (.pointer (some ⟨N,0,none⟩))])/\w.heap.size<=N/\w'.heap[N]?=some (.cells #[.string ⟨#[65,116,111,105]⟩, .string s,ev] 270 (0,0))/\Below w.heap.size w w':=Any.strconv_Atoi_syntax Tryz.vH s hlim h ev w hv hev
open Go.RowKit in
theorem Tryz.strconv_Atoi_range (s:ByteArray) (hlim:s.size<=281474976710656) (h:Lib.atoiAll s.data.toList = .range) (ev:Value) (w:World) (hv:w.cell? ⟨4,0,none⟩=some ev) (hev:ev = .nilIface\/∃te pe,ev = .iface te pe) :
  Calls Tryz.prog 117 #[.string s] w fun e w'=>∃N,e = .returned (.tuple #[.int .i64 (Lib.atoiSat s.data.toList), .iface 247 (.pointer (some ⟨N,0,none⟩))])/\w.heap.size<=N/\w'.heap[N]?=some (.cells #[.string ⟨#[65,116,111,105]⟩, .string s,ev] 270 (0,0))/\Below w.heap.size w w':=Any.strconv_Atoi_range Tryz.vH s hlim h ev w hv hev
def Tryz.Eb:Go.Shelf.Ren:=⟨fun | 102=>82 | 209=>116 | 207=>138 | n=>n,fun | 9=>9 | 4=>4 | 3=>3 | n=>n,fun | n=>n⟩
theorem Tryz.MG:Go.Proofs.Lays.n102 Tryz.prog Tryz.Eb:={
 mixed:=by kernel_rfl
 f102:=Tryz.func82.trans (congrArg some (by kernel_rfl))
 f207:=Tryz.func138.trans (congrArg some (by kernel_rfl))
 f209:=Tryz.func116.trans (congrArg some (by kernel_rfl))
 t3:=Tryz.underlying3
 a3:=Tryz.isAgg3
 z3:=Tryz.sizeOf3
 v3:=Tryz.zeroValue3
 t4:=Tryz.underlying4
 a4:=Tryz.isAgg4
 z4:=Tryz.sizeOf4
 v4:=Tryz.zeroValue4
 t9:=Tryz.underlying9
 a9:=Tryz.isAgg9
 z9:=Tryz.sizeOf9
 v9:=Tryz.zeroValue9}
open Go.RowKit Go.Lib in
theorem Tryz.strings_TrimSuffix (s p:ByteArray) (w:World) (hs:s.size<=9223372036854775807) :
  Calls Tryz.prog 82 #[.string s, .string p] w fun e w'=>e = .returned (.string ⟨(Lib.trimSuffix s.data.toList p.data.toList).toArray⟩)/\w'=w:=Any.strings_TrimSuffix Tryz.MG s p w hs
def Tryz.Ec:Go.Shelf.Ren:=⟨fun | 146=>81 | 221=>80 | 268=>113 | 138=>114 | 143=>115 | 195=>134 | 197=>135 | 218=>136 | 219=>137 | 260=>159 | 217=>160 | 225=>161 | 224=>162 | 267=>163 | 266=>180 | 314=>181 | n=>n,fun | 9=>9 | 31=>54 | 3=>3 | 4=>4 | 0=>0 | 105=>228 | 21=>21 | 5=>5 | 46=>150 | 119=>262 | 139=>265 | 138=>264 | 146=>206 | 51=>205 | n=>n,fun | 1=>0 | 3=>1 | 4=>2 | n=>n⟩
theorem Tryz.MH:Go.Proofs.Lays.n146 Tryz.prog Tryz.Ec:={
 mixed:=by kernel_rfl
 f138:=Tryz.func114.trans (congrArg some (by kernel_rfl))
 f143:=Tryz.func115.trans (congrArg some (by kernel_rfl))
 f146:=Tryz.func81.trans (congrArg some (by kernel_rfl))
 f195:=Tryz.func134.trans (congrArg some (by kernel_rfl))
 f197:=Tryz.func135.trans (congrArg some (by kernel_rfl))
 f217:=Tryz.func160.trans (congrArg some (by kernel_rfl))
 f218:=Tryz.func136.trans (congrArg some (by kernel_rfl))
 f219:=Tryz.func137.trans (congrArg some (by kernel_rfl))
 f221:=Tryz.func80.trans (congrArg some (by kernel_rfl))
 f224:=Tryz.func162.trans (congrArg some (by kernel_rfl))
 f225:=Tryz.func161.trans (congrArg some (by kernel_rfl))
 f260:=Tryz.func159.trans (congrArg some (by kernel_rfl))
 f266:=Tryz.func180.trans (congrArg some (by kernel_rfl))
 f267:=Tryz.func163.trans (congrArg some (by kernel_rfl))
 f268:=Tryz.func113.trans (congrArg some (by kernel_rfl))
 f314:=Tryz.func181.trans (congrArg some (by kernel_rfl))
 t0:=Tryz.underlying0
 a0:=Tryz.isAgg0
 z0:=Tryz.sizeOf0
 v0:=Tryz.zeroValue0
 t3:=Tryz.underlying3
 a3:=Tryz.isAgg3
 z3:=Tryz.sizeOf3
 v3:=Tryz.zeroValue3
 t4:=Tryz.underlying4
 a4:=Tryz.isAgg4
 z4:=Tryz.sizeOf4
 v4:=Tryz.zeroValue4
 t5:=Tryz.underlying5
 a5:=Tryz.isAgg5
 z5:=Tryz.sizeOf5
 v5:=Tryz.zeroValue5
 t9:=Tryz.underlying9
 a9:=Tryz.isAgg9
 z9:=Tryz.sizeOf9
 v9:=Tryz.zeroValue9
 t21:=Tryz.underlying21
 a21:=Tryz.isAgg21
 z21:=Tryz.sizeOf21
 v21:=Tryz.zeroValue21
 t31:=Tryz.underlying54
 a31:=Tryz.isAgg54
 z31:=Tryz.sizeOf54
 v31:=Tryz.zeroValue54
 t46:=Tryz.underlying150
 a46:=Tryz.isAgg150
 z46:=Tryz.sizeOf150
 v46:=Tryz.zeroValue150
 t51:=Tryz.underlying205
 a51:=Tryz.isAgg205
 z51:=Tryz.sizeOf205
 v51:=Tryz.zeroValue205
 t105:=Tryz.underlying228
 a105:=Tryz.isAgg228
 z105:=Tryz.sizeOf228
 v105:=Tryz.zeroValue228
 t119:=Tryz.underlying262
 a119:=Tryz.isAgg262
 z119:=Tryz.sizeOf262
 t138:=Tryz.underlying264
 a138:=Tryz.isAgg264
 z138:=Tryz.sizeOf264
 v138:=Tryz.zeroValue264
 t139:=Tryz.underlying265
 a139:=Tryz.isAgg265
 z139:=Tryz.sizeOf265
 v139:=Tryz.zeroValue265
 t146:=Tryz.underlying206
 a146:=Tryz.isAgg206
 z146:=Tryz.sizeOf206
 v146:=Tryz.zeroValue206
 g1:=by kernel_rfl
 g3:=by kernel_rfl
 g4:=by kernel_rfl}
open Go.RowKit Go.Lib in
theorem Tryz.strings_Split (s sep:ByteArray) (m:Int) (w:World) (hs:s.size < 4294967281) (hm:w.cell? ⟨0,0,none⟩=some (.int .i64 m)) (h1:1<=sep.size) :
  Calls Tryz.prog 81 #[.string s, .string sep] w fun e w'=>
   e = .returned (.slice (some ⟨w.heap.size,0,none⟩) (Lib.countB s sep + 1) (Lib.countB s sep + 1))/\w'=w.alloc (.cells ((Lib.splitB sep 0 (Lib.countB s sep) s).map Value.string).toArray 9):=Any.strings_Split Tryz.MH (by kernel_rfl) s sep m w hs hm h1
end Go.Proofs.YtgokjhhcfemnhaaGreatDoor

namespace Go.Proofs.YtgokjhhcfemnhaaGreatDoor
open Go.Vg Go.Mrl
theorem Hc (w:World) (k:Nat) (os:Array Obj):Vg.Below w.heap.size w (Sort.grow (w.drewN k) os):=by
 refine ⟨rfl,rfl,?_,fun i hi => ?_⟩
 ·show w.heap.size<=(w.heap++os).size
  simp
 ·show (w.heap++os)[i]?=w.heap[i]?
  rw [Array.getElem?_append,if_pos hi]
theorem MI {eT:TypeId} {n:Int} {O:aH} {w:World} {v:Value} (h:VR eT (.int .i64) n O w v):v = .int .i64 n/\-9223372036854775808<=n/\n<=9223372036854775807:=by
 obtain ⟨h1,h2,h3⟩:=VR.one rfl h
 exact ⟨by simpa using h1,h2,h3⟩
theorem l6 {eT:TypeId} {s:List UInt8} {O:aH} {w:World} {v:Value} (h:VR eT .str s O w v):v = .string ⟨s.toArray⟩/\s.length<=aG:=by
 obtain ⟨h1,h2⟩:=VR.one rfl h
 exact ⟨by simpa using h1,h2⟩
theorem CO {eT:TypeId} {s:List UInt8} {O:aH} {w:World} (h:s.length<=aG):VR eT .str s O w (.string ⟨s.toArray⟩):=VR.cw rfl ⟨rfl,h⟩
theorem rj:∀(k u:Nat),u < 10 ^ (k + 1)->Lib.nDigits u<=k + 1
 | 0,u,h=>by rw [Lib.nDigits_small (by simpa using h)];exact Nat.le_refl _
 | k + 1,u,h=>by
  by_cases hu:u < 10
  ·rw [Lib.nDigits_small hu];omega
  ·rw [Lib.nDigits_big hu]
   have:=rj k (u / 10) (by rw [Nat.pow_succ] at h;omega)
   omega
theorem Lm {n:Int} (h0 : -9223372036854775808<=n) (h1:n<=9223372036854775807):(Lib.itoa n).length<=21:=by
 unfold Lib.itoa
 split
 ·rw [List.length_cons,Lib.decDigits_length]
  have:=rj 19 n.natAbs (by omega)
  omega
 ·rw [Lib.decDigits_length]
  have:=rj 19 n.toNat (by omega)
  omega
theorem Tryz.rk:bG Tryz.prog Tryz.B.eT Tryz.X 118 [.int .i64] [.str] (fun _=>True) (fun n y=>y=Lib.itoa n):=by
 refine ⟨⟨Tryz.f118,Tryz.func118,by kernel_rfl,by kernel_rfl⟩,fun O w n vs hG hO ha _ => ?_⟩
 obtain ⟨v,rfl,hv⟩:=ha
 obtain ⟨rfl,h0,h1⟩:=MI hv
 refine (Tryz.strconv_Itoa n h0 h1 w hG.pow).mono ?_
 rintro e w' ⟨rfl,k,os,rfl⟩
 exact ⟨[.string ⟨(Lib.itoa n).toArray⟩],Lib.itoa n,rfl,rfl,⟨_,rfl,CO (by have:=Lm h0 h1;unfold aG;omega)⟩,Hc w k os⟩
theorem Tryz.vI:bG Tryz.prog Tryz.B.eT Tryz.X 117 [.str] [.int .i64, .err] (fun s=>s.length<=281474976710656) (fun s y=>y=da s):=by
 refine ⟨⟨Tryz.f117,Tryz.func117,by kernel_rfl,by kernel_rfl⟩,fun O w s vs hG hO ha hs => ?_⟩
 obtain ⟨v,rfl,hv⟩:=ha
 obtain ⟨rfl,hl⟩:=l6 hv
 have hsz:(⟨s.toArray⟩:ByteArray).size=s.length:=by simp [ByteArray.size]
 have hsl:(⟨s.toArray⟩:ByteArray).data.toList=s:=by simp
 cases ha:Lib.atoiAll s with
 | ok n=>
  refine (Tryz.strconv_Atoi_ok ⟨s.toArray⟩ (by rw [hsz];omega) n (by rw [hsl];exact ha) w).mono ?_
  rintro e w' ⟨rfl,hw⟩
  obtain ⟨b0,b1⟩:=Lib.atoiAll_bounds ha
  refine ⟨[.int .i64 n, .nilIface],(n, .nil),rfl,by unfold da;rw [ha],⟨_,_,rfl,VR.cw rfl ⟨rfl,b0,b1⟩,⟨_,rfl,VR.cw rfl ⟨_,rfl,rfl⟩⟩⟩,?_⟩
  rcases hw with rfl | ⟨t,rfl⟩
  ·exact Vg.Below.refl _ _
  ·exact .of (Lib.bytesWorld_below _ _ _)
 | range=>
  obtain ⟨ev,hv,he⟩:=hG.Om
  obtain ⟨b0,b1⟩:=Lib.atoiSat_bounds s
  have hA:=Tryz.strconv_Atoi_range ⟨s.toArray⟩ (by rw [hsz];exact hs) (by rw [hsl];exact ha) ev w hv he
  rw [hsl] at hA
  refine hA.mono ?_
  rintro e w' ⟨N,rfl,_,_,hb⟩
  exact ⟨[.int .i64 (Lib.atoiSat s),_],(Lib.atoiSat s, .other),rfl,by unfold da;rw [ha],⟨_,_,rfl,VR.cw rfl ⟨rfl,b0,b1⟩,⟨_,rfl,VR.cw rfl ⟨_,rfl,_,_,rfl,by decide +kernel⟩⟩⟩, .of hb⟩
 | _=>
  obtain ⟨ev,hv,he⟩:=hG.Ol
  refine (Tryz.strconv_Atoi_syntax ⟨s.toArray⟩ (by rw [hsz];exact hs) (by rw [hsl];exact ha) ev w hv he).mono ?_
  rintro e w' ⟨N,rfl,_,_,hb⟩
  exact ⟨[.int .i64 0,_],(0, .other),rfl,by unfold da;rw [ha],⟨_,_,rfl,VR.cw rfl ⟨rfl,by decide,by decide⟩,⟨_,rfl,VR.cw rfl ⟨_,rfl,_,_,rfl,by decide +kernel⟩⟩⟩, .of hb⟩
theorem Tryz.nX:bG Tryz.prog Tryz.B.eT Tryz.X 124 [.str, .str] [.str, .bool] (fun _=>True) (fun x y=>y=(Lib.trimPrefix x.1 x.2,Lib.hasPrefix x.1 x.2)):=by
 refine ⟨⟨Tryz.f124,Tryz.func124,by kernel_rfl,by kernel_rfl⟩,fun O w x vs hG hO ha _ => ?_⟩
 obtain ⟨s,p⟩:=x
 obtain ⟨v,vs',rfl,hv,u,rfl,hu⟩:=ha
 obtain ⟨rfl,hl⟩:=l6 hv
 obtain ⟨rfl,_⟩:=l6 hu
 refine (Tryz.strings_CutPrefix ⟨s.toArray⟩ ⟨p.toArray⟩ w).mono ?_
 rintro e w' ⟨rfl,rfl⟩
 have hle:(Lib.trimPrefix s p).length<=s.length:=by unfold Lib.trimPrefix;split <;> simp
 exact ⟨[.string ⟨(Lib.trimPrefix s p).toArray⟩, .bool (Lib.hasPrefix s p)],_,rfl,rfl,⟨_,_,rfl,CO (Nat.le_trans hle hl),_,rfl,VR.cw rfl rfl⟩,Vg.Below.refl _ _⟩
theorem Tryz.mK:bG Tryz.prog Tryz.B.eT Tryz.X 82 [.str, .str] [.str] (fun _=>True) (fun x y=>y=Lib.trimSuffix x.1 x.2):=by
 refine ⟨⟨Tryz.f82,Tryz.func82,by kernel_rfl,by kernel_rfl⟩,fun O w x vs hG hO ha _ => ?_⟩
 obtain ⟨s,p⟩:=x
 obtain ⟨v,vs',rfl,hv,u,rfl,hu⟩:=ha
 obtain ⟨rfl,hl⟩:=l6 hv
 obtain ⟨rfl,_⟩:=l6 hu
 have hl:s.length<=aG:=hl
 have hsz:(⟨s.toArray⟩:ByteArray).size=s.length:=by simp [ByteArray.size]
 refine (Tryz.strings_TrimSuffix ⟨s.toArray⟩ ⟨p.toArray⟩ w (by rw [hsz];exact hl)).mono ?_
 rintro e w' ⟨rfl,rfl⟩
 have hle:(Lib.trimSuffix s p).length<=s.length:=by unfold Lib.trimSuffix;split <;> simp
 exact ⟨[.string ⟨(Lib.trimSuffix s p).toArray⟩],_,rfl,rfl,⟨_,rfl,CO (Nat.le_trans hle hl)⟩,Vg.Below.refl _ _⟩
theorem Tryz.vJ:bG Tryz.prog Tryz.B.eT Tryz.X 81 [.str, .str] [.slice .str] (fun x=>x.1.length < 4294967281/\x.2.length=1) (fun x y=>y=parts (L2 x.2) x.1):=by
 refine ⟨⟨Tryz.f81,Tryz.func81,by kernel_rfl,by kernel_rfl⟩,fun O w x vs hG hO ha hp => ?_⟩
 obtain ⟨s,p⟩:=x
 obtain ⟨hs,hp⟩:=hp
 obtain ⟨c,rfl⟩:∃c,p = [c]:=List.length_eq_one_iff.1 hp
 obtain ⟨v,vs',rfl,hv,u,rfl,hu⟩:=ha
 obtain ⟨rfl,hl⟩:=l6 hv
 obtain ⟨rfl,_⟩:=l6 hu
 obtain ⟨m,hm⟩:=hG.max
 have hsz:(⟨s.toArray⟩:ByteArray).size=s.length:=by simp [ByteArray.size]
 have h1:1<=(⟨#[c]⟩:ByteArray).size:=Nat.le_refl 1
 refine (Tryz.strings_Split ⟨s.toArray⟩ ⟨#[c]⟩ m w (by rw [hsz];exact hs) hm h1).mono ?_
 rintro e w' ⟨rfl,rfl⟩
 have hlen:=Lib.splitB_all ⟨#[c]⟩ h1 0 _ ⟨s.toArray⟩ rfl
 have hdat:=Lib.splitB_data ⟨#[c]⟩ 0 (Lib.countB ⟨s.toArray⟩ ⟨#[c]⟩) ⟨s.toArray⟩
 have hcb:=Lib.countB_le ⟨#[c]⟩ h1 _ ⟨s.toArray⟩ (Nat.le_refl _)
 have hd:(Lib.splitB ⟨#[c]⟩ 0 (Lib.countB ⟨s.toArray⟩ ⟨#[c]⟩) ⟨s.toArray⟩).map (·.data.toList)=parts c s:=by rw [hdat,<-nN,<-Lib.count_one]
 have hlf:(parts c s).length=Lib.countB ⟨s.toArray⟩ ⟨#[c]⟩ + 1:=by rw [<-hd,List.length_map,hlen]
 refine ⟨[_],parts c s,rfl,rfl,⟨_,rfl,VR.cw rfl ⟨_,rfl,?_, .inr ⟨w.heap.size,0,Lib.countB ⟨s.toArray⟩ ⟨#[c]⟩ + 1,by rw [hlf],by rw [hlf];exact Nat.le_refl _,fun i y hy => ?_⟩⟩⟩,(Vg.Below.refl _ w).alloc (Nat.le_refl _) _⟩
 ·rw [hlf];have hs:s.length < 4294967281:=hs;rw [hsz] at hcb;unfold aG;omega
 ·have hyl:=kL c s y (List.mem_of_getElem? hy)
  refine ⟨[.string ⟨y.toArray⟩],⟨rfl,Nat.le_trans hyl hl⟩,fun j u hj=>⟨?_,fun hh => ?_⟩⟩
  ·have hj0:j=0:=by
    rcases j with _ | j
    ·rfl
    ·simp at hj
   subst hj0
   simp at hj
   subst hj
   rw [<-hd,List.getElem?_map,Option.map_eq_some_iff] at hy
   obtain ⟨q,hq,rfl⟩:=hy
   have hh:(w.alloc (.cells ((Lib.splitB ⟨#[c]⟩ 0 (Lib.countB ⟨s.toArray⟩ ⟨#[c]⟩) ⟨s.toArray⟩).map Value.string).toArray 9)).heap[w.heap.size]?=some (.cells ((Lib.splitB ⟨#[c]⟩ 0 (Lib.countB ⟨s.toArray⟩ ⟨#[c]⟩) ⟨s.toArray⟩).map Value.string).toArray 9 (0,0)):=heap_alloc_new w _
   rw [Lib.cell_of_heap hh]
   simp only [Ty.size,Nat.mul_one,Nat.zero_add,Nat.add_zero,List.getElem?_toArray,List.getElem?_map,hq,Option.map_some]
  ·have:=hO _ _ hh
   simp at this
end Go.Proofs.YtgokjhhcfemnhaaGreatDoor

namespace Go.Proofs.YtgokjhhcfemnhaaGreatDoor
open Go.Vg Go.Mrl
@[reducible] def Tryz.nY:List Ob:=[.box 4 [.d .bool]]
@[reducible] def Tryz.kT:List Ob:=[.box 88 [.obj 1, .obj 2, .obj 3, .obj 4], .tok .str, .tok (.int .i64), .tok aI, .tok aJ, .box 4 [.d .bool]]
def Tryz.rl:List (Alt Tryz.nY [.d .str, .obj 0]):=[{bV:=Tryz.nY,res:=[.d (.int .i64)],out:=fun a x=>((x.1.1 || (dM a.1).isNone,()),()),ret:=fun a _=>((da a.1).1,())}]
noncomputable def Tryz.zM:List (FuncId × (Bool × bQ)):=[(118,(true,aM [.int .i64] [.str] (fun _=>True) (fun n=>Lib.itoa n))),
 (117,(true,aM [.str] [.int .i64, .err] (fun s=>s.length<=281474976710656) (fun s=>da s))),
 (124,(true,aM [.str, .str] [.str, .bool] (fun _=>True) (fun x=>(Lib.trimPrefix x.1 x.2,Lib.hasPrefix x.1 x.2)))),
 (82,(true,aM [.str, .str] [.str] (fun _=>True) (fun x=>Lib.trimSuffix x.1 x.2))),
 (81,(true,aM [.str, .str] [.slice .str] (fun x=>x.1.length < 4294967281/\x.2.length=1) (fun x=>parts (L2 x.2) x.1)))]
theorem Tryz.Ed:bU Tryz.prog Tryz.B Tryz.X Tryz.zM:=
 aS (aE Tryz.rk) (aS (aE Tryz.vI) (aS (aE Tryz.nX) (aS (aE Tryz.mK) (aS (aE Tryz.vJ) (bY Tryz.bZ)))))
theorem Hd (s:List UInt8) (b:Bool) (hw:hP [.d .str, .obj 0] (s,())) (hp:(fun a _=>a.1.length<=1000000) (s,()) ((b,()),())):(dR Tryz.B Tryz.zM Tryz.f125 [] Tryz.nY [.d .str, .obj 0] Tryz.rl (s,()) ((b,()),())).holds:=by
 refine holds_of (p:=
  let za:=((b || Option.isNone (dM s),()),())
  let zb:=((da s).1,())
  let zc:=True/\((true,()),())=za/\zb=zb
  (List.length s<=(281474976710656:Nat))/\(((b)=true->(zc))/\((b)=false->(((!bB.isNil (da s).2)=true->(zc))/\((!bB.isNil (da s).2)=false->(True)/\(True/\((!Lib.itoa (da s).1 == s,()),())=za/\zb=zb)))))) (by kernel_rfl) ?_
 dsimp -iota -proj -eta only
 dsimp only at hp
 refine ⟨(by omega),⟨fun h0=>(by simp_all),fun h0=>⟨fun h1 => ?a,fun h1=>⟨trivial,?b⟩⟩⟩⟩
 case a=>
  simp only [bl,reduceCtorEq] at h1
  exact ⟨trivial,by rw [yO,h1];simp,rfl⟩
 case b=>
  simp only [bl,reduceCtorEq] at h1
  exact ⟨trivial,by rw [yO,h1];cases b <;> simp_all <;> (rw [Bool.eq_iff_iff];simp),rfl⟩
theorem Tryz.He:cL Tryz.prog Tryz.B.eT Tryz.X 125 false (bM Tryz.nY [.d .str, .obj 0] (fun a _=>a.1.length<=1000000) Tryz.rl):=
 cn (X:=Tryz.X) Tryz.Ed Tryz.func125 (by kernel_rfl) (fun (a:CD [.d .str, .obj 0]) (x:PD Tryz.nY)=>[]) (fun (a:CD [.d .str, .obj 0]) (x:PD Tryz.nY) hw hp=>Hd a.1 x.1.1 hw hp)
def Tryz.vK:List (Alt Tryz.kT [.obj 0, .d .str, .obj 5]):=[{bV:=Tryz.kT,res:=[],out:=fun a x=>IN (dQ (KP x) x.2.2.2.2.2.1.1 a.1),ret:=fun _ _=>()}]
end Go.Proofs.YtgokjhhcfemnhaaGreatDoor

namespace Go.Proofs.YtgokjhhcfemnhaaGreatDoor
open Go.Vg Go.Mrl
noncomputable def Tryz.FC:List (FuncId × (Bool × bQ)):=[(118,(true,aM [.int .i64] [.str] (fun _=>True) (fun n=>Lib.itoa n))),
 (117,(true,aM [.str] [.int .i64, .err] (fun s=>s.length<=281474976710656) (fun s=>da s))),
 (124,(true,aM [.str, .str] [.str, .bool] (fun _=>True) (fun x=>(Lib.trimPrefix x.1 x.2,Lib.hasPrefix x.1 x.2)))),
 (82,(true,aM [.str, .str] [.str] (fun _=>True) (fun x=>Lib.trimSuffix x.1 x.2))),
 (81,(true,aM [.str, .str] [.slice .str] (fun x=>x.1.length < 4294967281/\x.2.length=1) (fun x=>parts (L2 x.2) x.1))),
 (125,(false,bM Tryz.nY [.d .str, .obj 0] (fun a _=>a.1.length<=1000000) Tryz.rl))]
theorem Tryz.Jc:bU Tryz.prog Tryz.B Tryz.X Tryz.FC:=
 aS (aE Tryz.rk) (aS (aE Tryz.vI) (aS (aE Tryz.nX) (aS (aE Tryz.mK) (aS (aE Tryz.vJ) (aS (Tryz.He) (bY Tryz.bZ))))))
def FD (s:List UInt8) (_:List (List UInt8)) (_:List Int) (_:List (D aI)) (_:List (D aJ)) (_:Bool):cy:=[
 (300001,fun st=>{X:=List (List UInt8),inv:=fun w=>w=parts 32 (Lib.trimPrefix s cM),aW:=fun _=>0,aQ:=fun w=>[(7,sD (.slice .str) w)],aU:=[0,2,6]}),
 (300003,fun st=>{X:=Bool,inv:=fun c=>c=true ↔ (nth .str (aX (.slice .str) st 7) 0=dK/\List.length (aX (.slice .str) st 7)=2),aW:=fun _=>0,aQ:=fun c=>[(18,sB c)],aU:=[0,2,6,7]}),
 (300005,fun st=>{X:=Bool,inv:=fun c=>c=true ↔ (nth .str (aX (.slice .str) st 7) 0=dC/\List.length (aX (.slice .str) st 7)=2),aW:=fun _=>0,aQ:=fun c=>[(40,sB c)],aU:=[0,2,6,7]}),
 (300007,fun st=>{X:=Bool,inv:=fun c=>c=true ↔ (nth .str (aX (.slice .str) st 7) 0=cW/\List.length (aX (.slice .str) st 7)=3),aW:=fun _=>0,aQ:=fun c=>[(64,sB c)],aU:=[0,2,6,7]}),
 (300009,fun st=>{X:=Bool,inv:=fun c=>c=true ↔ (nth .str (aX (.slice .str) st 7) 0=fh/\List.length (aX (.slice .str) st 7)=3),aW:=fun _=>0,aQ:=fun c=>[(93,sB c)],aU:=[0,2,6,7]}),
 (300011,fun st=>{X:=Bool,inv:=fun c=>c=true ↔ ((nth .str (aX (.slice .str) st 7) 0=dV\/nth .str (aX (.slice .str) st 7) 0=eG)/\List.length (aX (.slice .str) st 7)=4),aW:=fun _=>0,aQ:=fun c=>[(123,sB c)],aU:=[0,2,6,7]})]
theorem Ln (s:List UInt8) (n:List (List UInt8)) (w:List Int) (y:List (D aI)) (t:List (D aJ)) (b:Bool) (hw:hP [.obj 0, .d .str, .obj 5] (s,())) (hp:(fun a x=>a.1.length<=1000000/\x.2.1.length<=1000000/\x.2.2.1.length<=1000000/\x.2.2.2.1.length<=1000000/\x.2.2.2.2.1.length<=1000000) (s,()) ((),n,w,y,t,(b,()),())):(dR Tryz.B Tryz.FC Tryz.f97 (FD s n w y t b) Tryz.kT [.obj 0, .d .str, .obj 5] Tryz.vK (s,()) ((),n,w,y,t,(b,()),())).holds:=by
 refine holds_of (p:=
  let za:=[(119:UInt8),101,97,107,32]
  let zb:=Lib.trimPrefix s za
  let zc:=parts (32:UInt8) (Lib.trimPrefix s cM)
  let zd:=n=n
  let ze:=w=w
  let zf:=y=y
  let zg:=t=t
  let zh:=(zd/\ze/\zf/\zg/\True)/\zd/\ze/\zf/\zg/\(b=b/\True)/\True
  let zi:=fun (x_0:List (List UInt8))=>(↑(List.length x_0):Int)
  let zj:=fun (x_0:List (List UInt8))=>(0:Int)<=(0:Int)/\(0:Int) < zi x_0
  let zk:=fun (x_0:List (List UInt8))=>nth Ty.str x_0 (0:Nat)
  let zl:=fun (x_0:List (List UInt8))=>List.length x_0<=aG
  let zm:=fun (x_0:List (List UInt8))=>zk x_0=dK/\List.length x_0=(2:Nat)
  let zn:=fun (x_0:List (List UInt8))=>(0:Int)<=(1:Int)/\(1:Int) < zi x_0
  let zo:=fun (x_0:List (List UInt8))=>nth Ty.str x_0 (1:Nat)
  let zp:=(w,y,t,(b,()),())
  let zq:=IN (dQ (KP ((),n,zp)) b s)
  let zr:=()=()
  let zs:=fun (x_0:List (List UInt8))=>zk x_0=dC/\List.length x_0=(2:Nat)
  let zt:=fun (x_0:List (List UInt8))=>List.length (zo x_0)<=(1000000:Nat)
  let zu:=fun (x_0:List (List UInt8))=>(da (zo x_0)).1
  let zv:=fun (x_0:List (List UInt8))=>zk x_0=cW/\List.length x_0=(3:Nat)
  let zw:=fun (x_0:List (List UInt8))=>(0:Int)<=(2:Int)/\(2:Int) < zi x_0
  let zx:=fun (x_0:List (List UInt8))=>nth Ty.str x_0 (2:Nat)
  let zy:=fun (x_0:List (List UInt8))=>List.length (zx x_0)<=(1000000:Nat)
  let zz:=(Lib.hasPrefix s za,())
  let zaa:=fun (x_0:List (List UInt8))=>[(zo x_0,(da (zx x_0)).1,zz)]
  let zab:=fun (x_0:List (List UInt8))=>zk x_0=fh/\List.length x_0=(3:Nat)
  let zac:=List.length t
  let zad:=fun (x_0:List (List UInt8))=>[(zu x_0,(1:Int),(da (zx x_0)).1,@List.nil UInt8,false,())]
  let zae:=fun (x_0:List (List UInt8))=>((b || Option.isNone (dM (zo x_0)) || Option.isNone (dM (zx x_0)),()),())
  let zaf:=fun (x_0:List (List UInt8))=>(zy x_0)/\((True)->(zg/\zac + List.length (zad x_0)<=(1000000000:Nat))/\(zd/\ze/\zf/\t++zad x_0=t++zad x_0/\True/\((),n,w,y,t++zad x_0,zae x_0)=zq/\zr))
  let zag:=fun (x_0:List (List UInt8))=>(zk x_0=dV\/zk x_0=eG)/\List.length x_0=(4:Nat)
  let zah:=fun (x_0:List (List UInt8))=>((zl x_0)->(∃(x':Bool),(x'=true ↔ zag x_0)/\((zi x_0 == (4:Int))=x'/\True)/\zh))
  let zai:=fun (x_0:List (List UInt8))=>zk x_0 == [(110:UInt8),101,97,114]
  let zaj:=fun (x_0:List (List UInt8))=>(0:Int)<=(3:Int)/\(3:Int) < zi x_0
  let zak:=fun (x_0:List (List UInt8))=>((da (zx x_0)).1,nth Ty.str x_0 (3:Nat),zz)
  let zal:=fun (x_0:List (List UInt8))=>t++[(zu x_0,(3:Int),zak x_0)]
  let zam:=fun (x_0:List (List UInt8))=>(zy x_0)/\((True)->(zg/\zac + List.length [(zu x_0,(3:Int),zak x_0)]<=(1000000000:Nat))/\(zd/\ze/\zf/\zal x_0=zal x_0/\True/\((),n,w,y,zal x_0,zae x_0)=zq/\zr))
  let zan:=fun (x_0:List (List UInt8))=>t++[(zu x_0,(2:Int),zak x_0)]
  let zao:=fun (x_0:List (List UInt8))=>(zy x_0)/\((True)->(zg/\zac + List.length [(zu x_0,(2:Int),zak x_0)]<=(1000000000:Nat))/\(zd/\ze/\zf/\zan x_0=zan x_0/\True/\((),n,w,y,zan x_0,zae x_0)=zq/\zr))
  (True)/\(((List.length zb < (4294967281:Nat)/\List.length [(32:UInt8)]=(1:Nat))/\(∃(x':List (List UInt8)),x'=zc/\(parts (32:UInt8) zb=x'/\True)/\zh))/\((∀x_0:List (List UInt8),((x_0=zc)->(((zj x_0)/\(((zk x_0 == [(110:UInt8),101,101,100])=true->((zl x_0)->(∃(x':Bool),(x'=true ↔ zm x_0)/\((zi x_0 == (2:Int))=x'/\True)/\zh)))/\((zk x_0 == [(110:UInt8),101,101,100])=false->(∃(x':Bool),(x'=true ↔ zm x_0)/\(false=x'/\True)/\zh))))/\((∀x_1:Bool,((x_1=true ↔ zm x_0)->(((x_1)=true->(zn x_0)/\(zd/\List.length n + List.length [zo x_0]<=(1000000000:Nat))/\(n++[zo x_0]=n++[zo x_0]/\ze/\zf/\zg/\True/\((),n++[zo x_0],zp)=zq/\zr))/\((x_1)=false->(((zj x_0)/\(((zk x_0 == [(119:UInt8),111,114,100])=true->((zl x_0)->(∃(x':Bool),(x'=true ↔ zs x_0)/\((zi x_0 == (2:Int))=x'/\True)/\zh)))/\((zk x_0 == [(119:UInt8),111,114,100])=false->(∃(x':Bool),(x'=true ↔ zs x_0)/\(false=x'/\True)/\zh))))/\((∀x_2:Bool,((x_2=true ↔ zs x_0)->(((x_2)=true->(zn x_0)/\((fun a0:Prop=>a0/\a0) ((zt x_0)/\((True)->(ze/\List.length w + List.length [zu x_0]<=(1000000000:Nat))/\(zd/\w++[zu x_0]=w++[zu x_0]/\zf/\zg/\True/\((),n,w++[zu x_0],y,t,(b || Option.isNone (dM (zo x_0)),()),())=zq/\zr)))))/\((x_2)=false->(((zj x_0)/\(((zk x_0 == [(115:UInt8),121,109,98,111,108])=true->((zl x_0)->(∃(x':Bool),(x'=true ↔ zv x_0)/\((zi x_0 == (3:Int))=x'/\True)/\zh)))/\((zk x_0 == [(115:UInt8),121,109,98,111,108])=false->(∃(x':Bool),(x'=true ↔ zv x_0)/\(false=x'/\True)/\zh))))/\((∀x_3:Bool,((x_3=true ↔ zv x_0)->(((x_3)=true->(zn x_0)/\(zw x_0)/\((fun a0:Prop=>a0/\a0) ((zy x_0)/\((True)->(zf/\List.length y + List.length (zaa x_0)<=(1000000000:Nat))/\(zd/\ze/\y++zaa x_0=y++zaa x_0/\zg/\True/\((),n,w,y++zaa x_0,t,(b || Option.isNone (dM (zx x_0)),()),())=zq/\zr)))))/\((x_3)=false->(((zj x_0)/\(((zk x_0 == [(98:UInt8),97,115,101])=true->((zl x_0)->(∃(x':Bool),(x'=true ↔ zab x_0)/\((zi x_0 == (3:Int))=x'/\True)/\zh)))/\((zk x_0 == [(98:UInt8),97,115,101])=false->(∃(x':Bool),(x'=true ↔ zab x_0)/\(false=x'/\True)/\zh))))/\((∀x_4:Bool,((x_4=true ↔ zab x_0)->(((x_4)=true->(zn x_0)/\(zw x_0)/\(((zt x_0)/\((True)->(zaf x_0)))/\((zt x_0)/\((True)->((fun a0:Prop=>a0/\a0) ((zaf x_0)))))))/\((x_4)=false->(((zj x_0)/\(((zk x_0 == [(119:UInt8),104,111,108,101])=true->(zah x_0))/\((zk x_0 == [(119:UInt8),104,111,108,101])=false->(zj x_0)/\(((zai x_0)=true->(zah x_0))/\((zai x_0)=false->(∃(x':Bool),(x'=true ↔ zag x_0)/\(false=x'/\True)/\zh))))))/\((∀x_5:Bool,((x_5=true ↔ zag x_0)->(((x_5)=true->(zj x_0)/\(((zai x_0)=true->(zn x_0)/\(zw x_0)/\(zaj x_0)/\(((zt x_0)/\((True)->(zam x_0)))/\((zt x_0)/\((True)->((fun a0:Prop=>a0/\a0) ((zam x_0)))))))/\((zai x_0)=false->(zn x_0)/\(zw x_0)/\(zaj x_0)/\(((zt x_0)/\((True)->(zao x_0)))/\((zt x_0)/\((True)->((fun a0:Prop=>a0/\a0) ((zao x_0)))))))))/\((x_5)=false->(zd/\ze/\zf/\zg/\True/\((),n,w,y,t,(true,()),())=zq/\zr)))))))))))))))))))))))))))))))))))) (by kernel_rfl) ?_
 dsimp -iota -proj -eta only
 dsimp only at hp
 refine ⟨trivial,⟨⟨(by have:=Ck s [119,101,97,107,32];exact ⟨by omega,rfl⟩),(⟨_,rfl,⟨rfl,trivial⟩,(by trivial)⟩)⟩,fun x_0 q_0=>⟨⟨?a,iQ (fun h0 h1 => ?b) (fun h0 => ?c)⟩,fun x_1 q_1=>⟨fun h0=>⟨?d,?e,?f⟩,fun h0=>⟨⟨?g,iQ (fun h1 h2 => ?h) (fun h1 => ?i)⟩,fun x_2 q_2=>⟨fun h1=>⟨?j,(show ∀{a0:Prop},a0->a0/\a0 from fun g0=>⟨g0,g0⟩) (⟨?k,fun h2=>⟨?l,?m⟩⟩)⟩,fun h1=>⟨⟨?n,iQ (fun h2 h3 => ?o) (fun h2 => ?p)⟩,fun x_3 q_3=>⟨fun h2=>⟨?q,?r,(show ∀{a0:Prop},a0->a0/\a0 from fun g0=>⟨g0,g0⟩) (⟨?s,fun h3=>⟨?t,?u⟩⟩)⟩,fun h2=>⟨⟨?v,iQ (fun h3 h4 => ?w) (fun h3 => ?x)⟩,fun x_4 q_4=>⟨fun h3=>⟨?y,?z,⟨⟨?a0,fun h4=>⟨?a1,fun h5=>⟨?a2,?a3⟩⟩⟩,⟨?a4,fun h4=>(show ∀{a0:Prop},a0->a0/\a0 from fun g0=>⟨g0,g0⟩) (⟨?a5,fun h5=>⟨?a6,?a7⟩⟩)⟩⟩⟩,fun h3=>⟨⟨?a8,iQ (fun h4 h5 => ?a9) (fun h4=>⟨?aa,iQ (fun h5 h6 => ?ab) (fun h5 => ?ac)⟩)⟩,fun x_5 q_5=>⟨fun h4=>⟨?ad,iQ (fun h5=>⟨?ae,?af,?ag,⟨⟨?ah,fun h6=>⟨?ai,fun h7=>⟨?aj,?ak⟩⟩⟩,⟨?al,fun h6=>(show ∀{a0:Prop},a0->a0/\a0 from fun g0=>⟨g0,g0⟩) (⟨?am,fun h7=>⟨?an,?ao⟩⟩)⟩⟩⟩) (fun h5=>⟨?ap,?aq,?ar,⟨⟨?au,fun h6=>⟨?av,fun h7=>⟨?aw,?ax⟩⟩⟩,⟨?ay,fun h6=>(show ∀{a0:Prop},a0->a0/\a0 from fun g0=>⟨g0,g0⟩) (⟨?az,fun h7=>⟨?b0,?b1⟩⟩)⟩⟩⟩)⟩,fun h4 => ?b2⟩⟩⟩⟩⟩⟩⟩⟩⟩⟩⟩⟩
 case a|g|n|v|a8|aa|ad=>have:=KQ q_0;omega
 case b|c|h|i|o|p|w|x|a9|ab|ac=>exact ⟨_,by (simp_all <;> omega),⟨rfl,trivial⟩,(by trivial)⟩
 case d|j|q|r|y|z|ae|af|ag|ap|aq|ar=>simp_all
 case e|l|t|a2|a6|aj|an|aw|b0=>exact ⟨rfl,by simp only [List.length_singleton];omega⟩
 case f|m|u|a3|a7|ak|ao|ax|b1|b2=>
  refine ⟨rfl,rfl,rfl,rfl,trivial,?_,rfl⟩
  first
  | (rw [GO q_0 (q_1.1 (by assumption))];rfl)
  | (rw [GP q_0 (dW q_1 (by assumption)) (q_2.1 (by assumption))];rfl)
  | (rw [IP q_0 (dW q_1 (by assumption)) (dW q_2 (by assumption)) (q_3.1 (by assumption))];rfl)
  | (rw [GQ q_0 (dW q_1 (by assumption)) (dW q_2 (by assumption)) (dW q_3 (by assumption)) (q_4.1 (by assumption))];rfl)
  | (rw [zC q_0 (dW q_1 (by assumption)) (dW q_2 (by assumption)) (dW q_3 (by assumption)) (dW q_4 (by assumption)) (q_5.1 (by assumption)) (k:=3) (if_pos (by assumption)).symm];rfl)
  | (rw [zC q_0 (dW q_1 (by assumption)) (dW q_2 (by assumption)) (dW q_3 (by assumption)) (dW q_4 (by assumption)) (q_5.1 (by assumption)) (k:=2) (if_neg (by assumption)).symm];rfl)
  | (rw [GR q_0 (dW q_1 (by assumption)) (dW q_2 (by assumption)) (dW q_3 (by assumption)) (dW q_4 (by assumption)) (dW q_5 (by assumption))];rfl)
 case k|a0|a4|ah|al|au|ay=>have:=Fo q_0 1;omega
 case s|a1|a5|ai|am|av|az=>have:=Fo q_0 2;omega
theorem Tryz.Lo:cL Tryz.prog Tryz.B.eT Tryz.X 97 false (bM Tryz.kT [.obj 0, .d .str, .obj 5] (fun a x=>a.1.length<=1000000/\x.2.1.length<=1000000/\x.2.2.1.length<=1000000/\x.2.2.2.1.length<=1000000/\x.2.2.2.2.1.length<=1000000) Tryz.vK):=
 cn (X:=Tryz.X) Tryz.Jc Tryz.func97 (by kernel_rfl) (fun (a:CD [.obj 0, .d .str, .obj 5]) (x:PD Tryz.kT)=>FD a.1 x.2.1 x.2.2.1 x.2.2.2.1 x.2.2.2.2.1 x.2.2.2.2.2.1.1) (fun (a:CD [.obj 0, .d .str, .obj 5]) (x:PD Tryz.kT) hw hp=>Ln a.1 x.2.1 x.2.2.1 x.2.2.2.1 x.2.2.2.2.1 x.2.2.2.2.2.1.1 hw hp)
end Go.Proofs.YtgokjhhcfemnhaaGreatDoor

namespace Go.Proofs.YtgokjhhcfemnhaaGreatDoor
open Go.Vg Go.Mrl
theorem Lp (n:Int) (hw:c8 [.int .i64] n):(cp Tryz.B [] Tryz.f155 [] [.int .i64] [.bool] (fun x y=>y=(fun n=>dA n) x) n).holds:=by
 refine holds_of (p:=
  (((decide (n>=(-2147483648:Int)))=true->(decide (n<=(2147483647:Int))=dA n))/\((decide (n>=(-2147483648:Int)))=false->(false=dA n)))) (by kernel_rfl) ?_
 refine iE (fun h0 => ?a) (fun h0 => ?b)
 case a|b=>unfold dA;rw [Bool.eq_iff_iff];simp;omega
theorem Tryz.CP:bG Tryz.prog Tryz.B.eT Tryz.X 155 [.int .i64] [.bool] (fun _=>True) (fun x y=>y=(fun n=>dA n) x):=
 bI (X:=Tryz.X) (bY Tryz.bZ) Tryz.func155 (by kernel_rfl) (fun _=>[]) (fun x hw hp=>Lp x hw)
theorem Ee (n:Int) (hw:c8 [.int .i64] n):(cp Tryz.B [] Tryz.f95 [] [.int .i64] [.bool] (fun x y=>y=(fun n=>dA n) x) n).holds:=by
 refine holds_of (p:=
  (((decide (n>=(-2147483648:Int)))=true->(decide (n<=(2147483647:Int))=dA n))/\((decide (n>=(-2147483648:Int)))=false->(false=dA n)))) (by kernel_rfl) ?_
 refine iE (fun h0 => ?a) (fun h0 => ?b)
 case a|b=>unfold dA;rw [Bool.eq_iff_iff];simp;omega
theorem Tryz.Ef:bG Tryz.prog Tryz.B.eT Tryz.X 95 [.int .i64] [.bool] (fun _=>True) (fun x y=>y=(fun n=>dA n) x):=
 bI (X:=Tryz.X) (bY Tryz.bZ) Tryz.func95 (by kernel_rfl) (fun _=>[]) (fun x hw hp=>Ee x hw)
def zN (l:List (List UInt8)) (s:List UInt8):cy:=[(0,fun st=>{X:=Nat,inv:=fun i=>i<=l.length/\∀j,j < i->nth .str l j≠s,aW:=fun i=>l.length - i,aQ:=fun i=>[(8,sI i)],aU:=[0,1,7]})]
theorem Jd (l:List (List UInt8)) (s:List UInt8) (hw:c8 [.slice .str, .str] (l,s)):(cp Tryz.B [] Tryz.f99 (zN l s) [.slice .str, .str] [.int .i64] (fun x y=>(y = -1/\∀j,j < x.1.length->nth .str x.1 j≠x.2)\/(0<=y/\y.toNat < x.1.length/\nth .str x.1 y.toNat=x.2)) (l,s)).holds:=by
 refine holds_of (p:=
  let za:=List.length l
  let zb:=(-1:Int)
  let zc:=∀(j:Nat),j < za->nth Ty.str l j≠s
  ((za<=aG)->(∃(x:Nat),(x<=za/\∀(j:Nat),j < x->nth Ty.str l j≠s)/\((0:Int)=(↑x:Int)/\True)/\True)/\(∀x_0:Nat,((x_0<=za/\∀(j:Nat),j < x_0->nth Ty.str l j≠s)->(((decide ((↑x_0:Int) < (↑za:Int)))=true->((0:Int)<=(↑x_0:Int)/\(↑x_0:Int) < (↑za:Int))/\(((s == nth Ty.str l x_0)=true->((↑x_0:Int)=zb/\zc\/(0:Int)<=(↑x_0:Int)/\x_0 < za/\nth Ty.str l x_0=s))/\((s == nth Ty.str l x_0)=false->((aC (↑x_0:Int))->((aC (1:Int))->(aC ((↑x_0:Int) + (1:Int)))/\(∃(x':Nat),(x'<=za/\∀(j:Nat),j < x'->nth Ty.str l j≠s)/\za - x' < za - x_0/\((↑x_0:Int) + (1:Int)=(↑x':Int)/\True)/\True))))))/\((decide ((↑x_0:Int) < (↑za:Int)))=false->(zb=zb/\zc\/(0:Int)<=zb/\Int.toNat zb < za/\nth Ty.str l (Int.toNat zb)=s))))))) (by kernel_rfl) ?_
 dsimp -iota -proj -eta only
 exact fun h0=>⟨(⟨0,⟨by omega,fun j hj=>by omega⟩,⟨rfl,trivial⟩,trivial⟩),fun x_0 q_0=>iL (fun h1=>⟨(by omega),iQ (fun h2=>(by simp_all)) (fun h2 h3 h4=>⟨(by simp only [aC,aG] at *;omega),(⟨x_0 + 1,⟨by omega,ja q_0.2 fun e=>(by assumption:¬ _) e.symm⟩,by omega,⟨by omega,trivial⟩,(by trivial)⟩)⟩)⟩) (fun h1=>(.inl ⟨rfl,fun j hj=>q_0.2 j (by omega)⟩))⟩
theorem Tryz.Je:bG Tryz.prog Tryz.B.eT Tryz.X 99 [.slice .str, .str] [.int .i64] (fun _=>True) (fun x y=>(y = -1/\∀j,j < x.1.length->nth .str x.1 j≠x.2)\/(0<=y/\y.toNat < x.1.length/\nth .str x.1 y.toNat=x.2)):=
 bI (X:=Tryz.X) (bY Tryz.bZ) Tryz.func99 (by kernel_rfl) (fun x=>zN x.1 x.2) (fun x hw hp=>Jd x.1 x.2 hw)
noncomputable def Tryz.zO:List (FuncId × (Bool × bQ)):=[(99,(true,fJ [.slice .str, .str] [.int .i64] (fun _=>True) (fun x y=>(y = -1/\∀j,j < x.1.length->nth .str x.1 j≠x.2)\/(0<=y/\y.toNat < x.1.length/\nth .str x.1 y.toNat=x.2))))]
theorem Tryz.Eg:bU Tryz.prog Tryz.B Tryz.X Tryz.zO:=
 aS (dj Tryz.Je) (bY Tryz.bZ)
theorem CQ (l:List (List UInt8)) (s:List UInt8) (hw:c8 [.slice .str, .str] (l,s)):(cp Tryz.B Tryz.zO Tryz.f69 [] [.slice .str, .str] [.bool] (fun x y=>y=(fun x=>x.1.any (· == x.2)) x) (l,s)).holds:=by
 refine holds_of (p:=
  (True)/\(∀x_0:Int,(((x_0=(-1:Int)/\∀(j:Nat),j < List.length l->nth Ty.str l j≠s)\/(0:Int)<=x_0/\Int.toNat x_0 < List.length l/\nth Ty.str l (Int.toNat x_0)=s)->(decide (x_0>=(0:Int))=List.any l fun (x:List UInt8)=>x == s)))) (by kernel_rfl) ?_
 exact ⟨trivial,fun x_0 q_0=>(contains_of q_0)⟩
theorem Tryz.tj:bG Tryz.prog Tryz.B.eT Tryz.X 69 [.slice .str, .str] [.bool] (fun _=>True) (fun x y=>y=(fun x=>x.1.any (· == x.2)) x):=
 bI (X:=Tryz.X) Tryz.Eg Tryz.func69 (by kernel_rfl) (fun _=>[]) (fun x hw hp=>CQ x.1 x.2 hw)
noncomputable def Tryz.zP:List (FuncId × (Bool × bQ)):=[(179,(false,gD Tryz.B [] Tryz.f179 []))]
theorem Tryz.Eh:bU Tryz.prog Tryz.B Tryz.X Tryz.zP:=
 aS (gq (bY Tryz.bZ) Tryz.func179 (by kernel_rfl) []) (bY Tryz.bZ)
def zQ:cy:=[(0,fun st=>{X:=Nat,inv:=fun i=>i<=(aX (.slice aI) st 0).length/\∀j,j < i->(nth aI (aX (.slice aI) st 0) j).1≠(Ng aI st (LX st 1 0)).1,aW:=fun i=>(aX (.slice aI) st 0).length - i,aQ:=fun i=>[(8,sI i)],aU:=[0,1,7]})]
noncomputable def Tryz.FF:List (FuncId × (Bool × bQ)):=[(190,(false,gD Tryz.B Tryz.zP Tryz.f190 zQ))]
theorem Tryz.Jf:bU Tryz.prog Tryz.B Tryz.X Tryz.FF:=
 aS (gq Tryz.Eh Tryz.func190 (by kernel_rfl) zQ) (bY Tryz.bZ)
noncomputable def Tryz.FG:List (FuncId × (Bool × bQ)):=[(87,(true,aM [.str] [.err] (fun _=>True) (fun s=>aY (aK s)))),
 (94,(true,aM [.str] [.int .i64] (fun _=>True) (fun s=>aK s))),
 (9,(true,aM [.err, .int .i64] [.bool] (fun _=>True) (fun x=>cG x.1 x.2))),
 (178,(false,gD Tryz.B Tryz.FF Tryz.f178 []))]
theorem Tryz.Jg:bU Tryz.prog Tryz.B Tryz.X Tryz.FG:=
 aS (aE Tryz.fM) (aS (aE Tryz.dz) (aS (aE Tryz.gv) (aS (gq Tryz.Jf Tryz.func178 (by kernel_rfl) []) (bY Tryz.bZ))))
def xm (o:D aA):cy:=[(0,fun st=>{X:=Nat,inv:=fun i=>fu o.2.1.length o.2.2.1 i,aW:=fun i=>o.2.2.1.length - i,aQ:=fun i=>[(9,sI i)],aU:=[1,7,8]})]
theorem Ei (o:D aA) (hw:c8 [aA] o):(cp Tryz.B Tryz.FG Tryz.f156 (xm o) [aA] [.err] (fun x y=>y=(fun o=>aY (en o.2.1.length [] o.2.2.1)) x) o).holds:=by
 refine holds_of (p:=
  let za:=o.2.2.1
  let zb:=List.length za
  let zc:=List.length o.2.1
  let zd:=fun (x_0:Nat)=>(↑x_0:Int)
  let ze:=fun (x_0:Nat)=>(0:Int)<=zd x_0
  let zf:=fun (x_0:Nat)=>(nth aI za x_0).1
  let zg:=aY (en zc (@List.nil (List UInt8 × Int × Bool × Unit)) za)
  let zh:=fun (x_0:Nat)=>(nth aI za x_0).2.1
  let zi:=bB.no (1:Int)=zg
  let zj:=fun (x_0:Nat)=>List.drop (0:Nat) (List.take x_0 za)
  let zk:=fun (x_0:Nat)=>List.length (zj x_0)
  let zl:=bB.no (3:Int)=zg
  let zm:=(o.1=o.1/\o.2.1=o.2.1/\za=za/\o.2.2.2.1=o.2.2.2.1/\True)/\True
  let zn:=fun (x_0:Nat)=>((aC (zd x_0))->((aC (1:Int))->(aC (zd x_0 + (1:Int)))/\(∃(x':Nat),fu zc za x'/\zb - x' < zb - x_0/\(zd x_0 + (1:Int)=(↑x':Int)/\True)/\zm)))
  ((zb<=aG)->(∃(x:Nat),fu zc za x/\((0:Int)=(↑x:Int)/\True)/\True)/\(∀x_0:Nat,((fu zc za x_0)->(((decide (zd x_0 < (↑zb:Int)))=true->(ze x_0/\zd x_0 < (↑zb:Int))/\(True)/\(((!bB.isNil (aY (aK (zf x_0))))=true->(aY (aK (zf x_0))=zg))/\((!bB.isNil (aY (aK (zf x_0))))=false->(((decide (zh x_0 < (0:Int)))=true->(zi))/\((decide (zh x_0 < (0:Int)))=false->((zc<=aG)->(((decide (zh x_0>=(↑zc:Int)))=true->(zi))/\((decide (zh x_0>=(↑zc:Int)))=false->((0:Int)<=(0:Int)/\ze x_0/\zd x_0<=(↑zb:Int))/\((zk x_0<=aG)->(∃(x:Nat),(x<=zk x_0/\∀(j:Nat),j < x->(nth aI (zj x_0) j).1≠zf x_0)/\((0:Int)=(↑x:Int)/\True)/\True)/\(∀x_1:Nat,((x_1<=zk x_0/\∀(j:Nat),j < x_1->(nth aI (zj x_0) j).1≠zf x_0)->(((decide (zd x_1 < (↑(zk x_0):Int)))=true->(ze x_1/\zd x_1 < (↑(zk x_0):Int))/\((((nth aI (zj x_0) x_1).1 == zf x_0)=true->(((decide (zd x_1>=(0:Int)))=true->(zl))/\((decide (zd x_1>=(0:Int)))=false->(zn x_0))))/\(((nth aI (zj x_0) x_1).1 == zf x_0)=false->((aC (zd x_1))->((aC (1:Int))->(aC (zd x_1 + (1:Int)))/\(∃(x':Nat),(x'<=zk x_0/\∀(j:Nat),j < x'->(nth aI (zj x_0) j).1≠zf x_0)/\zk x_0 - x' < zk x_0 - x_1/\(zd x_1 + (1:Int)=(↑x':Int)/\True)/\(zf x_0=zf x_0/\zh x_0=zh x_0/\(nth aI za x_0).2.2.1=(nth aI za x_0).2.2.1/\True)/\zm))))))/\((decide (zd x_1 < (↑(zk x_0):Int)))=false->(((decide ((-1:Int)>=(0:Int)))=true->(zl))/\((decide ((-1:Int)>=(0:Int)))=false->(zn x_0))))))))))))))))/\((decide (zd x_0 < (↑zb:Int)))=false->(bB.nil=zg))))))) (by kernel_rfl) ?_
 dsimp -iota -proj -eta only
 refine fun h0=>⟨(⟨0, .zero _ _,⟨rfl,trivial⟩,trivial⟩),fun x_0 q_0=>iL (fun h1=>⟨(by omega),trivial,⟨fun h2 => ?a,fun h2=>iL (fun h3 => ?b) (fun h3 h4=>iE (fun h5 => ?c) (fun h5=>⟨?d,fun h6=>⟨?e,fun x_1 q_1=>iL (fun h7=>⟨?f,iQ (fun h8=>⟨fun h9 => ?g,fun h9=>absurd (show true=false from h9) (by decide)⟩) (fun h8 h9 h10=>⟨?h,?i⟩)⟩) (fun h7=>⟨fun h8=>absurd (show false=true from h8) (by decide),fun h8 h9 h10=>⟨?j,?k⟩⟩)⟩⟩))⟩⟩) (fun h1=>(by rw [q_0.done (by omega)];rfl))⟩
 case a=>
  simp only [bl,reduceCtorEq] at h2
  rw [q_0.fault (by omega) (mB (cj _) h2)]
 case b=>
  simp only [bl,reduceCtorEq] at h2
  rw [q_0.out (by omega) (lW h2) (.inl (by omega))];rfl
 case c=>
  simp only [bl,reduceCtorEq] at h2
  rw [q_0.out (by omega) (lW h2) (.inr (by omega))];rfl
 case d|f=>
  simp only [bl,reduceCtorEq] at h2
  omega
 case e=>
  simp only [bl,reduceCtorEq] at h2
  exact ⟨0,⟨by omega,fun j hj=>by omega⟩,⟨rfl,trivial⟩,trivial⟩
 case g=>
  simp only [bl,reduceCtorEq] at h2
  rw [yT q_0.le] at h7;rw [yS (i:=x_0) (j:=x_1) (by omega)] at h8;rw [q_0.dup (by omega) (lW h2) (fun h=>h.elim (fun h=>absurd h (Int.not_lt.2 h3)) (fun h=>absurd h (Int.not_le.2 h5))) (qN (t:=aI) (j:=x_1) (by omega) q_0.le (by simpa using h8))];rfl
 case h|j=>
  simp only [bl,reduceCtorEq] at h2
  simp only [aC,aG] at *;omega
 case i=>
  simp only [bl,reduceCtorEq] at h2
  exact ⟨x_1 + 1,⟨by omega,ja q_1.2 (by assumption)⟩,by omega,⟨by omega,trivial⟩,(by trivial)⟩
 case k=>
  simp only [bl,reduceCtorEq] at h2
  have hx:=yT q_0.le;exact ⟨x_0 + 1,q_0.next (by omega) (lW h2) (fun h=>h.elim (fun h=>absurd h (Int.not_lt.2 h3)) (fun h=>absurd h (Int.not_le.2 h5))) (oJ (t:=aI) fun j hj=>by have:=q_1.2 j (by omega);rw [yS hj] at this;simpa using this),by omega,⟨by omega,trivial⟩,(by trivial)⟩
theorem Tryz.Ej:bG Tryz.prog Tryz.B.eT Tryz.X 156 [aA] [.err] (fun _=>True) (fun x y=>y=(fun o=>aY (en o.2.1.length [] o.2.2.1)) x):=
 bI (X:=Tryz.X) Tryz.Jg Tryz.func156 (by kernel_rfl) (fun x=>xm x) (fun x hw hp=>Ei x hw)
noncomputable def Tryz.FH:List (FuncId × (Bool × bQ)):=[(87,(true,aM [.str] [.err] (fun _=>True) (fun s=>aY (aK s)))),
 (94,(true,aM [.str] [.int .i64] (fun _=>True) (fun s=>aK s))),
 (9,(true,aM [.err, .int .i64] [.bool] (fun _=>True) (fun x=>cG x.1 x.2))),
 (155,(true,aM [.int .i64] [.bool] (fun _=>True) (fun n=>dA n)))]
theorem Tryz.Jh:bU Tryz.prog Tryz.B Tryz.X Tryz.FH:=
 aS (aE Tryz.fM) (aS (aE Tryz.dz) (aS (aE Tryz.gv) (aS (aE Tryz.CP) (bY Tryz.bZ))))
def FI (o:D aA):cy:=[(0,fun st=>{X:=Nat,inv:=fun i=>gG o.2.1.length o.2.2.2.1 i,aW:=fun i=>o.2.2.2.1.length - i,aQ:=fun i=>[(9,sI i)],aU:=[1,7,8]})]
theorem Lq (o:D aA) (hw:c8 [aA] o):(cp Tryz.B Tryz.FH Tryz.f157 (FI o) [aA] [.err] (fun x y=>y=(fun o=>aY (fT o.2.1.length none o.2.2.2.1)) x) o).holds:=by
 refine holds_of (p:=
  let za:=o.2.2.2.1
  let zb:=List.length za
  let zc:=List.length o.2.1
  let zd:=fun (x_0:Nat)=>(↑x_0:Int)
  let ze:=fun (x_0:Nat)=>(nth aJ za x_0).1
  let zf:=aY (fT zc none za)
  let zg:=bB.no (1:Int)=zf
  let zh:=fun (x_0:Nat)=>(nth aJ za x_0).2.1
  let zi:=bB.no (3:Int)=zf
  let zj:=fun (x_0:Nat)=>zd x_0 - (1:Int)
  let zk:=fun (x_0:Nat)=>((aC (zd x_0))->((aC (1:Int))->(aC (zd x_0 + (1:Int)))/\(∃(x':Nat),gG zc za x'/\zb - x' < zb - x_0/\(zd x_0 + (1:Int)=(↑x':Int)/\True)/\(o.1=o.1/\o.2.1=o.2.1/\o.2.2.1=o.2.2.1/\za=za/\True)/\True)))
  let zl:=fun (x_0:Nat)=>aY (aK (nth aJ za x_0).2.2.2.1)
  let zm:=fun (x_0:Nat)=>(((zh x_0 == (1:Int))=true->(((!(nth aJ za x_0).2.2.2.1 == @List.nil UInt8)=true->(zi))/\((!(nth aJ za x_0).2.2.2.1 == @List.nil UInt8)=false->((((nth aJ za x_0).2.2.2.2.1)=true->(zi))/\(((nth aJ za x_0).2.2.2.2.1)=false->(zk x_0))))))/\((zh x_0 == (1:Int))=false->(True)/\(((!bB.isNil (zl x_0))=true->(zl x_0=zf))/\((!bB.isNil (zl x_0))=false->(zk x_0)))))
  ((zb<=aG)->(∃(x:Nat),gG zc za x/\((0:Int)=(↑x:Int)/\True)/\True)/\(∀x_0:Nat,((gG zc za x_0)->(((decide (zd x_0 < (↑zb:Int)))=true->((0:Int)<=zd x_0/\zd x_0 < (↑zb:Int))/\(((decide (ze x_0 < (0:Int)))=true->(zg))/\((decide (ze x_0 < (0:Int)))=false->((zc<=aG)->(((decide (ze x_0>=(↑zc:Int)))=true->(zg))/\((decide (ze x_0>=(↑zc:Int)))=false->(True)/\(((!dA (nth aJ za x_0).2.2.1)=true->(zg))/\((!dA (nth aJ za x_0).2.2.1)=false->(((decide (zh x_0 < (1:Int)))=true->(zi))/\((decide (zh x_0 < (1:Int)))=false->(((decide (zh x_0 > (3:Int)))=true->(zi))/\((decide (zh x_0 > (3:Int)))=false->(((decide (zd x_0 > (0:Int)))=true->((aC (zd x_0))->((aC (1:Int))->(aC (zj x_0))/\((0:Int)<=zj x_0/\zj x_0 < (↑zb:Int))/\(((decide ((nth aJ za (Int.toNat (zj x_0))).1>=ze x_0))=true->(zi))/\((decide ((nth aJ za (Int.toNat (zj x_0))).1>=ze x_0))=false->(zm x_0))))))/\((decide (zd x_0 > (0:Int)))=false->(zm x_0)))))))))))))))/\((decide (zd x_0 < (↑zb:Int)))=false->(bB.nil=zf))))))) (by kernel_rfl) ?_
 dsimp -iota -proj -eta only
 refine fun h0=>⟨(⟨0, .zero _ _,⟨rfl,trivial⟩,trivial⟩),fun x_0 q_0=>iL (fun h1=>⟨(by omega),iL (fun h2 => ?a) (fun h2 h3=>iE (fun h4 => ?b) (fun h4=>⟨trivial,⟨fun h5 => ?c,fun h5=>iL (fun h6 => ?d) (fun h6=>iL (fun h7 => ?e) (fun h7=>iL (fun h8 h9 h10=>⟨?f,?g,iE (fun h11 => ?h) (fun h11=>iQ (fun h12=>⟨fun h13 => ?i,fun h13=>⟨fun h14 => ?j,fun h14 h15 h16=>⟨?k,?l⟩⟩⟩) (fun h12=>⟨trivial,⟨fun h13 => ?m,fun h13 h14 h15=>⟨?n,?o⟩⟩⟩))⟩) (fun h8=>iQ (fun h9=>⟨fun h10 => ?p,fun h10=>⟨fun h11 => ?q,fun h11 h12 h13=>⟨?r,?s⟩⟩⟩) (fun h9=>⟨trivial,⟨fun h10 => ?t,fun h10 h11 h12=>⟨?u,?v⟩⟩⟩))))⟩⟩))⟩) (fun h1=>(by rw [q_0.done (by omega)];rfl))⟩
 case a|b=>rw [q_0.fault (by omega) (f:=1) (by unfold eu;grind) (by decide)];rfl
 case c=>
  simp only [bl,reduceCtorEq] at h5
  rw [q_0.fault (by omega) (f:=1) (by unfold eu;grind) (by decide)];rfl
 case d|e|h=>
  simp only [bl,reduceCtorEq] at h5
  rw [q_0.fault (by omega) (f:=3) (by unfold eu eX ej;grind) (by decide)];rfl
 case f=>
  simp only [bl,reduceCtorEq] at h5
  simp only [aC,aG] at *;omega
 case g=>
  simp only [bl,reduceCtorEq] at h5
  omega
 case i|j=>
  simp only [bl,reduceCtorEq] at h5 h13
  rw [q_0.fault (by omega) (f:=3) (by unfold eu eX ej;grind) (by decide)];rfl
 case k|n=>
  simp only [bl,reduceCtorEq] at h5 h13
  simp only [aC,aG] at *;omega
 case l=>
  simp only [bl,reduceCtorEq] at h5 h13
  exact ⟨x_0 + 1,q_0.next (by omega) (by unfold eu eX ej;grind),by omega,⟨by omega,trivial⟩,(by trivial)⟩
 case m=>
  simp only [bl,reduceCtorEq] at h5 h13
  rw [q_0.fault (by omega) (f:=aK (nth aJ o.2.2.2.1 x_0).2.2.2.1) (by unfold eu eX ej;grind) (by have:=mB (cj _) h13;omega)]
 case o=>
  simp only [bl,reduceCtorEq] at h5 h13
  have:=bL.1 h13;exact ⟨x_0 + 1,q_0.next (by omega) (by unfold eu eX ej;grind),by omega,⟨by omega,trivial⟩,(by trivial)⟩
 case p|q=>
  simp only [bl,reduceCtorEq] at h5 h10
  rw [q_0.fault (by omega) (f:=3) (by unfold eu eX ej;grind) (by decide)];rfl
 case r|u=>
  simp only [bl,reduceCtorEq] at h5 h10
  simp only [aC,aG] at *;omega
 case s=>
  simp only [bl,reduceCtorEq] at h5 h10
  exact ⟨x_0 + 1,q_0.next (by omega) (by unfold eu eX ej;grind),by omega,⟨by omega,trivial⟩,(by trivial)⟩
 case t=>
  simp only [bl,reduceCtorEq] at h5 h10
  rw [q_0.fault (by omega) (f:=aK (nth aJ o.2.2.2.1 x_0).2.2.2.1) (by unfold eu eX ej;grind) (by have:=mB (cj _) h10;omega)]
 case v=>
  simp only [bl,reduceCtorEq] at h5 h10
  have:=bL.1 h10;exact ⟨x_0 + 1,q_0.next (by omega) (by unfold eu eX ej;grind),by omega,⟨by omega,trivial⟩,(by trivial)⟩
theorem Tryz.Lr:bG Tryz.prog Tryz.B.eT Tryz.X 157 [aA] [.err] (fun _=>True) (fun x y=>y=(fun o=>aY (fT o.2.1.length none o.2.2.2.1)) x):=
 bI (X:=Tryz.X) Tryz.Jh Tryz.func157 (by kernel_rfl) (fun x=>FI x) (fun x hw hp=>Lq x hw)
noncomputable def Tryz.zR:List (FuncId × (Bool × bQ)):=[(87,(true,aM [.str] [.err] (fun _=>True) (fun s=>aY (aK s)))),
 (94,(true,aM [.str] [.int .i64] (fun _=>True) (fun s=>aK s))),
 (9,(true,aM [.err, .int .i64] [.bool] (fun _=>True) (fun x=>cG x.1 x.2))),
 (69,(true,aM [.slice .str, .str] [.bool] (fun _=>True) (fun x=>x.1.any (· == x.2)))),
 (155,(true,aM [.int .i64] [.bool] (fun _=>True) (fun n=>dA n))),
 (156,(true,aM [aA] [.err] (fun _=>True) (fun o=>aY (en o.2.1.length [] o.2.2.1)))),
 (157,(true,aM [aA] [.err] (fun _=>True) (fun o=>aY (fT o.2.1.length none o.2.2.2.1))))]
theorem Tryz.Ek:bU Tryz.prog Tryz.B Tryz.X Tryz.zR:=
 aS (aE Tryz.fM) (aS (aE Tryz.dz) (aS (aE Tryz.gv) (aS (aE Tryz.tj) (aS (aE Tryz.CP) (aS (aE Tryz.Ej) (aS (aE Tryz.Lr) (bY Tryz.bZ)))))))
def zS (o:D aA):cy:=[
 (0,fun st=>{X:=Nat,inv:=fun i=>eW o.1 i,aW:=fun i=>o.1.length - i,aQ:=fun i=>[(41,sI i)],aU:=[1,39,40]}),
 (2,fun st=>{X:=Nat,inv:=fun i=>fz o.2.1 i,aW:=fun i=>o.2.1.length - i,aQ:=fun i=>[(62,sI i)],aU:=[1,60,61]})]
theorem Ji (o:D aA) (hw:c8 [aA] o):(cp Tryz.B Tryz.zR Tryz.f126 (zS o) [aA] [.err] (fun x y=>y=(fun o=>aY (bN o)) x) o).holds:=by
 refine holds_of (p:=
  let za:=List.length o.1
  let zb:=(↑za:Int)
  let zc:=aY (bN o)
  let zd:=bB.no (2:Int)=zc
  let ze:=o.2.1
  let zf:=List.length ze
  let zg:=zf<=aG
  let zh:=(↑zf:Int)
  let zi:=o.2.2.1
  let zj:=o.2.2.2.1
  let zk:=fun (x_0:Nat)=>(↑x_0:Int)
  let zl:=fun (x_0:Nat)=>(0:Int)<=zk x_0
  let zm:=fun (x_0:Nat)=>aY (aK (nth Ty.str o.1 x_0))
  let zn:=(o.1=o.1/\ze=ze/\zi=zi/\zj=zj/\True)/\True
  let zo:=aY (en zf (@List.nil (List UInt8 × Int × Bool × Unit)) zi)
  ((za<=aG)->(((decide (zb > (4:Int)))=true->(zd))/\((decide (zb > (4:Int)))=false->((zg)->(((decide (zh < (1:Int)))=true->(zd))/\((decide (zh < (1:Int)))=false->((zg)->(((decide (zh > (40:Int)))=true->(zd))/\((decide (zh > (40:Int)))=false->((List.length zi<=aG)->(((decide ((↑(List.length zi):Int) > (8:Int)))=true->(zd))/\((decide ((↑(List.length zi):Int) > (8:Int)))=false->((List.length zj<=aG)->(((decide ((↑(List.length zj):Int) > (6:Int)))=true->(zd))/\((decide ((↑(List.length zj):Int) > (6:Int)))=false->((za<=aG)->(∃(x:Nat),eW o.1 x/\((0:Int)=(↑x:Int)/\True)/\True)/\(∀x_0:Nat,((eW o.1 x_0)->(((decide (zk x_0 < zb))=true->(zl x_0/\zk x_0 < zb)/\(True)/\(((!bB.isNil (zm x_0))=true->(zm x_0=zc))/\((!bB.isNil (zm x_0))=false->((0:Int)<=(0:Int)/\zl x_0/\zk x_0<=zb)/\(True)/\(((List.any (List.drop (0:Nat) (List.take x_0 o.1)) fun (x:List UInt8)=>x == nth Ty.str o.1 x_0)=true->(bB.no (3:Int)=zc))/\((List.any (List.drop (0:Nat) (List.take x_0 o.1)) fun (x:List UInt8)=>x == nth Ty.str o.1 x_0)=false->((aC (zk x_0))->((aC (1:Int))->(aC (zk x_0 + (1:Int)))/\(∃(x':Nat),eW o.1 x'/\za - x' < za - x_0/\(zk x_0 + (1:Int)=(↑x':Int)/\True)/\zn))))))))/\((decide (zk x_0 < zb))=false->((zg)->(∃(x:Nat),fz ze x/\((0:Int)=(↑x:Int)/\True)/\True)/\(∀x_1:Nat,((fz ze x_1)->(((decide (zk x_1 < zh))=true->(zl x_1/\zk x_1 < zh)/\(True)/\(((!dA (nth (Ty.int IntKind.i64) ze x_1))=true->(bB.no (1:Int)=zc))/\((!dA (nth (Ty.int IntKind.i64) ze x_1))=false->((aC (zk x_1))->((aC (1:Int))->(aC (zk x_1 + (1:Int)))/\(∃(x':Nat),fz ze x'/\zf - x' < zf - x_1/\(zk x_1 + (1:Int)=(↑x':Int)/\True)/\zn))))))/\((decide (zk x_1 < zh))=false->(True)/\(((!bB.isNil zo)=true->(zo=zc))/\((!bB.isNil zo)=false->(True)/\(aY (fT zf none zj)=zc))))))))))))))))))))))))))))) (by kernel_rfl) ?_
 dsimp -iota -proj -eta only
 refine fun h0=>iL (fun h1 => ?a) (fun h1 h2=>iL (fun h3 => ?b) (fun h3 h4=>iL (fun h5 => ?c) (fun h5 h6=>iL (fun h7 => ?d) (fun h7 h8=>iL (fun h9 => ?e) (fun h9 h10=>⟨?f,fun x_0 q_0=>iL (fun h11=>⟨?g,trivial,⟨fun h12 => ?h,fun h12=>⟨?i,trivial,⟨fun h13 => ?j,fun h13 h14 h15=>⟨?k,?l⟩⟩⟩⟩⟩) (fun h11 h12=>⟨?m,fun x_1 q_1=>iL (fun h13=>⟨?n,trivial,⟨fun h14 => ?o,fun h14 h15 h16=>⟨?p,?q⟩⟩⟩) (fun h13=>⟨trivial,⟨fun h14 => ?r,fun h14=>⟨trivial,?s⟩⟩⟩)⟩)⟩)))))
 case a|b|c|d|e=>rw [uz (by unfold dn;omega)];rfl
 case f|m=>exact ⟨0, .zero _,⟨rfl,trivial⟩,trivial⟩
 case g|n=>omega
 case h=>
  simp only [bl,reduceCtorEq] at h12
  have hf:=mB (cj _) h12;rw [lA (by unfold dn;omega) (q_0.fault (by omega) hf) (by omega)]
 case i=>
  simp only [bl,reduceCtorEq] at h12
  omega
 case j=>
  simp only [bl,reduceCtorEq] at h12
  rw [List.drop_zero] at h13;rw [lA (by unfold dn;omega) (q_0.dup (by omega) (lW h12) h13) (by decide)];rfl
 case k=>
  simp only [bl,reduceCtorEq] at h12
  simp only [aC,aG] at *;omega
 case l=>
  simp only [bl,reduceCtorEq] at h12
  rw [List.drop_zero] at h13;exact ⟨x_0 + 1,q_0.next (by omega) (lW h12) h13,by omega,⟨by omega,trivial⟩,(by trivial)⟩
 case o=>
  simp only [bl,reduceCtorEq] at h14
  rw [sN (by unfold dn;omega) (q_0.done (by omega)) (q_1.fault (by omega) h14) (by decide)];rfl
 case p=>
  simp only [bl,reduceCtorEq] at h14
  simp only [aC,aG] at *;omega
 case q=>
  simp only [bl,reduceCtorEq] at h14
  exact ⟨x_1 + 1,q_1.next (by omega) h14,by omega,⟨by omega,trivial⟩,(by trivial)⟩
 case r=>
  simp only [bl,reduceCtorEq] at h14
  have hf:=mB (nL _ _ _) h14;rw [kf (by unfold dn;omega) (q_0.done (by omega)) (q_1.done (by omega)) rfl (by omega)]
 case s=>
  simp only [bl,reduceCtorEq] at h14
  rw [eL (by unfold dn;omega) (q_0.done (by omega)) (q_1.done (by omega)) (bL.1 h14) rfl]
theorem Tryz.Jj:bG Tryz.prog Tryz.B.eT Tryz.X 126 [aA] [.err] (fun _=>True) (fun x y=>y=(fun o=>aY (bN o)) x):=
 bI (X:=Tryz.X) Tryz.Ek Tryz.func126 (by kernel_rfl) (fun x=>zS x) (fun x hw hp=>Ji x hw)
def zT (o:D aA):cy:=[
 (0,fun st=>{X:=Nat,inv:=fun i=>eW o.1 i,aW:=fun i=>o.1.length - i,aQ:=fun i=>[(3,sI i)],aU:=[1]}),
 (2,fun st=>{X:=Nat,inv:=fun k=>k<=(Int.toNat (aX (.int .i64) st 3))/\∀j,j < k->nth .str o.1 j≠nth .str o.1 (Int.toNat (aX (.int .i64) st 3)),aW:=fun k=>(Int.toNat (aX (.int .i64) st 3)) - k,aQ:=fun k=>[(5,sI k)],aU:=[1,3,4,44,45,46,47,48,51,52,53,54,55,56,57,58,59]}),
 (4,fun st=>{X:=Nat,inv:=fun i=>fz o.2.1 i,aW:=fun i=>o.2.1.length - i,aQ:=fun i=>[(6,sI i)],aU:=[1]}),
 (6,fun st=>{X:=Nat,inv:=fun i=>fu o.2.1.length o.2.2.1 i,aW:=fun i=>o.2.2.1.length - i,aQ:=fun i=>[(8,sI i)],aU:=[1]}),
 (8,fun st=>{X:=Nat,inv:=fun k=>k<=(Int.toNat (aX (.int .i64) st 8))/\∀j,j < k->(nth aI o.2.2.1 j).1≠(nth aI o.2.2.1 (Int.toNat (aX (.int .i64) st 8))).1,aW:=fun k=>(Int.toNat (aX (.int .i64) st 8)) - k,aQ:=fun k=>[(11,sI k)],aU:=[1,8,9,10,91,92,93,94,95,98,99,100,101,102,103,104,105,106,107,108,109,110,111,112,113,114,115,116,117,118,119]}),
 (10,fun st=>{X:=Nat,inv:=fun i=>gG o.2.1.length o.2.2.2.1 i,aW:=fun i=>o.2.2.2.1.length - i,aQ:=fun i=>[(12,sI i)],aU:=[1]})]
noncomputable def Tryz.zU:List (FuncId × (Bool × bQ)):=[(87,(true,aM [.str] [.err] (fun _=>True) (fun s=>aY (aK s)))),
 (94,(true,aM [.str] [.int .i64] (fun _=>True) (fun s=>aK s))),
 (9,(true,aM [.err, .int .i64] [.bool] (fun _=>True) (fun x=>cG x.1 x.2))),
 (95,(true,aM [.int .i64] [.bool] (fun _=>True) (fun n=>dA n)))]
theorem Tryz.El:bU Tryz.prog Tryz.B Tryz.X Tryz.zU:=
 aS (aE Tryz.fM) (aS (aE Tryz.dz) (aS (aE Tryz.gv) (aS (aE Tryz.Ef) (bY Tryz.bZ))))
theorem Jk (o:D aA) (hw:c8 [aA] o):(cp Tryz.B Tryz.zU Tryz.f103 (zT o) [aA] [.int .i64] (fun x y=>y=(fun o=>bN o) x) o).holds:=by
 refine holds_of (p:=
  let za:=o.1
  let zb:=List.length za
  let zc:=bN o
  let zd:=(2:Int)=zc
  let ze:=o.2.1
  let zf:=List.length ze
  let zg:=zf<=aG
  let zh:=(↑zf:Int)
  let zi:=o.2.2.1
  let zj:=List.length zi
  let zk:=o.2.2.2.1
  let zl:=List.length zk
  let zm:=(↑zl:Int)
  let zn:=fun (x_0:Nat)=>(↑x_0:Int)
  let zo:=fun (x_0:Nat)=>(0:Int)<=zn x_0
  let zp:=fun (x_0:Nat)=>zo x_0/\zn x_0 < (↑zb:Int)
  let zq:=fun (x_0:Nat)=>nth Ty.str za x_0
  let zr:=(3:Int)=zc
  let zs:=fun (x_1:Nat)=>aC (zn x_1)
  let zt:=aC (1:Int)
  let zu:=fun (x_1:Nat)=>zn x_1 + (1:Int)
  let zv:=fun (x_1:Nat)=>aC (zu x_1)
  let zw:=(za=za/\ze=ze/\zi=zi/\zk=zk/\True)/\True
  let zx:=(1:Int)=zc
  let zy:=fun (x_2:Nat)=>zo x_2/\zn x_2 < (↑zj:Int)
  let zz:=fun (x_2:Nat)=>(nth aI zi x_2).1
  let zaa:=fun (x_2:Nat)=>(nth aI zi x_2).2.1
  let zab:=fun (x_3:Nat)=>(nth aJ zk x_3).1
  let zac:=fun (x_3:Nat)=>(nth aJ zk x_3).2.1
  let zad:=fun (x_3:Nat)=>zn x_3 - (1:Int)
  let zae:=fun (x_3:Nat)=>aK (nth aJ zk x_3).2.2.2.1
  let zaf:=fun (x_3:Nat)=>((zs x_3)->((zt)->(zv x_3)/\(∃(x':Nat),gG zf zk x'/\zl - x' < zl - x_3/\(zu x_3=(↑x':Int)/\True)/\zw)))
  let zag:=fun (x_3:Nat)=>(((decide (zac x_3 > (1:Int)))=true->(True)/\(((decide (zae x_3 > (0:Int)))=true->(zae x_3=zc))/\((decide (zae x_3 > (0:Int)))=false->(zaf x_3))))/\((decide (zac x_3 > (1:Int)))=false->(zaf x_3)))
  let zah:=fun (x_3:Nat)=>(((zac x_3 == (1:Int))=true->(((!(nth aJ zk x_3).2.2.2.1 == @List.nil UInt8)=true->(zr))/\((!(nth aJ zk x_3).2.2.2.1 == @List.nil UInt8)=false->((((nth aJ zk x_3).2.2.2.2.1)=true->(zr))/\(((nth aJ zk x_3).2.2.2.2.1)=false->(zag x_3))))))/\((zac x_3 == (1:Int))=false->(zag x_3)))
  ((zb<=aG)->(((decide ((↑zb:Int) > (4:Int)))=true->(zd))/\((decide ((↑zb:Int) > (4:Int)))=false->((zg)->(((decide (zh < (1:Int)))=true->(zd))/\((decide (zh < (1:Int)))=false->((zg)->(((decide (zh > (40:Int)))=true->(zd))/\((decide (zh > (40:Int)))=false->((zj<=aG)->(((decide ((↑zj:Int) > (8:Int)))=true->(zd))/\((decide ((↑zj:Int) > (8:Int)))=false->((zl<=aG)->(((decide (zm > (6:Int)))=true->(zd))/\((decide (zm > (6:Int)))=false->(∃(x:Nat),eW za x/\((0:Int)=(↑x:Int)/\True)/\True)/\(∀x_0:Nat,((eW za x_0)->((zb<=aG)->(((decide (zn x_0 < (↑zb:Int)))=true->(zp x_0)/\(True)/\(((decide (aK (zq x_0) > (0:Int)))=true->(aK (zq x_0)=zc))/\((decide (aK (zq x_0) > (0:Int)))=false->(∃(x:Nat),(x<=x_0/\∀(j:Nat),j < x->nth Ty.str za j≠zq x_0)/\((0:Int)=(↑x:Int)/\True)/\True)/\(∀x_1:Nat,((x_1<=x_0/\∀(j:Nat),j < x_1->nth Ty.str za j≠zq x_0)->(((decide (zn x_1 < zn x_0))=true->(zp x_1)/\(zp x_0)/\(((zq x_1 == zq x_0)=true->(zr))/\((zq x_1 == zq x_0)=false->((zs x_1)->((zt)->(zv x_1)/\(∃(x':Nat),(x'<=x_0/\∀(j:Nat),j < x'->nth Ty.str za j≠zq x_0)/\x_0 - x' < x_0 - x_1/\(zu x_1=(↑x':Int)/\True)/\zw))))))/\((decide (zn x_1 < zn x_0))=false->((zs x_0)->((zt)->(zv x_0)/\(∃(x':Nat),eW za x'/\zb - x' < zb - x_0/\(zu x_0=(↑x':Int)/\True)/\zw))))))))))/\((decide (zn x_0 < (↑zb:Int)))=false->(∃(x:Nat),fz ze x/\((0:Int)=(↑x:Int)/\True)/\True)/\(∀x_1:Nat,((fz ze x_1)->((zg)->(((decide (zn x_1 < zh))=true->(zo x_1/\zn x_1 < zh)/\(True)/\(((!dA (nth (Ty.int IntKind.i64) ze x_1))=true->(zx))/\((!dA (nth (Ty.int IntKind.i64) ze x_1))=false->((zs x_1)->((zt)->(zv x_1)/\(∃(x':Nat),fz ze x'/\zf - x' < zf - x_1/\(zu x_1=(↑x':Int)/\True)/\zw))))))/\((decide (zn x_1 < zh))=false->(∃(x:Nat),fu zf zi x/\((0:Int)=(↑x:Int)/\True)/\True)/\(∀x_2:Nat,((fu zf zi x_2)->((zj<=aG)->(((decide (zn x_2 < (↑zj:Int)))=true->(zy x_2)/\(True)/\(((decide (aK (zz x_2) > (0:Int)))=true->(aK (zz x_2)=zc))/\((decide (aK (zz x_2) > (0:Int)))=false->(((decide (zaa x_2 < (0:Int)))=true->(zx))/\((decide (zaa x_2 < (0:Int)))=false->((zg)->(((decide (zaa x_2>=zh))=true->(zx))/\((decide (zaa x_2>=zh))=false->(∃(x:Nat),(x<=x_2/\∀(j:Nat),j < x->(nth aI zi j).1≠zz x_2)/\((0:Int)=(↑x:Int)/\True)/\True)/\(∀x_3:Nat,((x_3<=x_2/\∀(j:Nat),j < x_3->(nth aI zi j).1≠zz x_2)->(((decide (zn x_3 < zn x_2))=true->(zy x_3)/\(((zz x_3 == zz x_2)=true->(zr))/\((zz x_3 == zz x_2)=false->((zs x_3)->((zt)->(zv x_3)/\(∃(x':Nat),(x'<=x_2/\∀(j:Nat),j < x'->(nth aI zi j).1≠zz x_2)/\x_2 - x' < x_2 - x_3/\(zu x_3=(↑x':Int)/\True)/\(zz x_2=zz x_2/\zaa x_2=zaa x_2/\(nth aI zi x_2).2.2.1=(nth aI zi x_2).2.2.1/\True)/\zw))))))/\((decide (zn x_3 < zn x_2))=false->((zs x_2)->((zt)->(zv x_2)/\(∃(x':Nat),fu zf zi x'/\zj - x' < zj - x_2/\(zu x_2=(↑x':Int)/\True)/\zw)))))))))))))))/\((decide (zn x_2 < (↑zj:Int)))=false->(∃(x:Nat),gG zf zk x/\((0:Int)=(↑x:Int)/\True)/\True)/\(∀x_3:Nat,((gG zf zk x_3)->((zl<=aG)->(((decide (zn x_3 < zm))=true->(zo x_3/\zn x_3 < zm)/\(True)/\(((decide (zab x_3 < (0:Int)))=true->(zx))/\((decide (zab x_3 < (0:Int)))=false->((zg)->(((decide (zab x_3>=zh))=true->(zx))/\((decide (zab x_3>=zh))=false->(((!dA (nth aJ zk x_3).2.2.1)=true->(zx))/\((!dA (nth aJ zk x_3).2.2.1)=false->(((decide (zac x_3 < (1:Int)))=true->(zr))/\((decide (zac x_3 < (1:Int)))=false->(((decide (zac x_3 > (3:Int)))=true->(zr))/\((decide (zac x_3 > (3:Int)))=false->(((decide (zn x_3 > (0:Int)))=true->((zs x_3)->((zt)->(aC (zad x_3))/\((0:Int)<=zad x_3/\zad x_3 < zm)/\(((decide (zab x_3<=(nth aJ zk (Int.toNat (zad x_3))).1))=true->(zr))/\((decide (zab x_3<=(nth aJ zk (Int.toNat (zad x_3))).1))=false->(zah x_3))))))/\((decide (zn x_3 > (0:Int)))=false->(zah x_3)))))))))))))))/\((decide (zn x_3 < zm))=false->((0:Int)=zc))))))))))))))))))))))))))))))))))))) (by kernel_rfl) ?_
 dsimp -iota -proj -eta only
 refine fun h0=>iL (fun h1 => ?a) (fun h1 h2=>iL (fun h3 => ?b) (fun h3 h4=>iL (fun h5 => ?c) (fun h5 h6=>iL (fun h7 => ?d) (fun h7 h8=>iL (fun h9 => ?e) (fun h9=>⟨?f,fun x_0 q_0 h10=>iL (fun h11=>⟨?g,trivial,iL (fun h12=>(by rw [lA (by unfold dn;omega) (q_0.fault (by omega) h12) (by omega)])) (fun h12=>⟨?h,fun x_1 q_1=>iL (fun h13=>⟨?i,?j,iQ (fun h14=>(by rw [lA (by unfold dn;omega) (q_0.dup (by omega) (by omega) (qN (t:=.str) (j:=x_1) (by omega) q_0.le (by simpa using h14))) (by decide)])) (fun h14 h15 h16=>⟨?k,(⟨x_1 + 1,⟨by omega,ja q_1.2 (by assumption)⟩,by omega,⟨by omega,trivial⟩,(by trivial)⟩)⟩)⟩) (fun h13 h14 h15=>⟨?l,(⟨x_0 + 1,q_0.next (by omega) (by omega) (oJ (t:=.str) fun j hj=>by simpa using q_1.2 j (by omega)),by omega,⟨by omega,trivial⟩,(by trivial)⟩)⟩)⟩)⟩) (fun h11=>⟨?m,fun x_1 q_1 h12=>iL (fun h13=>⟨?n,trivial,⟨fun h14 => ?o,fun h14 h15 h16=>⟨?p,?q⟩⟩⟩) (fun h13=>⟨?r,fun x_2 q_2 h14=>iL (fun h15=>⟨?s,trivial,iL (fun h16=>(by rw [kf (by unfold dn;omega) (q_0.done (by omega)) (q_1.done (by omega)) (q_2.fault (by omega) h16) (by omega)])) (fun h16=>iL (fun h17=>(by rw [kf (by unfold dn;omega) (q_0.done (by omega)) (q_1.done (by omega)) (q_2.out (by omega) (by omega) (.inl (by omega))) (by decide)])) (fun h17 h18=>iE (fun h19=>(by rw [kf (by unfold dn;omega) (q_0.done (by omega)) (q_1.done (by omega)) (q_2.out (by omega) (by omega) (.inr (by omega))) (by decide)])) (fun h19=>⟨?t,fun x_3 q_3=>iL (fun h20=>⟨?u,iQ (fun h21=>(by rw [kf (by unfold dn;omega) (q_0.done (by omega)) (q_1.done (by omega)) (q_2.dup (by omega) (by omega) (fun h=>h.elim (fun h=>absurd h (Int.not_lt.2 h17)) (fun h=>absurd h (Int.not_le.2 h19))) (qN (t:=aI) (j:=x_3) (by omega) q_2.le (by simpa using h21))) (by decide)])) (fun h21 h22 h23=>⟨?v,(⟨x_3 + 1,⟨by omega,ja q_3.2 (by assumption)⟩,by omega,⟨by omega,trivial⟩,(by trivial)⟩)⟩)⟩) (fun h20 h21 h22=>⟨?w,(⟨x_2 + 1,q_2.next (by omega) (by omega) (fun h=>h.elim (fun h=>absurd h (Int.not_lt.2 h17)) (fun h=>absurd h (Int.not_le.2 h19))) (oJ (t:=aI) fun j hj=>by simpa using q_3.2 j (by omega)),by omega,⟨by omega,trivial⟩,(by trivial)⟩)⟩)⟩)))⟩) (fun h15=>⟨?x,fun x_3 q_3 h16=>iL (fun h17=>⟨?y,trivial,iL (fun h18 => ?z) (fun h18 h19=>iE (fun h20 => ?a0) (fun h20=>⟨fun h21 => ?a1,fun h21=>iL (fun h22 => ?a2) (fun h22=>iL (fun h23 => ?a3) (fun h23=>iL (fun h24 h25 h26=>⟨?a4,?a5,iE (fun h27 => ?a6) (fun h27=>iQ (fun h28=>⟨fun h29 => ?a7,fun h29=>⟨fun h30 => ?a8,fun h30=>iL (fun h31=>⟨trivial,iL (fun h32 => ?a9) (fun h32 h33 h34=>⟨?aa,?ab⟩)⟩) (fun h31 h32 h33=>⟨?ac,?ad⟩)⟩⟩) (fun h28=>iL (fun h29=>⟨trivial,iL (fun h30 => ?ae) (fun h30 h31 h32=>⟨?af,?ag⟩)⟩) (fun h29 h30 h31=>⟨?ah,?ai⟩)))⟩) (fun h24=>iQ (fun h25=>⟨fun h26 => ?aj,fun h26=>⟨fun h27 => ?ak,fun h27=>iL (fun h28=>⟨trivial,iL (fun h29 => ?al) (fun h29 h30 h31=>⟨?am,?an⟩)⟩) (fun h28 h29 h30=>⟨?ao,?ap⟩)⟩⟩) (fun h25=>iL (fun h26=>⟨trivial,iL (fun h27 => ?aq) (fun h27 h28 h29=>⟨?ar,?au⟩)⟩) (fun h26 h27 h28=>⟨?av,?aw⟩)))))⟩))⟩) (fun h17=>(by rw [eL (by unfold dn;omega) (q_0.done (by omega)) (q_1.done (by omega)) (q_2.done (by omega)) (q_3.done (by omega))]))⟩)⟩)⟩)⟩)))))
 case a|b|c|d|e=>rw [uz (by unfold dn;omega)]
 case f|m=>exact ⟨0, .zero _,⟨rfl,trivial⟩,trivial⟩
 case g|i|j|n|s|u|y=>omega
 case h|t=>exact ⟨0,⟨by omega,fun j hj=>by omega⟩,⟨rfl,trivial⟩,trivial⟩
 case k|l|v|w=>simp only [aC,aG] at *;omega
 case o=>
  simp only [bl,reduceCtorEq] at h14
  rw [sN (by unfold dn;omega) (q_0.done (by omega)) (q_1.fault (by omega) h14) (by decide)]
 case p=>
  simp only [bl,reduceCtorEq] at h14
  simp only [aC,aG] at *;omega
 case q=>
  simp only [bl,reduceCtorEq] at h14
  exact ⟨x_1 + 1,q_1.next (by omega) h14,by omega,⟨by omega,trivial⟩,(by trivial)⟩
 case r|x=>exact ⟨0, .zero _ _,⟨rfl,trivial⟩,trivial⟩
 case z|a0=>rw [eL (by unfold dn;omega) (q_0.done (by omega)) (q_1.done (by omega)) (q_2.done (by omega)) (q_3.fault (by omega) (f:=1) (by unfold eu eX ej;grind) (by decide))]
 case a1=>
  simp only [bl,reduceCtorEq] at h21
  rw [eL (by unfold dn;omega) (q_0.done (by omega)) (q_1.done (by omega)) (q_2.done (by omega)) (q_3.fault (by omega) (f:=1) (by unfold eu eX ej;grind) (by decide))]
 case a2|a3|a6=>
  simp only [bl,reduceCtorEq] at h21
  rw [eL (by unfold dn;omega) (q_0.done (by omega)) (q_1.done (by omega)) (q_2.done (by omega)) (q_3.fault (by omega) (f:=3) (by unfold eu eX ej;grind) (by decide))]
 case a4|af|ar=>
  simp only [bl,reduceCtorEq] at h21
  simp only [aC,aG] at *;omega
 case a5=>
  simp only [bl,reduceCtorEq] at h21
  omega
 case a7|a8=>
  simp only [bl,reduceCtorEq] at h21 h29
  rw [eL (by unfold dn;omega) (q_0.done (by omega)) (q_1.done (by omega)) (q_2.done (by omega)) (q_3.fault (by omega) (f:=3) (by unfold eu eX ej;grind) (by decide))]
 case a9=>
  simp only [bl,reduceCtorEq] at h21 h29
  rw [eL (by unfold dn;omega) (q_0.done (by omega)) (q_1.done (by omega)) (q_2.done (by omega)) (q_3.fault (by omega) (f:=aK (nth aJ o.2.2.2.1 x_3).2.2.2.1) (by unfold eu eX ej;grind) (by omega))]
 case aa=>
  simp only [bl,reduceCtorEq] at h21 h29
  dsimp only [D] at *;omega
 case ab|ad=>
  simp only [bl,reduceCtorEq] at h21 h29
  have:=cj (nth aJ o.2.2.2.1 x_3).2.2.2.1;exact ⟨x_3 + 1,q_3.next (by omega) (by unfold eu eX ej;grind),by omega,⟨by omega,trivial⟩,(by trivial)⟩
 case ac=>
  simp only [bl,reduceCtorEq] at h21 h29
  simp only [aC,aG] at *;omega
 case ae|aq=>
  simp only [bl,reduceCtorEq] at h21
  rw [eL (by unfold dn;omega) (q_0.done (by omega)) (q_1.done (by omega)) (q_2.done (by omega)) (q_3.fault (by omega) (f:=aK (nth aJ o.2.2.2.1 x_3).2.2.2.1) (by unfold eu eX ej;grind) (by omega))]
 case ag|ai|au|aw=>
  simp only [bl,reduceCtorEq] at h21
  have:=cj (nth aJ o.2.2.2.1 x_3).2.2.2.1;exact ⟨x_3 + 1,q_3.next (by omega) (by unfold eu eX ej;grind),by omega,⟨by omega,trivial⟩,(by trivial)⟩
 case ah|av=>
  simp only [bl,reduceCtorEq] at h21
  dsimp only [D] at *;omega
 case aj|ak=>
  simp only [bl,reduceCtorEq] at h21 h26
  rw [eL (by unfold dn;omega) (q_0.done (by omega)) (q_1.done (by omega)) (q_2.done (by omega)) (q_3.fault (by omega) (f:=3) (by unfold eu eX ej;grind) (by decide))]
 case al=>
  simp only [bl,reduceCtorEq] at h21 h26
  rw [eL (by unfold dn;omega) (q_0.done (by omega)) (q_1.done (by omega)) (q_2.done (by omega)) (q_3.fault (by omega) (f:=aK (nth aJ o.2.2.2.1 x_3).2.2.2.1) (by unfold eu eX ej;grind) (by omega))]
 case am=>
  simp only [bl,reduceCtorEq] at h21 h26
  dsimp only [D] at *;omega
 case an|ap=>
  simp only [bl,reduceCtorEq] at h21 h26
  have:=cj (nth aJ o.2.2.2.1 x_3).2.2.2.1;exact ⟨x_3 + 1,q_3.next (by omega) (by unfold eu eX ej;grind),by omega,⟨by omega,trivial⟩,(by trivial)⟩
 case ao=>
  simp only [bl,reduceCtorEq] at h21 h26
  simp only [aC,aG] at *;omega
theorem Tryz.Jl:bG Tryz.prog Tryz.B.eT Tryz.X 103 [aA] [.int .i64] (fun _=>True) (fun x y=>y=(fun o=>bN o) x):=
 bI (X:=Tryz.X) Tryz.El Tryz.func103 (by kernel_rfl) (fun x=>zT x) (fun x hw hp=>Jk x hw)
theorem Hf (b:Bool) (hw:c8 [.bool] b):(cp Tryz.B [] Tryz.f127 [] [.bool] [.str] (fun x y=>y=(fun b=>db b) x) b).holds:=by
 refine holds_of (p:=
  (((b)=true->([(119:UInt8),101,97,107,32]=db b))/\((b)=false->(@List.nil UInt8=db b)))) (by kernel_rfl) ?_
 refine ⟨fun h0 => ?a,fun h0 => ?b⟩
 case a|b=>cases b <;> first | rfl | simp_all
theorem Tryz.Hg:bG Tryz.prog Tryz.B.eT Tryz.X 127 [.bool] [.str] (fun _=>True) (fun x y=>y=(fun b=>db b) x):=
 bI (X:=Tryz.X) (bY Tryz.bZ) Tryz.func127 (by kernel_rfl) (fun _=>[]) (fun x hw hp=>Hf x hw)
end Go.Proofs.YtgokjhhcfemnhaaGreatDoor

namespace Go.Proofs.YtgokjhhcfemnhaaGreatDoor
open Go.RowKit Go.Vg
theorem Tryz.Oc:(Tryz.prog.info? 214).map (·.size)=some 2:=by kernel_rfl
theorem Tryz.On:liesAt Tryz.prog Tryz.prog.depth 214 (2 / Tryz.prog.cellsOf 214) 0 214 1=true:=by kernel_rfl
set_option maxHeartbeats 1000000 in
set_option maxRecDepth 100000 in
theorem Tryz.Hh (b:Nat) (v:Value) (w:World) (hb:w.heap[b]?=some (.cells #[.pointer (some ⟨b,0,none⟩),v] 214 (0,0))) :
  Calls Tryz.prog 142 #[.pointer (some ⟨b,0,none⟩)] w fun e w'=>e = .returned (.tuple #[])/\w'=w:=by
 obtain ⟨j,hj,_⟩:=Option.map_eq_some_iff.1 Tryz.Oc
 have h0:w.cell? ⟨b,0,none⟩=some (.pointer (some ⟨b,0,none⟩)):=by rw [Lib.cell_of_heap hb];rfl
 go_enter Tryz.func142,Tryz.ntmps142
 go_wp2
 rw [Lib.run_neq_ptr_same w _ Tryz.underlying212 hj]
 go_wp2
 go_end0
 exact ⟨rfl,rfl⟩
set_option maxHeartbeats 1000000 in
set_option maxRecDepth 100000 in
theorem Tryz.Em (b:Nat) (v:Value) (w:World) (hb:w.heap[b]?=some (.cells #[.pointer none,v] 214 (0,0))) :
  Calls Tryz.prog 142 #[.pointer (some ⟨b,0,none⟩)] w fun e w'=>e = .returned (.tuple #[])/\w'=w.setCell ⟨b,0,none⟩ (.pointer (some ⟨b,0,none⟩)):=by
 obtain ⟨j,hj,hjs⟩:=Option.map_eq_some_iff.1 Tryz.Oc
 have h0:w.cell? ⟨b,0,none⟩=some (.pointer none):=by rw [Lib.cell_of_heap hb];rfl
 have hsh:w.shape? b=some (214,2):=by simp [World.shape?,hb]
 have hfz:w.frozen? ⟨b,0,none⟩=false:=Lib.frozen_of_heap hb 0
 go_enter Tryz.func142,Tryz.ntmps142
 go_wp2
 rw [Lib.run_to_unsafe w ⟨b,0,none⟩ Tryz.underlying212 Tryz.underlying251 hj (by rw [hjs];decide) hsh (Nat.zero_lt_succ 1)]
 simp only [Result.andThen]
 rw [Oper.upon_value]
 go_wp2
 rw [run_callFunc_extern Tryz.func170 (by kernel_rfl) (by kernel_rfl) (by kernel_rfl) (e:=Extern.AbiNoEscape.same) (by kernel_rfl)]
 rw [Lib.run_noEscape]
 simp only [Result.andThen]
 rw [Oper.upon_value]
 go_wp2
 rw [Lib.run_from_unsafe w ⟨b,0,none⟩ Tryz.underlying251 Tryz.underlying212 hj hsh Tryz.On]
 simp only [Result.andThen]
 rw [Oper.upon_value]
 go_wp2
 go_end0
 exact ⟨rfl,rfl⟩
theorem Tryz.Oo:(Tryz.prog.info? 5).map (fun i=>(i.zero,i.size,i.bytes))=some (some (.int .u8 0),1,1):=by kernel_rfl
theorem Tryz.Oj:Tryz.prog.cellsOf 5=1:=by kernel_rfl
set_option maxHeartbeats 2000000 in
set_option maxRecDepth 100000 in
theorem Tryz.Jm (b:Nat) (p v:Value) (xs:List Value) (s:ByteArray) (w:World) (hb:w.heap[b]?=some (.cells #[p,v] 214 (0,0))) (hp:p = .pointer none\/p = .pointer (some ⟨b,0,none⟩))
  (hown:w.ownsRow 0 5 1 v xs.length xs) (hne:v.ownBlock≠some b) (hcap:∀a n c,v = .slice (some a) n c->0 < c) (hlen:xs.length + s.size<=140737488355328) :
  Calls Tryz.prog 119 #[.pointer (some ⟨b,0,none⟩), .string s] w fun e w'=>e = .returned (.tuple #[.int .i64 s.size, .nilIface])/\
   ∃v',w'.heap[b]?=some (.cells #[.pointer (some ⟨b,0,none⟩),v'] 214 (0,0))/\w'.ownsRow 0 5 1 v' (xs.length + s.size) (xs++Lib.strCells s)/\v'.ownBlock≠some b/\Kept b v w w'/\
    (∀a n c,v' = .slice (some a) n c->0 < c)/\(∀g,v'.ownBlock=some g->v.ownBlock=some g\/w.heap.size<=g):=by
 obtain ⟨i0,hi,hz0⟩:=Option.map_eq_some_iff.1 Tryz.Oo
 simp only [Prod.mk.injEq] at hz0
 obtain ⟨hz0,hz1,hz2⟩:=hz0
 have hchk:Calls Tryz.prog 142 #[.pointer (some ⟨b,0,none⟩)] w fun e w1=>e = .returned (.tuple #[])/\w1.heap[b]?=some (.cells #[.pointer (some ⟨b,0,none⟩),v] 214 (0,0))/\
   w1.os=w.os/\w1.output=w.output/\w1.heap.size=w.heap.size/\∀k,k≠b->w1.heap[k]?=w.heap[k]?:=by
  rcases hp with rfl | rfl
  ·refine (Tryz.Em b v w hb).mono ?_
   rintro e w1 ⟨rfl,rfl⟩
   exact ⟨rfl,(Nh hb).trans (by simp),rfl,rfl,Go.Deep.nblk_setCell _ _ _,fun k hk=>Go.Deep.blk_setCell_other _ _ _ _ hk⟩
  ·refine (Tryz.Hh b v w hb).mono ?_
   rintro e w1 ⟨rfl,rfl⟩
   exact ⟨rfl,hb,rfl,rfl,rfl,fun _ _=>rfl⟩
 go_enter Tryz.func119,Tryz.ntmps119
 go_wp2_with (go_at_call 142;refine hchk.mono ?_)
 rintro e w1 ⟨rfl,hb1,ho1,hu1,hs1,hk1⟩
 have hown1:w1.ownsRow 0 5 1 v xs.length xs:=by
  refine ⟨hown.1,?_⟩
  rcases hown.2 with h | ⟨g,cap,cur,h1,h2,h3,h4⟩
  ·exact .inl h
  ·refine .inr ⟨g,cap,cur,h1,h2,?_,h4⟩
   rw [hk1 g (fun e=>hne (by rw [h1,e];rfl))];exact h3
 have c0:w1.cell? ⟨b,0,none⟩=some (.pointer (some ⟨b,0,none⟩)):=by rw [Lib.cell_of_heap hb1];rfl
 have c1:w1.cell? ⟨b,1,none⟩=some v:=by rw [Lib.cell_of_heap hb1];rfl
 obtain ⟨v',w2,hrun,hown',hgrow,hcap',hnew⟩:=Mp (t:=153) (u:=9) (ty:=153) Tryz.underlying153 Tryz.underlying9 hi hz0 hz1 hz2 hown1 hcap s hlen
 have hlt:b < w1.heap.size:=(Array.getElem?_eq_some_iff.1 hb1).1
 have hb2:w2.heap[b]?=some (.cells #[.pointer (some ⟨b,0,none⟩),v] 214 (0,0)):=by rw [hgrow.block b hlt (fun e=>hne e.symm)];exact hb1
 have d1:w2.cell? ⟨b,1,none⟩=some v:=by rw [Lib.cell_of_heap hb2];rfl
 have f1:w2.frozen? ⟨b,1,none⟩=false:=Lib.frozen_of_heap hb2 1
 have hne':v'.ownBlock≠some b:=by
  intro e
  rcases hown'.2 with ⟨h,_⟩ | ⟨g',cap,cur,h,_,h3,_⟩
  ·rw [h] at e;cases e
  ·rw [h] at e
   cases e
   rw [hb2] at h3
   cases h3
 have hv1:∃a n c,v' = .slice a n c:=by
  rcases hown'.2 with ⟨h,_⟩ | ⟨g',cap,cur,h,_⟩ <;> exact ⟨_,_,_,h⟩
 obtain ⟨va,vn,vc,rfl⟩:=hv1
 rw [hs1] at hnew
 go_wp2_with (at_builtin;refine tW rfl _ _ 153 9 rfl rfl rfl hrun ?_)
 go_ret2
 refine ⟨rfl, .slice va vn vc,(Nh hb2).trans (by simp),⟨hown'.1,?_⟩,hne',⟨hgrow.os.trans ho1,hgrow.output.trans hu1,?_,fun k h1 h2 h3 => ?_⟩,hcap',hnew⟩
 ·rcases hown'.2 with h | ⟨g,cap,cur,h1,h2,h3,h4⟩
  ·exact .inl h
  ·refine .inr ⟨g,cap,cur,h1,h2,?_,h4⟩
   rw [Go.Deep.blk_setCell_other _ _ _ _ (fun e=>hne' (by rw [h1,show g=b from e];rfl))]
   exact h3
 ·rw [Go.Deep.nblk_setCell];have:=hgrow.size;omega
 ·rw [Go.Deep.blk_setCell_other _ _ _ _ (show k≠b from h2),hgrow.block k (by omega) (fun e=>h3 e.symm),hk1 k h2]
set_option maxHeartbeats 2000000 in
set_option maxRecDepth 100000 in
theorem Tryz.Hi (b:Nat) (p v:Value) (l:List UInt8) (w:World) (hb:w.heap[b]?=some (.cells #[p,v] 214 (0,0))) (hown:w.ownsRow 0 5 1 v l.length (l.map fun c=>Value.int .u8 c.toNat)) (hcap:∀a n c,v = .slice (some a) n c->0 < c) :
  Calls Tryz.prog 120 #[.pointer (some ⟨b,0,none⟩)] w fun e w'=>e = .returned (.string ⟨l.toArray⟩)/\Gn v w w':=by
 have c1:w.drew.cell? ⟨b,1,none⟩=some v:=by
  have:w.drew.heap[b]?=some (.cells #[p,v] 214 (0,0)):=hb
  rw [Lib.cell_of_heap this];rfl
 have mixed:Tryz.prog.follows .mixedOrders=true:=by kernel_rfl
 by_cases h0:l = []
 ·subst h0
  obtain ⟨q,n,c,rfl,hn,hSD⟩:∃q n c,v = .slice q n c/\n=0/\(Builtin.unsafeSliceData_ #[153] 233 #[v]).run Tryz.prog w.drew = .ok (.pointer q) w.drew:=by
   rcases hown.2 with ⟨rfl,_⟩ | ⟨g,cap,cur,rfl,_⟩
   ·exact ⟨none,0,0,rfl,rfl,Lib.run_unsafeSliceData_nil _ _ _ _ _⟩
   ·exact ⟨_,_,_,rfl,rfl,Lib.run_unsafeSliceData_row _ _ _ _ _ _ (by have:=hcap _ _ _ rfl;omega)⟩
  subst hn
  have hUS:(Builtin.unsafeString_ #[233,3] 9 #[.pointer q, .int .i64 0]).run Tryz.prog w.drew = .ok (.string .empty) w.drew:=Lib.run_unsafeString_none _ _ _ _ q
  go_enter Tryz.func120,Tryz.ntmps120
  go_wp2
  go_region_o
  all_goals (go_wp2;go_ret;exact ⟨rfl,rfl,rfl,rfl,fun _ _=>rfl⟩)
 ·have hl0:l.length≠0:=by simpa using h0
  rcases hown.2 with ⟨_,hz⟩ | ⟨g,cap,cur,rfl,hbg,hg,hnc,hcm,hcs,htake⟩
  ·exact absurd hz hl0
  have hSD:(Builtin.unsafeSliceData_ #[153] 233 #[.slice (some ⟨g,0,none⟩) l.length cap]).run Tryz.prog w.drew = .ok (.pointer (some ⟨g,0,none⟩)) w.drew:=Lib.run_unsafeSliceData_row _ _ _ _ _ _ (by omega)
  have hUS:(Builtin.unsafeString_ #[233,3] 9 #[.pointer (some ⟨g,0,none⟩), .int .i64 l.length]).run Tryz.prog w.drew = .ok (.string ⟨l.toArray⟩) (w.drew.freeze ⟨g,0,none⟩ l.length):=by
   refine Lib.run_unsafeString_row w.drew 233 3 9 5 Tryz.underlying233 Tryz.Oj g cur.size (by have hg':w.drew.heap[g]?=some (.cells cur 5 (0,0)):=hg;simp [World.shape?,hg']) l h0 (by omega) (by unfold maxLen at hcm;omega) ?_
   intro j x hx
   exact hown.cells (g:=g) rfl j (.int .u8 x.toNat) (by simp [hx])
  go_enter Tryz.func120,Tryz.ntmps120
  go_wp2
  go_region_o
  all_goals (go_wp2;go_ret;exact ⟨rfl,DM⟩)
theorem Tryz.MJ (b:Nat) (p _q:Value) (a:Option Addr) (n c:Nat) (w:World) (hb:w.heap[b]?=some (.cells #[p, .slice a n c] 214 (0,0))) :
  Calls Tryz.prog 128 #[.pointer (some ⟨b,0,none⟩)] w fun r w'=>r = .returned (.int .i64 n)/\w'=w:=by
 have c1:w.cell? ⟨b,1,none⟩=some (.slice a n c):=by rw [Lib.cell_of_heap hb];rfl
 go_enter Tryz.func128,Tryz.ntmps128
 go_wp2
 go_ret
 exact ⟨rfl,rfl⟩
theorem Tryz.En:cL Tryz.prog Tryz.B.eT Tryz.X 119 false (qE 214 5):=
 wK ⟨Tryz.f119,Tryz.func119,by kernel_rfl,by kernel_rfl⟩ Tryz.Jm
theorem Tryz.CS:cL Tryz.prog Tryz.B.eT Tryz.X 120 false (oA 214 5):=
 vm ⟨Tryz.f120,Tryz.func120,by kernel_rfl,by kernel_rfl⟩ Tryz.Hi
theorem Tryz.Jn:cL Tryz.prog Tryz.B.eT Tryz.X 128 true (wJ 214 5):=
 AA ⟨Tryz.f128,Tryz.func128,by kernel_rfl,by kernel_rfl⟩ Tryz.MJ
end Go.Proofs.YtgokjhhcfemnhaaGreatDoor

namespace Go.Proofs.YtgokjhhcfemnhaaGreatDoor
open Go.Vg Go.Mrl
noncomputable def Tryz.CT:List (FuncId × (Bool × bQ)):=[(87,(true,aM [.str] [.err] (fun _=>True) (fun s=>aY (aK s)))),
 (94,(true,aM [.str] [.int .i64] (fun _=>True) (fun s=>aK s))),
 (9,(true,aM [.err, .int .i64] [.bool] (fun _=>True) (fun x=>cG x.1 x.2))),
 (119,(false,qE 214 5)),
 (120,(false,oA 214 5)),
 (128,(true,wJ 214 5)),
 (118,(true,aM [.int .i64] [.str] (fun _=>True) (fun n=>Lib.itoa n))),
 (126,(true,aM [aA] [.err] (fun _=>True) (fun o=>aY (bN o)))),
 (127,(true,aM [.bool] [.str] (fun _=>True) (fun b=>db b)))]
theorem Tryz.Hj:bU Tryz.prog Tryz.B Tryz.X Tryz.CT:=
 aS (aE Tryz.fM) (aS (aE Tryz.dz) (aS (aE Tryz.gv) (aS (Tryz.En) (aS (Tryz.CS) (aS (Tryz.Jn) (aS (aE Tryz.rk) (aS (aE Tryz.Jj) (aS (aE Tryz.Hg) (bY Tryz.bZ)))))))))
def CU (o:D aA):cy:=[
 (0,fun st=>{X:=Nat,inv:=fun i=>i<=o.1.length,aW:=fun i=>o.1.length - i,aQ:=fun i=>[(23,sI i)],aU:=[1,2,3,5,6,21,22],aF:=fun i=>[(aR st 5, .ext 2 gL (cD (gh o i),(214:Int),(5:Int),()))],dq:=[aR st 5]}),
 (2,fun st=>{X:=Nat,inv:=fun i=>i<=o.2.1.length,aW:=fun i=>o.2.1.length - i,aQ:=fun i=>[(35,sI i)],aU:=[1,2,3,5,6,33,34],aF:=fun i=>[(aR st 5, .ext 2 gL (cD (fL o i),(214:Int),(5:Int),()))],dq:=[aR st 5]}),
 (4,fun st=>{X:=Nat,inv:=fun i=>i<=o.2.2.1.length,aW:=fun i=>o.2.2.1.length - i,aQ:=fun i=>[(49,sI i)],aU:=[1,2,3,5,6,47,48],aF:=fun i=>[(aR st 5, .ext 2 gL (cD (ew o i),(214:Int),(5:Int),()))],dq:=[aR st 5]}),
 (6,fun st=>{X:=Nat,inv:=fun i=>i<=o.2.2.2.1.length,aW:=fun i=>o.2.2.2.1.length - i,aQ:=fun i=>[(72,sI i)],aU:=[2,3,5,6,70,71],aF:=fun i=>[(aR st 5, .ext 2 gL (cD (cR o i),(214:Int),(5:Int),()))],dq:=[aR st 5]})]
theorem Ls (o:D aA) (hw:c8 [aA] o):(cp (ir Tryz.B [41,64,91,85,104,110,123,129]) Tryz.CT Tryz.f98 (CU o) [aA] [.str, .err] (fun x y=>y=(fun o=>gj o) x) o).holds:=by
 refine holds_of (p:=
  let za:=aY (bN o)
  let zb:=gj o
  let zc:=List.length o.1
  let zd:=(↑(214:Nat):Int)
  let ze:=fun (b:UInt8)=>(↑(UInt8.toNat b):Int)
  let zf:=((214:Int),(5:Int),())
  let zg:=fun (x_0:Nat)=>(↑x_0:Int)
  let zh:=fun (x_0:Nat)=>(0:Int)<=zg x_0
  let zi:=[(110:UInt8),101,101,100,32]
  let zj:=[(10:UInt8)]
  let zk:=List.length zj
  let zl:=(214:Int)=zd
  let zm:=(↑(5:Nat):Int)
  let zn:=(5:Int)=zm
  let zo:=fun (x_0:Nat)=>List.map ze (gh o x_0)
  let zp:=fun (x_0:Nat)=>zi++nth Ty.str o.1 x_0++zj
  let zq:=fun (x_0:Nat)=>aC (zg x_0)
  let zr:=aC (1:Int)
  let zs:=fun (x_0:Nat)=>zg x_0 + (1:Int)
  let zt:=fun (x_0:Nat)=>aC (zs x_0)
  let zu:=(zd,zm,())
  let zv:=o.2.1
  let zw:=o.2.2.1
  let zx:=o.2.2.2.1
  let zy:=(o.1=o.1/\zv=zv/\zw=zw/\zx=zx/\True)/\True
  let zz:=List.length zv
  let zaa:=[(119:UInt8),111,114,100,32]
  let zab:=fun (x_1:Nat)=>zaa++Lib.itoa (nth (Ty.int IntKind.i64) zv x_1)
  let zac:=fun (x_1:Nat)=>List.map ze (fL o x_1)
  let zad:=List.length zw
  let zae:=fun (x_2:Nat)=>db (nth aI zw x_2).2.2.1
  let zaf:=[(115:UInt8),121,109,98,111,108,32]
  let zag:=fun (x_2:Nat)=>zae x_2++zaf++(nth aI zw x_2).1
  let zah:=[(32:UInt8)]
  let zai:=List.length zah
  let zaj:=fun (x_2:Nat)=>Lib.itoa (nth aI zw x_2).2.1
  let zak:=fun (x_2:Nat)=>List.map ze (ew o x_2)
  let zal:=fun (x_2:Nat)=>zag x_2++zah++zaj x_2++zj
  let zam:=List.length zx
  let zan:=[(98:UInt8),97,115,101,32]
  let zao:=fun (x_3:Nat)=>Lib.itoa (nth aJ zx x_3).1
  let zap:=fun (x_3:Nat)=>Lib.itoa (nth aJ zx x_3).2.2.1
  let zaq:=fun (x_3:Nat)=>zan++zao x_3++zah++zap x_3
  let zar:=fun (x_3:Nat)=>List.map ze (cR o x_3)
  let zas:=fun (x_3:Nat)=>List.length (zar x_3)
  let zat:=fun (x_3:Nat)=>db (nth aJ zx x_3).2.2.2.2.1
  let zau:=[(119:UInt8),104,111,108,101,32]
  let zav:=fun (x_3:Nat)=>zat x_3++zau++zao x_3++zah
  let zaw:=fun (x_3:Nat)=>(nth aJ zx x_3).2.2.2.1
  let zax:=fun (x_3:Nat)=>zav x_3++zap x_3++zah++zaw x_3
  let zay:=[(110:UInt8),101,97,114,32]
  let zaz:=fun (x_3:Nat)=>zat x_3++zay++zao x_3++zah
  let zba:=fun (x_3:Nat)=>zaz x_3++zap x_3++zah++zaw x_3
  (True)/\(((!bB.isNil za)=true->(([],za)=zb))/\((!bB.isNil za)=false->((zc<=aG)->(∃(x:Nat),x<=zc/\((0:Int)=(↑x:Int)/\True)/\([],zd,(↑(5:TypeId):Int),())=(List.map ze (gh o x),zf)/\True)/\(∀x_0:Nat,((x_0<=zc)->(((decide (zg x_0 < (↑zc:Int)))=true->(zh x_0/\zg x_0 < (↑zc:Int))/\(List.length zi + List.length (nth Ty.str o.1 x_0)<=aG)/\(List.length (zi++nth Ty.str o.1 x_0) + zk<=aG)/\(zl/\zn/\List.length (zo x_0) + List.length (zp x_0)<=(140737488355328:Nat))/\((zq x_0)->((zr)->(zt x_0)/\(∃(x':Nat),x'<=zc/\zc - x' < zc - x_0/\(zs x_0=(↑x':Int)/\True)/\(zo x_0++List.map ze (zp x_0),zu)=(List.map ze (gh o x'),zf)/\zy))))/\((decide (zg x_0 < (↑zc:Int)))=false->((zz<=aG)->(∃(x:Nat),x<=zz/\((0:Int)=(↑x:Int)/\True)/\(zo x_0,zf)=(List.map ze (fL o x),zf)/\True)/\(∀x_1:Nat,((x_1<=zz)->(((decide (zg x_1 < (↑zz:Int)))=true->(zh x_1/\zg x_1 < (↑zz:Int))/\(True)/\(List.length zaa + List.length (Lib.itoa (nth (Ty.int IntKind.i64) zv x_1))<=aG)/\(List.length (zab x_1) + zk<=aG)/\(zl/\zn/\List.length (zac x_1) + List.length (zab x_1++zj)<=(140737488355328:Nat))/\((zq x_1)->((zr)->(zt x_1)/\(∃(x':Nat),x'<=zz/\zz - x' < zz - x_1/\(zs x_1=(↑x':Int)/\True)/\(zac x_1++List.map ze (zab x_1++zj),zu)=(List.map ze (fL o x'),zf)/\zy))))/\((decide (zg x_1 < (↑zz:Int)))=false->((zad<=aG)->(∃(x:Nat),x<=zad/\((0:Int)=(↑x:Int)/\True)/\(zac x_1,zf)=(List.map ze (ew o x),zf)/\True)/\(∀x_2:Nat,((x_2<=zad)->(((decide (zg x_2 < (↑zad:Int)))=true->(zh x_2/\zg x_2 < (↑zad:Int))/\(True)/\(List.length (zae x_2) + List.length zaf<=aG)/\(List.length (zae x_2++zaf) + List.length (nth aI zw x_2).1<=aG)/\(List.length (zag x_2) + zai<=aG)/\(True)/\(List.length (zag x_2++zah) + List.length (zaj x_2)<=aG)/\(List.length (zag x_2++zah++zaj x_2) + zk<=aG)/\(zl/\zn/\List.length (zak x_2) + List.length (zal x_2)<=(140737488355328:Nat))/\((zq x_2)->((zr)->(zt x_2)/\(∃(x':Nat),x'<=zad/\zad - x' < zad - x_2/\(zs x_2=(↑x':Int)/\True)/\(zak x_2++List.map ze (zal x_2),zu)=(List.map ze (ew o x'),zf)/\zy))))/\((decide (zg x_2 < (↑zad:Int)))=false->((zam<=aG)->(∃(x:Nat),x<=zam/\((0:Int)=(↑x:Int)/\True)/\(zak x_2,zf)=(List.map ze (cR o x),zf)/\True)/\(∀x_3:Nat,((x_3<=zam)->(((decide (zg x_3 < (↑zam:Int)))=true->(zh x_3/\zg x_3 < (↑zam:Int))/\((((nth aJ zx x_3).2.1 == (1:Int))=true->(True)/\(List.length zan + List.length (zao x_3)<=aG)/\(List.length (zan++zao x_3) + zai<=aG)/\(True)/\(List.length (zan++zao x_3++zah) + List.length (zap x_3)<=aG)/\(List.length (zaq x_3) + zk<=aG)/\(zl/\zn/\zas x_3 + List.length (zaq x_3++zj)<=(140737488355328:Nat))/\((zq x_3)->((zr)->(zt x_3)/\(∃(x':Nat),x'<=zam/\zam - x' < zam - x_3/\(zs x_3=(↑x':Int)/\True)/\(zar x_3++List.map ze (zaq x_3++zj),zu)=(List.map ze (cR o x'),zf)/\zy))))/\(((nth aJ zx x_3).2.1 == (1:Int))=false->((((nth aJ zx x_3).2.1 == (2:Int))=true->(True)/\(List.length (zat x_3) + List.length zau<=aG)/\(True)/\(List.length (zat x_3++zau) + List.length (zao x_3)<=aG)/\(List.length (zat x_3++zau++zao x_3) + zai<=aG)/\(True)/\(List.length (zav x_3) + List.length (zap x_3)<=aG)/\(List.length (zav x_3++zap x_3) + zai<=aG)/\(List.length (zav x_3++zap x_3++zah) + List.length (zaw x_3)<=aG)/\(List.length (zax x_3) + zk<=aG)/\(zl/\zn/\zas x_3 + List.length (zax x_3++zj)<=(140737488355328:Nat))/\((zq x_3)->((zr)->(zt x_3)/\(∃(x':Nat),x'<=zam/\zam - x' < zam - x_3/\(zs x_3=(↑x':Int)/\True)/\(zar x_3++List.map ze (zax x_3++zj),zu)=(List.map ze (cR o x'),zf)/\zy))))/\(((nth aJ zx x_3).2.1 == (2:Int))=false->(True)/\(List.length (zat x_3) + List.length zay<=aG)/\(True)/\(List.length (zat x_3++zay) + List.length (zao x_3)<=aG)/\(List.length (zat x_3++zay++zao x_3) + zai<=aG)/\(True)/\(List.length (zaz x_3) + List.length (zap x_3)<=aG)/\(List.length (zaz x_3++zap x_3) + zai<=aG)/\(List.length (zaz x_3++zap x_3++zah) + List.length (zaw x_3)<=aG)/\(List.length (zba x_3) + zk<=aG)/\(zl/\zn/\zas x_3 + List.length (zba x_3++zj)<=(140737488355328:Nat))/\((zq x_3)->((zr)->(zt x_3)/\(∃(x':Nat),x'<=zam/\zam - x' < zam - x_3/\(zs x_3=(↑x':Int)/\True)/\(zar x_3++List.map ze (zba x_3++zj),zu)=(List.map ze (cR o x'),zf)/\zy))))))))/\((decide (zg x_3 < (↑zam:Int)))=false->(zl/\zn)/\(((decide ((↑(zas x_3):Int) > (1200:Int)))=true->(([],bB.no (2:Int))=zb))/\((decide ((↑(zas x_3):Int) > (1200:Int)))=false->(zl/\zn)/\((bytesOf (zar x_3),bB.nil)=zb)))))))))))))))))))))))))) (by kernel_rfl) ?_
 dsimp -iota -proj -eta only
 refine ⟨trivial,⟨fun h0 => ?a,fun h0 h1=>⟨?b,fun x_0 q_0=>iL (fun h2=>⟨?c,?d,?e,?f,fun h3 h4=>⟨?g,?h⟩⟩) (fun h2 h3=>⟨?i,fun x_1 q_1=>iL (fun h4=>⟨?j,trivial,?k,?l,?m,fun h5 h6=>⟨?n,?o⟩⟩) (fun h4 h5=>⟨?p,fun x_2 q_2=>iL (fun h6=>⟨?q,trivial,?r,?s,?t,trivial,?u,?v,?w,fun h7 h8=>⟨?x,?y⟩⟩) (fun h6 h7=>⟨?z,fun x_3 q_3=>iL (fun h8=>⟨?a0,iQ (fun h9=>⟨trivial,?a1,?a2,trivial,?a3,?a4,?a5,fun h10 h11=>⟨?a6,?a7⟩⟩) (fun h9=>iQ (fun h10=>⟨trivial,?a8,trivial,?a9,?aa,trivial,?ab,?ac,?ad,?ae,?af,fun h11 h12=>⟨?ag,?ah⟩⟩) (fun h10=>⟨trivial,?ai,trivial,?aj,?ak,trivial,?al,?am,?an,?ao,?ap,fun h11 h12=>⟨?aq,?ar⟩⟩))⟩) (fun h8=>⟨?au,iL (fun h9 => ?av) (fun h9=>⟨?aw,?ax⟩)⟩)⟩)⟩)⟩)⟩⟩⟩
 case a=>
  simp only [bl,reduceCtorEq] at h0
  rw [y5 (fun e=>by rw [bL.2 e] at h0;cases h0)]
 case b=>
  simp only [bl,reduceCtorEq] at h0
  exact ⟨0,by omega,⟨rfl,trivial⟩,rfl,trivial⟩
 case c|j|q|a0=>
  simp only [bl,reduceCtorEq] at h0
  omega
 case d|e=>
  simp only [bl,reduceCtorEq] at h0
  have a:=sY (ee (bL.1 h0)) (i:=x_0) (by omega);simp only [List.length_append,List.length_cons,List.length_nil,List.length_map,aG];omega
 case f|m|w|a5|af|ap=>
  simp only [bl,reduceCtorEq] at h0
  exact ⟨rfl,rfl,by first | (have a:=vu (ee (bL.1 h0)) (i:=x_3) (by omega);simp only [List.length_append,List.length_cons,List.length_nil,List.length_map,aG];omega) | (have a:=vt (ee (bL.1 h0)) (i:=x_2) (by omega);simp only [List.length_append,List.length_cons,List.length_nil,List.length_map,aG];omega) | (have a:=sZ (ee (bL.1 h0)) (i:=x_1) (by omega);simp only [List.length_append,List.length_cons,List.length_nil,List.length_map,aG];omega) | (have a:=sY (ee (bL.1 h0)) (i:=x_0) (by omega);simp only [List.length_append,List.length_cons,List.length_nil,List.length_map,aG];omega)⟩
 case g|n|x|a6|ag|aq=>
  simp only [bl,reduceCtorEq] at h0
  simp only [aC,aG] at *;omega
 case h=>
  simp only [bl,reduceCtorEq] at h0
  exact ⟨x_0 + 1,by omega,by omega,⟨by omega,trivial⟩,lX (yU (by omega)),(by trivial)⟩
 case i=>
  simp only [bl,reduceCtorEq] at h0
  exact ⟨0,by omega,⟨rfl,trivial⟩,vw (by rw [yW,show x_0=o.1.length by omega]),trivial⟩
 case k|l=>
  simp only [bl,reduceCtorEq] at h0
  have a:=sZ (ee (bL.1 h0)) (i:=x_1) (by omega);simp only [List.length_append,List.length_cons,List.length_nil,List.length_map,aG];omega
 case o=>
  simp only [bl,reduceCtorEq] at h0
  exact ⟨x_1 + 1,by omega,by omega,⟨by omega,trivial⟩,lX (yV (by omega)),(by trivial)⟩
 case p=>
  simp only [bl,reduceCtorEq] at h0
  exact ⟨0,by omega,⟨rfl,trivial⟩,vw (by rw [yX,show x_1=o.2.1.length by omega]),trivial⟩
 case r|s|t|u|v=>
  simp only [bl,reduceCtorEq] at h0
  have a:=vt (ee (bL.1 h0)) (i:=x_2) (by omega);simp only [List.length_append,List.length_cons,List.length_nil,List.length_map,aG];omega
 case y=>
  simp only [bl,reduceCtorEq] at h0
  exact ⟨x_2 + 1,by omega,by omega,⟨by omega,trivial⟩,lX (sW (by omega)),(by trivial)⟩
 case z=>
  simp only [bl,reduceCtorEq] at h0
  exact ⟨0,by omega,⟨rfl,trivial⟩,vw (by rw [yY,show x_2=o.2.2.1.length by omega]),trivial⟩
 case a1|a2|a3|a4|a8|a9|aa|ab|ac|ad|ae|ai|aj|ak|al|am|an|ao=>
  simp only [bl,reduceCtorEq] at h0
  have a:=vu (ee (bL.1 h0)) (i:=x_3) (by omega);simp only [List.length_append,List.length_cons,List.length_nil,List.length_map,aG];omega
 case a7=>
  simp only [bl,reduceCtorEq] at h0
  exact ⟨x_3 + 1,by omega,by omega,⟨by omega,trivial⟩,lX (wW (by omega) h9),(by trivial)⟩
 case ah=>
  simp only [bl,reduceCtorEq] at h0
  exact ⟨x_3 + 1,by omega,by omega,⟨by omega,trivial⟩,lX (qT (by omega) h9 h10),(by trivial)⟩
 case ar=>
  simp only [bl,reduceCtorEq] at h0
  exact ⟨x_3 + 1,by omega,by omega,⟨by omega,trivial⟩,lX (qU (by omega) h9 h10),(by trivial)⟩
 case au|aw=>
  simp only [bl,reduceCtorEq] at h0
  trivial
 case av=>
  simp only [bl,reduceCtorEq] at h0
  rw [wX (bL.1 h0) (show x_3=_ by omega) (by simp only [List.length_map] at h9;omega)]
 case ax=>
  simp only [bl,reduceCtorEq] at h0
  rw [qV (bL.1 h0) (show x_3=_ by omega) (by simp only [List.length_map] at h9;omega)];exact congrArg (·,bB.nil) (Gp _)
theorem Tryz.Lt:bG Tryz.prog Tryz.B.eT Tryz.X 98 [aA] [.str, .err] (fun _=>True) (fun x y=>y=(fun o=>gj o) x):=
 bI (B:=(ir Tryz.B [41,64,91,85,104,110,123,129])) (X:=Tryz.X) (bU.hint (l:=[41,64,91,85,104,110,123,129]) Tryz.Hj) Tryz.func98 (by kernel_rfl) (fun x=>CU x) (fun x hw hp=>Ls x hw)
end Go.Proofs.YtgokjhhcfemnhaaGreatDoor

namespace Go.Proofs.YtgokjhhcfemnhaaGreatDoor
open Go.Vg Go.Mrl
noncomputable def Tryz.CV:List (FuncId × (Bool × bQ)):=[(118,(true,aM [.int .i64] [.str] (fun _=>True) (fun n=>Lib.itoa n))),
 (117,(true,aM [.str] [.int .i64, .err] (fun s=>s.length<=281474976710656) (fun s=>da s))),
 (124,(true,aM [.str, .str] [.str, .bool] (fun _=>True) (fun x=>(Lib.trimPrefix x.1 x.2,Lib.hasPrefix x.1 x.2)))),
 (82,(true,aM [.str, .str] [.str] (fun _=>True) (fun x=>Lib.trimSuffix x.1 x.2))),
 (81,(true,aM [.str, .str] [.slice .str] (fun x=>x.1.length < 4294967281/\x.2.length=1) (fun x=>parts (L2 x.2) x.1))),
 (98,(true,aM [aA] [.str, .err] (fun _=>True) (fun o=>gj o))),
 (97,(false,bM Tryz.kT [.obj 0, .d .str, .obj 5] (fun a x=>a.1.length<=1000000/\x.2.1.length<=1000000/\x.2.2.1.length<=1000000/\x.2.2.2.1.length<=1000000/\x.2.2.2.2.1.length<=1000000) Tryz.vK))]
theorem Tryz.Hk:bU Tryz.prog Tryz.B Tryz.X Tryz.CV:=
 aS (aE Tryz.rk) (aS (aE Tryz.vI) (aS (aE Tryz.nX) (aS (aE Tryz.mK) (aS (aE Tryz.vJ) (aS (aE Tryz.Lt) (aS (Tryz.Lo) (bY Tryz.bZ)))))))
def CW (s:List UInt8):cy:=[(200000,fun st=>{X:=Nat × D aA × Bool,inv:=fun x=>hJ (parts 10 (Lib.trimSuffix s [10])) x.1 x.2.1 x.2.2,aW:=fun x=>List.length (parts 10 (Lib.trimSuffix s [10])) - x.1,aQ:=fun x=>[(19,sI x.1)],aU:=[0,2,3,4,5,17,18],aO:=Tryz.kT,refs:=[(4,0),(5,5)],pd:=fun x=>IN x.2})]
theorem Jo (s:List UInt8) (hw:c8 [.str] s):(cp Tryz.B Tryz.CV Tryz.f68 (CW s) [.str] [aA, .err] (fun x y=>y=(fun s=>kg s) x) s).holds:=by
 refine holds_of (p:=
  let za:=([],[],[],[],())
  let zb:=kg s
  let zc:=Lib.trimSuffix s [(10:UInt8)]
  let zd:=parts (10:UInt8) zc
  let ze:=@List.nil (List UInt8) = @List.nil (List UInt8)
  let zf:=@List.nil Int = @List.nil Int
  let zg:=@List.nil (List UInt8 × Int × Bool × Unit) = @List.nil (List UInt8 × Int × Bool × Unit)
  let zh:=@List.nil (Int × Int × Int × List UInt8 × Bool × Unit) = @List.nil (Int × Int × Int × List UInt8 × Bool × Unit)
  let zi:=List UInt8
  let zj:=Nat × (List zi × List Int × List (zi × Int × Bool × Unit) × List (Int × Int × Int × zi × Bool × Unit) × Unit) × Bool
  let zk:=(ze/\zf/\zg/\zh/\True)/\zh/\zg/\zf/\ze/\True
  let zl:=!false
  let zm:=(zl && (zl && (zl && (zl && (zl && true)))))=true
  let zn:=fun (x_0:Nat × (List (List UInt8) × List Int × List (List UInt8 × Int × Bool × Unit) × List (Int × Int × Int × List UInt8 × Bool × Unit) × Unit) × Bool)=>(↑x_0.1:Int) < (↑(List.length zd):Int)
  let zo:=fun (x_0:Nat × (List (List UInt8) × List Int × List (List UInt8 × Int × Bool × Unit) × List (Int × Int × Int × List UInt8 × Bool × Unit) × Unit) × Bool)=>x_0.2.1.2.2.1
  let zp:=fun (x_0:Nat × (List (List UInt8) × List Int × List (List UInt8 × Int × Bool × Unit) × List (Int × Int × Int × List UInt8 × Bool × Unit) × Unit) × Bool)=>x_0.2.1.2.2.2.1
  let zq:=fun (x_0:Nat × (List (List UInt8) × List Int × List (List UInt8 × Int × Bool × Unit) × List (Int × Int × Int × List UInt8 × Bool × Unit) × Unit) × Bool)=>dQ (KP ((),x_0.2.1.1,x_0.2.1.2.1,zo x_0,zp x_0,(x_0.2.2,()),())) x_0.2.2 (nth Ty.str zd x_0.1)
  let zr:=fun (x_0:Nat × (List (List UInt8) × List Int × List (List UInt8 × Int × Bool × Unit) × List (Int × Int × Int × List UInt8 × Bool × Unit) × Unit) × Bool)=>(zq x_0).1.2.2.2.1
  let zs:=(za,bB.no (4:Int))=zb
  ((List.length s<=aG)->(((decide ((↑(List.length s):Int) > (1200:Int)))=true->((za,bB.no (2:Int))=zb))/\((decide ((↑(List.length s):Int) > (1200:Int)))=false->(True)/\(List.length zc < (4294967281:Nat)/\List.length [(10:UInt8)]=(1:Nat))/\((List.length zd<=aG)->(((ze/\zf/\zg/\zh/\∃(x':zj),hJ zd (Prod.fst x') (Prod.snd x').1 (Prod.snd x').2/\True/\((0:Int)=(↑(Prod.fst x'):Int)/\True)/\zk/\zm/\((),[],[],[],[],(false,()),())=IN (Prod.snd x')))/\((∀x_0:Nat × (List (List UInt8) × List Int × List (List UInt8 × Int × Bool × Unit) × List (Int × Int × Int × List UInt8 × Bool × Unit) × Unit) × Bool,((hJ zd x_0.1 x_0.2.1 x_0.2.2)->(((decide (zn x_0))=true->((0:Int)<=(↑x_0.1:Int)/\zn x_0)/\(x_0.2.1.1=x_0.2.1.1)/\(x_0.2.1.2.1=x_0.2.1.2.1)/\(zo x_0=zo x_0)/\(zp x_0=zp x_0)/\(List.length (nth Ty.str zd x_0.1)<=(1000000:Nat)/\List.length x_0.2.1.1<=(1000000:Nat)/\List.length x_0.2.1.2.1<=(1000000:Nat)/\List.length (zo x_0)<=(1000000:Nat)/\List.length (zp x_0)<=(1000000:Nat))/\((True)->((aC (↑x_0.1:Int))->((aC (1:Int))->(aC ((↑x_0.1:Int) + (1:Int)))/\((zq x_0).1.1=(zq x_0).1.1/\(zq x_0).1.2.1=(zq x_0).1.2.1/\(zq x_0).1.2.2.1=(zq x_0).1.2.2.1/\zr x_0=zr x_0/\∃(x':zj),hJ zd (Prod.fst x') (Prod.snd x').1 (Prod.snd x').2/\List.length zd - Prod.fst x' < List.length zd - x_0.1/\((↑x_0.1:Int) + (1:Int)=(↑(Prod.fst x'):Int)/\True)/\zk/\zm/\((),(zq x_0).1.1,(zq x_0).1.2.1,(zq x_0).1.2.2.1,zr x_0,((zq x_0).2,()),())=IN (Prod.snd x'))))))/\((decide (zn x_0))=false->(True)/\(((x_0.2.2)=true->(zs))/\((x_0.2.2)=false->(((!bB.isNil (gj x_0.2.1).2)=true->(zs))/\((!bB.isNil (gj x_0.2.1).2)=false->(((!(gj x_0.2.1).1 == s)=true->(zs))/\((!(gj x_0.2.1).1 == s)=false->((x_0.2.1,bB.nil)=zb)))))))))))))))))) (by kernel_rfl) ?_
 dsimp -iota -proj -eta only
 refine fun h0=>iL (fun h1=>(GV (by omega))) (fun h1=>⟨trivial,(by have:=Mu s [10];exact ⟨by omega,rfl⟩),fun h2=>⟨(⟨rfl,rfl,rfl,rfl,(0,cd aA,false),hJ.zero _,trivial,⟨rfl,trivial⟩,⟨⟨rfl,rfl,rfl,rfl,trivial⟩,rfl,rfl,rfl,rfl,trivial⟩,rfl,rfl⟩),fun x_0 q_0=>iL (fun h3=>⟨(by omega),rfl,rfl,rfl,rfl,?a,fun h4 h5 h6=>⟨(by simp only [aC,aG] at *;omega),(by exact ⟨rfl,rfl,rfl,rfl,(x_0.1 + 1,dQ x_0.2.1 x_0.2.2 (nth .str (parts 10 (Lib.trimSuffix s [10])) x_0.1)),q_0.next (by omega),by simp only;omega,⟨by simp only;omega,trivial⟩,(by trivial),rfl,rfl⟩)⟩⟩) (fun h3=>⟨trivial,⟨fun h4=>(s6 q_0 (by omega) (by omega) (.inl h4)),fun h4=>⟨fun h5 => ?b,fun h5=>⟨fun h6 => ?c,fun h6 => ?d⟩⟩⟩⟩)⟩⟩)
 case a=>
  have hf:=IU s (by omega);have a0:=q_0.le;have a1:=q_0.l1;have a2:=q_0.l2;have a3:=q_0.l3;have a4:=q_0.l4
  exact ⟨Nat.le_trans (GW (by omega) _) (by decide),by omega,by omega,by omega,by omega⟩
 case b=>
  simp only [bl,reduceCtorEq] at h5
  exact s6 q_0 (by omega) (by omega) (.inr (.inl h5))
 case c=>
  simp only [bl,reduceCtorEq] at h5 h6
  exact s6 q_0 (by omega) (by omega) (.inr (.inr h6))
 case d=>
  simp only [bl,reduceCtorEq] at h5 h6
  exact KW (by omega) ‹bB.isNil _=true› h6
theorem Tryz.Jp:bG Tryz.prog Tryz.B.eT Tryz.X 68 [.str] [aA, .err] (fun _=>True) (fun x y=>y=(fun s=>kg s) x):=
 bI (X:=Tryz.X) Tryz.Hk Tryz.func68 (by kernel_rfl) (fun x=>CW x) (fun x hw hp=>Jo x hw)
end Go.Proofs.YtgokjhhcfemnhaaGreatDoor

namespace Go.Proofs.YtgokjhhcfemnhaaGreatDoor
open Go.Vg Go.Mrl
noncomputable def Tryz.Jq:List (FuncId × (Bool × bQ)):=[(64,(false,bM Tryz.bw [.obj 0, .d .str] (fun _ _=>True) Tryz.oS)),
 (68,(true,aM [.str] [aA, .err] (fun _=>True) (fun s=>kg s))),
 (69,(true,aM [.slice .str, .str] [.bool] (fun _=>True) (fun x=>x.1.any (· == x.2))))]
theorem Tryz.Lu:bU Tryz.prog Tryz.B Tryz.X Tryz.Jq:=
 aS (Tryz.CK) (aS (aE Tryz.Jp) (aS (aE Tryz.tj) (bY Tryz.bZ)))
def Tryz.Jr (s:List UInt8) (f:ft):cy:=[
 (0,fun st=>{X:=Nat × List (List UInt8) × List (D aA),inv:=fun y=>fP (bS f) s y.1 y.2.1 y.2.2,aW:=fun y=>7 - y.1,aQ:=fun y=>[(9,sI y.1),(7, .s (.one (.app .str y.2.1 (aR st 7)))),(8, .s (.one (.app aA y.2.2 (aR st 8))))],aF:=fun y=>[(aR st 7, .tok .str y.2.1),(aR st 8, .tok aA y.2.2)],aU:=[0],dq:=[aR st 7,aR st 8]}),
 (2,fun st=>{X:=Nat,inv:=fun k=>k<=List.length (aX (.slice .str) st 50),aW:=fun k=>List.length (aX (.slice .str) st 50) - k,aQ:=fun k=>[(52,sI k),(7, .s (.one (.app .str (cU (aX (.slice .str) st 7) (List.take k (aX (.slice .str) st 50))) (aR st 7))))],aF:=fun k=>[(aR st 7, .tok .str (cU (aX (.slice .str) st 7) (List.take k (aX (.slice .str) st 50))))],aU:=[0,4,5,6,8,9,10,12,13,18,19,20,21,24,25,26,27,28,29,30,31,32,33,34,35,36,37,38,39,40,41,42,43,44,45,46,47,48,49,50,51],dq:=[aR st 7]})]
noncomputable def Tryz.xY:List (Alt Tryz.bw [.obj 0, .d .str]):=[{bV:=Tryz.bw,res:=[.d (.slice .str), .d (.slice aA), .d .err],out:=fun _ x=>x,ret:=fun a x=>((aL (bS x) a.1).1,(aL (bS x) a.1).2.1,aY (aL (bS x) a.1).2.2,())}]
theorem Eo (s:List UInt8) (f:ft) (hw:hP [.obj 0, .d .str] (s,())) (hp:(fun _ x=>x.2.1.1.length<=6) (s,()) f):(dR (ir Tryz.B [17]) Tryz.Jq Tryz.f25 (Tryz.Jr s f) Tryz.bw [.obj 0, .d .str] Tryz.xY (s,()) f).holds:=by
 refine holds_of (p:=
  let za:=List UInt8
  let zb:=Nat × List za × List (List za × List Int × List (za × Int × Bool × Unit) × List (Int × Int × Int × za × Bool × Unit) × Unit)
  let zc:=bS f
  let zd:=fun (x_0:Nat × List (List UInt8) × List (List (List UInt8) × List Int × List (List UInt8 × Int × Bool × Unit) × List (Int × Int × Int × List UInt8 × Bool × Unit) × Unit))=>(↑x_0.1:Int) < (↑(List.length x_0.2.1):Int)
  let ze:=fun (x_0:Nat × List (List UInt8) × List (List (List UInt8) × List Int × List (List UInt8 × Int × Bool × Unit) × List (Int × Int × Int × List UInt8 × Bool × Unit) × Unit))=>bS f (nth Ty.str x_0.2.1 x_0.1)
  let zf:=aL zc s
  let zg:=(zf.1,zf.2.1,aY zf.2.2,())
  let zh:=fun (x_0:Nat × List (List UInt8) × List (List (List UInt8) × List Int × List (List UInt8 × Int × Bool × Unit) × List (Int × Int × Int × List UInt8 × Bool × Unit) × Unit))=>(ck (ze x_0).1).1.1
  let zi:=fun (x_0:Nat × List (List UInt8) × List (List (List UInt8) × List Int × List (List UInt8 × Int × Bool × Unit) × List (Int × Int × Int × List UInt8 × Bool × Unit) × Unit))=>List.length (zh x_0)
  let zj:=fun (x_0:Nat × List (List UInt8) × List (List (List UInt8) × List Int × List (List UInt8 × Int × Bool × Unit) × List (Int × Int × Int × List UInt8 × Bool × Unit) × Unit)) (x_1:Nat)=>cU x_0.2.1 (List.take x_1 (zh x_0))
  let zk:=aC (1:Int)
  let zl:=fun (x_1:Nat)=>(↑x_1:Int) + (1:Int)
  let zm:=@List.nil (List UInt8) = @List.nil (List UInt8)
  let zn:=C.du (1:Nat)=C.du (1:Nat)/\f.1.1=f.1.1/\True
  let zo:=f.2.1=f.2.1
  let zp:=fun (x_0:Nat × List (List UInt8) × List (List (List UInt8) × List Int × List (List UInt8 × Int × Bool × Unit) × List (Int × Int × Int × List UInt8 × Bool × Unit) × Unit))=>x_0.2.2++[(ck (ze x_0).1).1]
  let zq:=@List.nil (List (List UInt8) × List Int × List (List UInt8 × Int × Bool × Unit) × List (Int × Int × Int × List UInt8 × Bool × Unit) × Unit) = @List.nil (List (List UInt8) × List Int × List (List UInt8 × Int × Bool × Unit) × List (Int × Int × Int × List UInt8 × Bool × Unit) × Unit)
  let zr:=fun (x_0:Nat × List (List UInt8) × List (List (List UInt8) × List Int × List (List UInt8 × Int × Bool × Unit) × List (Int × Int × Int × List UInt8 × Bool × Unit) × Unit))=>(zh x_0=zh x_0/\(ck (ze x_0).1).1.2.1=(ck (ze x_0).1).1.2.1/\(ck (ze x_0).1).1.2.2.1=(ck (ze x_0).1).1.2.2.1/\(ck (ze x_0).1).1.2.2.2.1=(ck (ze x_0).1).1.2.2.2.1/\True)/\@List.nil (Int × Int × Int × List UInt8 × Bool × Unit) = @List.nil (Int × Int × Int × List UInt8 × Bool × Unit)/\@List.nil (List UInt8 × Int × Bool × Unit) = @List.nil (List UInt8 × Int × Bool × Unit)/\@List.nil Int = @List.nil Int/\zm/\zn/\zo/\zp x_0=zp x_0/\zq/\zm/\True
  (∃(x:zb),fP zc s (Prod.fst x) (Prod.snd x).1 (Prod.snd x).2/\((0:Int)=(↑(Prod.fst x):Int)/\[s]=(Prod.snd x).1/\@List.nil (List (List UInt8) × List Int × List (List UInt8 × Int × Bool × Unit) × List (Int × Int × Int × List UInt8 × Bool × Unit) × Unit)=(Prod.snd x).2/\True)/\[s]=(Prod.snd x).1/\@List.nil (List (List UInt8) × List Int × List (List UInt8 × Int × Bool × Unit) × List (Int × Int × Int × List UInt8 × Bool × Unit) × Unit)=(Prod.snd x).2/\True)/\(∀x_0:Nat × List (List UInt8) × List (List (List UInt8) × List Int × List (List UInt8 × Int × Bool × Unit) × List (Int × Int × Int × List UInt8 × Bool × Unit) × Unit),((fP zc s x_0.1 x_0.2.1 x_0.2.2)->((List.length x_0.2.1<=aG)->(((decide (zd x_0))=true->((0:Int)<=(↑x_0.1:Int)/\zd x_0)/\(True)/\((True)->(((!bB.isNil (aY (ze x_0).2.2))=true->(True/\f=f/\([],[],aY (ze x_0).2.2,())=zg))/\((!bB.isNil (aY (ze x_0).2.2))=false->(True)/\(((!bB.isNil (aY (ck (ze x_0).1).2))=true->(True/\f=f/\([],[],aY (ck (ze x_0).1).2,())=zg))/\((!bB.isNil (aY (ck (ze x_0).1).2))=false->(x_0.2.2=x_0.2.2/\List.length x_0.2.2 + List.length [(ck (ze x_0).1).1]<=(1000000000:Nat))/\((zi x_0<=aG)->(∃(x:Nat),x<=zi x_0/\((0:Int)=(↑x:Int)/\x_0.2.1=cU x_0.2.1 (List.take x (zh x_0))/\True)/\x_0.2.1=cU x_0.2.1 (List.take x (zh x_0))/\True)/\(∀x_1:Nat,((x_1<=zi x_0)->(((decide ((↑x_1:Int) < (↑(zi x_0):Int)))=true->((0:Int)<=(↑x_1:Int)/\(↑x_1:Int) < (↑(zi x_0):Int))/\(True)/\(((!List.any (zj x_0 x_1) fun (x:za)=>x == nth Ty.str (zh x_0) x_1)=true->(zj x_0 x_1=zj x_0 x_1/\List.length (zj x_0 x_1) + List.length [nth Ty.str (zh x_0) x_1]<=(1000000000:Nat))/\((aC (↑x_1:Int))->((zk)->(aC (zl x_1))/\(∃(x':Nat),x'<=zi x_0/\zi x_0 - x' < zi x_0 - x_1/\(zl x_1=(↑x':Int)/\zj x_0 x_1++[nth Ty.str (zh x_0) x_1]=cU x_0.2.1 (List.take x' (zh x_0))/\True)/\zj x_0 x_1++[nth Ty.str (zh x_0) x_1]=cU x_0.2.1 (List.take x' (zh x_0))/\zr x_0))))/\((!List.any (zj x_0 x_1) fun (x:za)=>x == nth Ty.str (zh x_0) x_1)=false->((aC (↑x_1:Int))->((zk)->(aC (zl x_1))/\(∃(x':Nat),x'<=zi x_0/\zi x_0 - x' < zi x_0 - x_1/\(zl x_1=(↑x':Int)/\zj x_0 x_1=cU x_0.2.1 (List.take x' (zh x_0))/\True)/\zj x_0 x_1=cU x_0.2.1 (List.take x' (zh x_0))/\zr x_0))))))/\((decide ((↑x_1:Int) < (↑(zi x_0):Int)))=false->((aC (↑x_0.1:Int))->((zk)->(aC ((↑x_0.1:Int) + (1:Int)))/\(∃(x':zb),fP zc s (Prod.fst x') (Prod.snd x').1 (Prod.snd x').2/\(7:Nat) - Prod.fst x' < (7:Nat) - x_0.1/\((↑x_0.1:Int) + (1:Int)=(↑(Prod.fst x'):Int)/\zj x_0 x_1=(Prod.snd x').1/\zp x_0=(Prod.snd x').2/\True)/\zj x_0 x_1=(Prod.snd x').1/\zp x_0=(Prod.snd x').2/\zq/\zm/\zn/\zo/\True))))))))))))))/\((decide (zd x_0))=false->(True/\f=f/\(x_0.2.1,x_0.2.2,bB.nil,())=zg))))))) (by kernel_rfl) ?_
 dsimp -iota -proj -eta only
 refine ⟨(⟨(0,[s],[]),fP.zero _ _,⟨rfl,rfl,rfl,trivial⟩,(by trivial)⟩),fun x_0 q_0 h0=>iL (fun h1=>⟨(by omega),trivial,fun h2=>⟨fun h3 => ?a,fun h3=>⟨trivial,⟨fun h4 => ?b,fun h4=>⟨?c,fun h5=>⟨?d,fun x_1 q_1=>iL (fun h6=>⟨?e,trivial,⟨fun h7=>⟨?f,fun h8 h9=>⟨?g,?h⟩⟩,fun h7 h8 h9=>⟨?i,?j⟩⟩⟩) (fun h6 h7 h8=>⟨?k,?l⟩)⟩⟩⟩⟩⟩⟩) (fun h1=>(by rw [q_0.done (by omega)];exact ⟨trivial,rfl,rfl⟩))⟩
 case a=>
  simp only [bl,reduceCtorEq] at h3
  rw [q_0.Cq (hZ hp) (by omega) (fun e=>by rw [bL.2 e] at h3;cases h3)];exact ⟨trivial,rfl,rfl⟩
 case b=>
  simp only [bl,reduceCtorEq] at h3 h4
  rw [q_0.Fu (by omega) (bL.1 h3) (fun e=>by rw [bL.2 e] at h4;cases h4)];exact ⟨trivial,rfl,rfl⟩
 case c=>
  simp only [bl,reduceCtorEq] at h3 h4
  exact ⟨rfl,q_0.NC⟩
 case d=>
  simp only [bl,reduceCtorEq] at h3 h4
  exact ⟨0,Nat.zero_le _,⟨rfl,rfl,trivial⟩,rfl,trivial⟩
 case e=>
  simp only [bl,reduceCtorEq] at h3 h4
  omega
 case f=>
  simp only [bl,reduceCtorEq] at h3 h4 h7
  exact ⟨rfl,q_0.IW (hZ hp) (nj (bL.1 h3) (bL.1 h4)) _⟩
 case g|i=>
  simp only [bl,reduceCtorEq] at h3 h4 h7
  simp only [aC,aG] at *;omega
 case h=>
  simp only [bl,reduceCtorEq] at h3 h4 h7
  exact ⟨x_1 + 1,by omega,by omega,⟨by omega,tN (by omega) (by assumption),trivial⟩,tN (by omega) (by assumption),(by trivial)⟩
 case j=>
  simp only [bl,reduceCtorEq] at h3 h4 h7
  exact ⟨x_1 + 1,by omega,by omega,⟨by omega,tO (by omega) (by assumption),trivial⟩,tO (by omega) (by assumption),(by trivial)⟩
 case k=>
  simp only [bl,reduceCtorEq] at h3 h4
  simp only [aC,aG] at *;omega
 case l=>
  simp only [bl,reduceCtorEq] at h3 h4
  exact ⟨(x_0.1 + 1,_,_),q_0.next (hZ hp) (by omega) (nj (bL.1 h3) (bL.1 h4)),by have:=q_0.room (hZ hp) (by omega) (nj (bL.1 h3) (bL.1 h4));simp only;omega,⟨by simp only;omega,tP (by omega),rfl,trivial⟩,tP (by omega),rfl,(by trivial)⟩
theorem Tryz.Ep:cL Tryz.prog Tryz.B.eT Tryz.X 25 false (bM Tryz.bw [.obj 0, .d .str] (fun _ x=>x.2.1.1.length<=6) Tryz.xY):=
 cn (B:=(ir Tryz.B [17])) (X:=Tryz.X) (bU.hint (l:=[17]) Tryz.Lu) Tryz.func25 (by kernel_rfl) (fun (a:CD [.obj 0, .d .str]) (x:PD Tryz.bw)=>Tryz.Jr a.1 x) (fun (a:CD [.obj 0, .d .str]) (x:PD Tryz.bw) hw hp=>Eo a.1 x hw hp)
end Go.Proofs.YtgokjhhcfemnhaaGreatDoor

namespace Go.Proofs.YtgokjhhcfemnhaaGreatDoor
open Go.Vg Go.Mrl
theorem Lv (n:Int) (hw:c8 [.int .i64] n) (hp:(fun n=>0<=n/\n<=1000000) n):(cp Tryz.B [] Tryz.f108 [] [.int .i64] [.int .i64] (fun x y=>y=(fun n=>cJ n) x) n).holds:=by
 refine holds_of (p:=
  let za:=aC (16:Int)
  let zb:=aC (n + (16:Int))
  let zc:=n + (16:Int) - (1:Int)
  ((aC n)->((za)->(zb)/\((zb)->((aC (1:Int))->(aC zc)/\((16:Int)≠(0:Int))/\(∀x_0:Int,((x_0=Int.tdiv zc (16:Int))->((aC zc)->((za)->(aC x_0)/\(∀x_1:Int,((x_1=x_0 * (16:Int))->((aC x_0)->((za)->(aC x_1)/\(x_1=cJ n)))))))))))))) (by kernel_rfl) ?_
 dsimp -iota -proj -eta only
 refine fun h0 h1=>⟨?a,fun h2 h3=>⟨?b,(by omega),fun x_0 q_0 h4 h5=>⟨?c,fun x_1 q_1 h6 h7=>⟨?d,?e⟩⟩⟩⟩
 case a|b=>simp only [aC] at *;omega
 case c|d|e=>subst_vars;rw [Int.tdiv_eq_ediv_of_nonneg (by omega)];(try unfold cJ);(try simp only [aC]);omega
theorem Tryz.Lw:bG Tryz.prog Tryz.B.eT Tryz.X 108 [.int .i64] [.int .i64] (fun n=>0<=n/\n<=1000000) (fun x y=>y=(fun n=>cJ n) x):=
 bI (X:=Tryz.X) (bY Tryz.bZ) Tryz.func108 (by kernel_rfl) (fun _=>[]) (fun x hw hp=>Lv x hw hp)
theorem Lx (a:Int × Int × Unit) (b:Int × Int × Unit) (hw:c8 [aP,aP] (a,b)) (hp:(fun x=>jM x.1/\jM x.2) (a,b)):(cp Tryz.B [] Tryz.f132 [] [aP,aP] [.bool] (fun x y=>y=(fun x=>ei x.1 x.2) x) (a,b)).holds:=by
 refine holds_of (p:=
  let za:=true=ei a b
  let zb:=a.1 + a.2.1
  let zc:=b.1 + b.2.1
  (((decide (a.2.1<=(0:Int)))=true->(za))/\((decide (a.2.1<=(0:Int)))=false->(((decide (b.2.1<=(0:Int)))=true->(za))/\((decide (b.2.1<=(0:Int)))=false->((aC a.1)->((aC a.2.1)->(aC zb)/\(((decide (zb<=b.1))=true->(za))/\((decide (zb<=b.1))=false->((aC b.1)->((aC b.2.1)->(aC zc)/\(decide (zc<=a.1)=ei a b)))))))))))) (by kernel_rfl) ?_
 dsimp -iota -proj -eta only
 dsimp only at hp
 simp only [jM] at hp
 refine iE (fun h0 => ?a) (fun h0=>iE (fun h1 => ?b) (fun h1 h2 h3=>⟨?c,iE (fun h4 => ?d) (fun h4 h5 h6=>⟨?e,?f⟩)⟩))
 case a|b|d|f=>rw [Bool.eq_iff_iff];simp only [ei,Bool.or_eq_true,decide_eq_true_eq,true_iff];omega
 case c|e=>simp only [aC] at *;omega
theorem Tryz.CX:bG Tryz.prog Tryz.B.eT Tryz.X 132 [aP,aP] [.bool] (fun x=>jM x.1/\jM x.2) (fun x y=>y=(fun x=>ei x.1 x.2) x):=
 bI (X:=Tryz.X) (bY Tryz.bZ) Tryz.func132 (by kernel_rfl) (fun _=>[]) (fun x hw hp=>Lx x.1 x.2 hw hp)
noncomputable def Tryz.zV:List (FuncId × (Bool × bQ)):=[(132,(true,aM [aP,aP] [.bool] (fun x=>jM x.1/\jM x.2) (fun x=>ei x.1 x.2)))]
theorem Tryz.Er:bU Tryz.prog Tryz.B Tryz.X Tryz.zV:=
 aS (aE Tryz.CX) (bY Tryz.bZ)
noncomputable def Tryz.CY:List (FuncId × (Bool × bQ)):=[(131,(false,gD Tryz.B Tryz.zV Tryz.f131 []))]
theorem Tryz.Hl:bU Tryz.prog Tryz.B Tryz.X Tryz.CY:=
 aS (gq Tryz.Er Tryz.func131 (by kernel_rfl) []) (bY Tryz.bZ)
def zW:cy:=[(0,fun st=>{X:=Nat,inv:=fun i=>i<=(aX (.slice aP) st 0).length/\∀j,j < i->ei (Ng aP st (LX st 1 0)) (nth aP (aX (.slice aP) st 0) j)=true,aW:=fun i=>(aX (.slice aP) st 0).length - i,aQ:=fun i=>[(8,sI i)],aU:=[0,1,7]})]
noncomputable def Tryz.CZ:List (FuncId × (Bool × bQ)):=[(158,(false,gD Tryz.B Tryz.CY Tryz.f158 zW))]
theorem Tryz.Hm:bU Tryz.prog Tryz.B Tryz.X Tryz.CZ:=
 aS (gq Tryz.Hl Tryz.func158 (by kernel_rfl) zW) (bY Tryz.bZ)
noncomputable def Tryz.C0:List (FuncId × (Bool × bQ)):=[(130,(false,gD Tryz.B Tryz.CZ Tryz.f130 []))]
theorem Tryz.Hn:bU Tryz.prog Tryz.B Tryz.X Tryz.C0:=
 aS (gq Tryz.Hm Tryz.func130 (by kernel_rfl) []) (bY Tryz.bZ)
theorem MK (r:Int × Int × Unit) (l:List (D aP)) (hw:c8 [aP, .slice aP] (r,l)) (hp:(fun x=>jM x.1/\∀y∈x.2,jM y) (r,l)):(cp Tryz.B Tryz.C0 Tryz.f109 [] [aP, .slice aP] [.bool] (fun x y=>y=(fun x=>eE x.1 x.2) x) (r,l)).holds:=by
 refine holds_of (p:=
  let za:=List.length l
  ((za<=aG)->(∃(x:Nat),(x<=za/\∀(j:Nat),j < x->ei r (nth aP l j)=true)/\((0:Int)=(↑x:Int)/\True)/\True)/\(∀x_0:Nat,((x_0<=za/\∀(j:Nat),j < x_0->ei r (nth aP l j)=true)->(((decide ((↑x_0:Int) < (↑za:Int)))=true->((0:Int)<=(↑x_0:Int)/\(↑x_0:Int) < (↑za:Int))/\(jM r/\jM (nth aP l x_0))/\(((!ei r (nth aP l x_0))=true->((!decide ((↑x_0:Int)>=(0:Int)))=eE r l))/\((!ei r (nth aP l x_0))=false->((aC (↑x_0:Int))->((aC (1:Int))->(aC ((↑x_0:Int) + (1:Int)))/\(∃(x':Nat),(x'<=za/\∀(j:Nat),j < x'->ei r (nth aP l j)=true)/\za - x' < za - x_0/\((↑x_0:Int) + (1:Int)=(↑x':Int)/\True)/\(r.1=r.1/\r.2.1=r.2.1/\True)/\True))))))/\((decide ((↑x_0:Int) < (↑za:Int)))=false->((!decide ((-1:Int)>=(0:Int)))=eE r l))))))) (by kernel_rfl) ?_
 dsimp -iota -proj -eta only
 dsimp only at hp
 refine fun h0=>⟨?a,fun x_0 q_0=>iL (fun h1=>⟨(by omega),⟨hp.1,hp.2 _ (gr (by omega))⟩,⟨fun h2 => ?b,fun h2 h3 h4=>⟨?c,?d⟩⟩⟩) (fun h1=>(by rw [Gt fun j hj=>q_0.2 j (by omega)];simp))⟩
 case a=>refine ⟨0,?_⟩;(repeat' (first | exact trivial | rfl | omega | assumption | apply And.intro))
 case b=>
  simp only [bl,reduceCtorEq] at h2
  rw [DP (j:=x_0) (by omega) h2];simp
 case c=>
  simp only [bl,reduceCtorEq] at h2
  simp only [aC,aG] at *;omega
 case d=>
  simp only [bl,reduceCtorEq] at h2
  exact ⟨x_0 + 1,⟨by omega,fun j hj=>by by_cases e:j=x_0;(subst e;exact h2);exact q_0.2 j (by omega)⟩,by omega,⟨by omega,trivial⟩,(by trivial)⟩
theorem Tryz.ML:bG Tryz.prog Tryz.B.eT Tryz.X 109 [aP, .slice aP] [.bool] (fun x=>jM x.1/\∀y∈x.2,jM y) (fun x y=>y=(fun x=>eE x.1 x.2) x):=
 bI (X:=Tryz.X) Tryz.Hn Tryz.func109 (by kernel_rfl) (fun _=>[]) (fun x hw hp=>MK x.1 x.2 hw hp)
noncomputable def Tryz.C1:List (FuncId × (Bool × bQ)):=[(87,(true,aM [.str] [.err] (fun _=>True) (fun s=>aY (aK s)))),
 (94,(true,aM [.str] [.int .i64] (fun _=>True) (fun s=>aK s))),
 (9,(true,aM [.err, .int .i64] [.bool] (fun _=>True) (fun x=>cG x.1 x.2))),
 (108,(true,aM [.int .i64] [.int .i64] (fun n=>0<=n/\n<=1000000) (fun n=>cJ n))),
 (132,(true,aM [aP,aP] [.bool] (fun x=>jM x.1/\jM x.2) (fun x=>ei x.1 x.2))),
 (109,(true,aM [aP, .slice aP] [.bool] (fun x=>jM x.1/\∀y∈x.2,jM y) (fun x=>eE x.1 x.2)))]
theorem Tryz.Ho:bU Tryz.prog Tryz.B Tryz.X Tryz.C1:=
 aS (aE Tryz.fM) (aS (aE Tryz.dz) (aS (aE Tryz.gv) (aS (aE Tryz.Lw) (aS (aE Tryz.CX) (aS (aE Tryz.ML) (bY Tryz.bZ))))))
def C2 (s:List Int) (l:List (D aP)):cy:=[
 (0,fun st=>{X:=Nat,inv:=fun i=>i<=s.length/\∀j,j < i->1<=(nth (.int .i64) s j:Int)/\(nth (.int .i64) s j:Int)<=40,aW:=fun i=>s.length - i,aQ:=fun i=>[(26,sI i)],aU:=[0,1,24,25]}),
 (2,fun st=>{X:=Nat,inv:=fun i=>i<=l.length/\∀j,j < i->fo (nth aP l j),aW:=fun i=>l.length - i,aQ:=fun i=>[(40,sI i)],aU:=[0,1,38,39]}),
 (4,fun st=>{X:=Nat × List (D aP) × List Int,inv:=fun x=>x.1<=s.length/\eg x.2.1 (s.drop x.1) x.2.2=eg l s []/\(∀y∈x.2.1,fo y)/\x.2.1.length=l.length + x.1/\x.2.2.length=x.1,aW:=fun x=>s.length - x.1,aQ:=fun x=>[(68,sI x.1),(10, .s (.one (.app aP x.2.1 (aR st 10)))),(11, .s (.one (.app (.int .i64) x.2.2 (aR st 11))))],aF:=fun x=>[(aR st 10, .tok aP x.2.1),(aR st 11, .tok (.int .i64) x.2.2)],aU:=[66,67],dq:=[aR st 10,aR st 11]}),
 (6,fun st=>{X:=Nat,inv:=fun j=>j<=32/\eB (aX (.slice aP) st 10) (Gc (.int .i64) st (aR st 14) 1) (40 - j) (16 * (j:Int))=eB (aX (.slice aP) st 10) (Gc (.int .i64) st (aR st 14) 1) 40 0,aW:=fun j=>40 - j,aQ:=fun j=>[],aF:=fun j=>[(aR st 14, .cells 199 [.d (.int .i64) (16 * (j:Int)), .d (.int .i64) (Gc (.int .i64) st (aR st 14) 1)])],aU:=[4,5,10,11,13,14,66,67,68,69,70,71,72,73,74],dq:=[aR st 14]})]
theorem Ly (s:List Int) (l:List (D aP)) (hw:c8 [.slice (.int .i64), .slice aP] (s,l)):(cp (ir Tryz.B [65]) Tryz.C1 Tryz.f76 (C2 s l) [.slice (.int .i64), .slice aP] [.slice (.int .i64), .err] (fun x y=>y=(fun x=>bW x) x) (s,l)).holds:=by
 refine holds_of (p:=
  let za:=List.length s
  let zb:=za<=aG
  let zc:=(↑za:Int)
  let zd:=bW (s,l)
  let ze:=([],bB.no (2:Int))=zd
  let zf:=List.length l
  let zg:=Ty.int IntKind.i64
  let zh:=fun (x_0:Nat)=>(↑x_0:Int)
  let zi:=([],bB.no (1:Int))=zd
  let zj:=aC (1:Int)
  let zk:=@List.nil Int = @List.nil Int/\True
  let zl:=Int × Int × Unit
  let zm:=Nat × List zl × List Int
  let zn:=eg l s (@List.nil Int)
  let zo:=fun (x_2:Nat × List (Int × Int × Unit) × List Int)=>cJ (nth zg s x_2.1)
  let zp:=fun (x_2:Nat × List (Int × Int × Unit) × List Int)=>eB x_2.2.1 (zo x_2) (40:Nat) (0:Int)
  let zq:=fun (x_3:Nat)=>(16:Int) * zh x_3
  ((zb)->(((decide (zc > (6:Int)))=true->(ze))/\((decide (zc > (6:Int)))=false->((zf<=aG)->(((decide ((↑zf:Int) > (20:Int)))=true->(ze))/\((decide ((↑zf:Int) > (20:Int)))=false->((zb)->(∃(x:Nat),(x<=za/\∀(j:Nat),j < x->(1:Int)<=nth zg s j/\nth zg s j<=(40:Int))/\((0:Int)=(↑x:Int)/\True)/\True)/\(∀x_0:Nat,((x_0<=za/\∀(j:Nat),j < x_0->(1:Int)<=nth zg s j/\nth zg s j<=(40:Int))->(((decide (zh x_0 < zc))=true->((0:Int)<=zh x_0/\zh x_0 < zc)/\(((decide (nth zg s x_0 < (1:Int)))=true->(zi))/\((decide (nth zg s x_0 < (1:Int)))=false->(((decide (nth zg s x_0 > (40:Int)))=true->(zi))/\((decide (nth zg s x_0 > (40:Int)))=false->((aC (zh x_0))->((zj)->(aC (zh x_0 + (1:Int)))/\(∃(x':Nat),(x'<=za/\∀(j:Nat),j < x'->(1:Int)<=nth zg s j/\nth zg s j<=(40:Int))/\za - x' < za - x_0/\(zh x_0 + (1:Int)=(↑x':Int)/\True)/\zk))))))))/\((decide (zh x_0 < zc))=false->((zf<=aG)->(∃(x:Nat),(x<=zf/\∀(j:Nat),j < x->fo (nth aP l j))/\((0:Int)=(↑x:Int)/\True)/\True)/\(∀x_1:Nat,((x_1<=zf/\∀(j:Nat),j < x_1->fo (nth aP l j))->(((decide (zh x_1 < (↑zf:Int)))=true->((0:Int)<=zh x_1/\zh x_1 < (↑zf:Int))/\(((decide ((nth aP l x_1).1 < (0:Int)))=true->(zi))/\((decide ((nth aP l x_1).1 < (0:Int)))=false->(((decide ((nth aP l x_1).1 > (256:Int)))=true->(zi))/\((decide ((nth aP l x_1).1 > (256:Int)))=false->(((decide ((nth aP l x_1).2.1 < (0:Int)))=true->(zi))/\((decide ((nth aP l x_1).2.1 < (0:Int)))=false->(((decide ((nth aP l x_1).2.1 > (256:Int)))=true->(zi))/\((decide ((nth aP l x_1).2.1 > (256:Int)))=false->((aC (zh x_1))->((zj)->(aC (zh x_1 + (1:Int)))/\(∃(x':Nat),(x'<=zf/\∀(j:Nat),j < x'->fo (nth aP l j))/\zf - x' < zf - x_1/\(zh x_1 + (1:Int)=(↑x':Int)/\True)/\zk))))))))))))/\((decide (zh x_1 < (↑zf:Int)))=false->(zf<=(1000000000:Nat))/\((zb)->(∃(x:zm),(Prod.fst x<=za/\eg (Prod.snd x).1 (List.drop (Prod.fst x) s) (Prod.snd x).2=zn/\(∀(y:zl),y∈(Prod.snd x).1->fo y)/\List.length (Prod.snd x).1=zf + Prod.fst x/\List.length (Prod.snd x).2=Prod.fst x)/\((0:Int)=(↑(Prod.fst x):Int)/\l=(Prod.snd x).1/\@List.nil Int=(Prod.snd x).2/\True)/\l=(Prod.snd x).1/\@List.nil Int=(Prod.snd x).2/\True)/\(∀x_2:Nat × List (Int × Int × Unit) × List Int,((x_2.1<=za/\eg x_2.2.1 (List.drop x_2.1 s) x_2.2.2=zn/\(∀(y:zl),y∈x_2.2.1->fo y)/\List.length x_2.2.1=zf + x_2.1/\List.length x_2.2.2=x_2.1)->(((decide ((↑x_2.1:Int) < zc))=true->((0:Int)<=(↑x_2.1:Int)/\(↑x_2.1:Int) < zc)/\((0:Int)<=nth zg s x_2.1/\nth zg s x_2.1<=(1000000:Int))/\(∃(x:Nat),(x<=(32:Nat)/\eB x_2.2.1 (zo x_2) ((40:Nat) - x) ((16:Int) * (↑x:Int))=zp x_2)/\True/\((0:Int)=(16:Int) * (↑x:Int)/\zo x_2=zo x_2/\True)/\True)/\(∀x_3:Nat,((x_3<=(32:Nat)/\eB x_2.2.1 (zo x_2) ((40:Nat) - x_3) (zq x_3)=zp x_2)->(jM (zq x_3,zo x_2,())/\∀(y:zl),y∈x_2.2.1->jM y)/\(((!eE (zq x_3,zo x_2,()) x_2.2.1)=true->((aC (zq x_3))->((aC (16:Int))->(aC (zq x_3 + (16:Int)))/\(∃(x':Nat),(x'<=(32:Nat)/\eB x_2.2.1 (zo x_2) ((40:Nat) - x') ((16:Int) * (↑x':Int))=zp x_2)/\(40:Nat) - x' < (40:Nat) - x_3/\True/\(zq x_3 + (16:Int)=(16:Int) * (↑x':Int)/\zo x_2=zo x_2/\True)/\x_2.2.1=x_2.2.1/\x_2.2.2=x_2.2.2/\zk))))/\((!eE (zq x_3,zo x_2,()) x_2.2.1)=false->((aC (zq x_3))->((aC (zo x_2))->(aC (zq x_3 + zo x_2))/\(((decide (zq x_3 + zo x_2 > (256:Int)))=true->(([],bB.no (8:Int))=zd))/\((decide (zq x_3 + zo x_2 > (256:Int)))=false->(x_2.2.1=x_2.2.1/\List.length x_2.2.1 + List.length [(zq x_3,zo x_2,())]<=(1000000000:Nat))/\(x_2.2.2=x_2.2.2/\List.length x_2.2.2 + List.length [zq x_3]<=(1000000000:Nat))/\((aC (↑x_2.1:Int))->((zj)->(aC ((↑x_2.1:Int) + (1:Int)))/\(∃(x':zm),(Prod.fst x'<=za/\eg (Prod.snd x').1 (List.drop (Prod.fst x') s) (Prod.snd x').2=zn/\(∀(y:zl),y∈(Prod.snd x').1->fo y)/\List.length (Prod.snd x').1=zf + Prod.fst x'/\List.length (Prod.snd x').2=Prod.fst x')/\za - Prod.fst x' < za - x_2.1/\((↑x_2.1:Int) + (1:Int)=(↑(Prod.fst x'):Int)/\x_2.2.1++[(zq x_3,zo x_2,())]=(Prod.snd x').1/\x_2.2.2++[zq x_3]=(Prod.snd x').2/\True)/\x_2.2.1++[(zq x_3,zo x_2,())]=(Prod.snd x').1/\x_2.2.2++[zq x_3]=(Prod.snd x').2/\zk))))))))))))/\((decide ((↑x_2.1:Int) < zc))=false->((x_2.2.2,bB.nil)=zd))))))))))))))))))))))) (by kernel_rfl) ?_
 dsimp -iota -proj -eta only
 refine fun h0=>iL (fun h1 => ?a) (fun h1 h2=>iL (fun h3 => ?b) (fun h3 h4=>⟨?c,fun x_0 q_0=>iL (fun h5=>⟨?d,iL (fun h6 => ?e) (fun h6=>iL (fun h7 => ?f) (fun h7 h8 h9=>⟨?g,(by (try dsimp only [D] at *);exact ⟨x_0 + 1,⟨by omega,fun j hj=>by by_cases e:j=x_0;(subst e;(try dsimp only [D]);omega);exact q_0.2 j (by omega)⟩,by omega,⟨by omega,trivial⟩,(by trivial)⟩)⟩))⟩) (fun h5 h6=>⟨?h,fun x_1 q_1=>iL (fun h7=>⟨?i,iL (fun h8 => ?j) (fun h8=>iL (fun h9 => ?k) (fun h9=>iL (fun h10 => ?l) (fun h10=>iL (fun h11 => ?m) (fun h11 h12 h13=>⟨?n,(by (try dsimp only [D] at *);exact ⟨x_1 + 1,⟨by omega,fun j hj=>by by_cases e:j=x_1;(subst e;unfold fo;(try dsimp only [D]);omega);exact q_1.2 j (by omega)⟩,by omega,⟨by omega,trivial⟩,(by trivial)⟩)⟩))))⟩) (fun h7=>⟨?o,fun h8=>⟨(⟨(0,l,[]),⟨Nat.zero_le _,rfl,(fun y (hy:y∈l)=>by obtain ⟨i,hi,e⟩:=lS (t:=aP) hy;rw [<-e];exact q_1.2 i (by omega)),rfl,rfl⟩,(by trivial),(by trivial)⟩),fun x_2 q_2=>iL (fun h9=>⟨?p,(by have:=q_0.2 x_2.1 (by omega);(try dsimp only [D] at *);omega),?q,fun x_3 q_3=>⟨?r,⟨fun h10 h11 h12=>⟨?s,?t⟩,fun h10 h11 h12=>⟨?u,iL (fun h13 => ?v) (fun h13=>⟨?w,?x,fun h14 h15=>⟨?y,?z⟩⟩)⟩⟩⟩⟩) (fun h9=>(by rw [oB (by omega) (fun j hj=>q_0.2 j (by omega)) (fun j hj=>q_1.2 j (by omega)),<-q_2.2.1,uo (by omega)]))⟩⟩)⟩)⟩))
 case a|b=>rw [uq (by omega)]
 case c|h|q=>refine ⟨0,?_⟩;(repeat' (first | exact trivial | rfl | omega | assumption | apply And.intro))
 case d|i|o|p=>omega
 case e|f=>(try dsimp only [D] at *);rw [ur (by omega) (i:=x_0) (by omega) (by (try dsimp only [D]);omega)]
 case g|n=>simp only [aC,aG] at *;omega
 case j|k|l|m=>(try dsimp only [D] at *);rw [su (by omega) (i:=x_1) (by omega) (by unfold fo;(try dsimp only [D]);omega)]
 case r=>
  have hs:=q_0.2 x_2.1 (by omega);have hr:=cQ hs.1 hs.2
  exact ⟨by refine ⟨?_,?_,?_,?_⟩ <;> simp only <;> omega,fun y hy=>(q_2.2.2.1 y hy).jM⟩
 case s|y=>
  simp only [bl,reduceCtorEq] at h10
  simp only [aC,aG] at *;omega
 case t=>
  simp only [bl,reduceCtorEq] at h10
  have hf:eE (16 * (x_3:Int),cJ (nth (.int .i64) s x_2.1),()) x_2.2.1=false:=by assumption
  have hn:=yA q_2.2.2.1 hf
  exact ⟨x_3 + 1,⟨by omega,by rw [<-q_3.2,show 40 - x_3=(40 - (x_3 + 1)) + 1 by omega,Im hf,show 16 * ((x_3 + 1:Nat):Int)=16 * (x_3:Int) + 16 by omega]⟩,by omega,trivial,⟨by omega,rfl,trivial⟩,(by trivial)⟩
 case u=>
  simp only [bl,reduceCtorEq] at h10
  have hs:=q_0.2 x_2.1 (by omega);have hr:=cQ hs.1 hs.2;have hf:eE (16 * (x_3:Int),cJ (nth (.int .i64) s x_2.1),()) x_2.2.1=true:=by assumption
  have hb:=q_3.2.symm.trans (o8 hf)
  simp only [aC];omega
 case v=>
  simp only [bl,reduceCtorEq] at h10
  have hs:=q_0.2 x_2.1 (by omega);have hr:=cQ hs.1 hs.2;have hf:eE (16 * (x_3:Int),cJ (nth (.int .i64) s x_2.1),()) x_2.2.1=true:=by assumption
  have hb:=q_3.2.symm.trans (o8 hf)
  rw [oB (by omega) (fun j hj=>q_0.2 j (by omega)) (fun j hj=>q_1.2 j (by omega)),<-q_2.2.1,lq (by omega),if_pos (by rw [hb];omega)]
 case w|x=>
  simp only [bl,reduceCtorEq] at h10
  simp only [List.length_singleton,true_and];omega
 case z=>
  simp only [bl,reduceCtorEq] at h10
  have hs:=q_0.2 x_2.1 (by omega);have hr:=cQ hs.1 hs.2;have hf:eE (16 * (x_3:Int),cJ (nth (.int .i64) s x_2.1),()) x_2.2.1=true:=by assumption
  have hb:=q_3.2.symm.trans (o8 hf)
  exact ⟨(x_2.1 + 1,_,_),⟨by omega,by rw [<-q_2.2.1,lq (k:=x_2.1) (by omega),if_neg (by rw [hb];omega),hb],BS q_2.2.2.1 (by refine ⟨?_,?_,?_,?_⟩ <;> simp only <;> omega),by simp only [List.length_append,List.length_singleton];omega,by simp only [List.length_append,List.length_singleton];omega⟩,by simp only;omega,⟨by simp only;omega,rfl,rfl,trivial⟩,(by trivial)⟩
theorem Tryz.Lz:bG Tryz.prog Tryz.B.eT Tryz.X 76 [.slice (.int .i64), .slice aP] [.slice (.int .i64), .err] (fun _=>True) (fun x y=>y=(fun x=>bW x) x):=
 bI (B:=(ir Tryz.B [65])) (X:=Tryz.X) (bU.hint (l:=[65]) Tryz.Ho) Tryz.func76 (by kernel_rfl) (fun x=>C2 x.1 x.2) (fun x hw hp=>Ly x.1 x.2 hw)
end Go.Proofs.YtgokjhhcfemnhaaGreatDoor

namespace Go.Proofs.YtgokjhhcfemnhaaGreatDoor
open Go.Vg Go.Mrl
def C3 (o:D aA):cy:=[
 (0,fun st=>{X:=Nat,inv:=fun i=>i<=o.1.length/\∀j,j < i->(nth .str o.1 j).length<=20,aW:=fun i=>o.1.length - i,aQ:=fun i=>[(3,sI i)],aU:=[1]}),
 (2,fun st=>{X:=Nat,inv:=fun i=>i<=o.2.2.1.length/\∀j,j < i->(nth aI o.2.2.1 j).1.length<=20,aW:=fun i=>o.2.2.1.length - i,aQ:=fun i=>[(4,sI i)],aU:=[1]}),
 (4,fun st=>{X:=Nat,inv:=fun i=>i<=o.2.2.2.1.length/\∀j,j < i->(nth aJ o.2.2.2.1 j).2.2.2.1.length<=20,aW:=fun i=>o.2.2.2.1.length - i,aQ:=fun i=>[(5,sI i)],aU:=[1]})]
theorem xZ (o:D aA) (hw:c8 [aA] o):(cp Tryz.B [] Tryz.f60 (C3 o) [aA] [.bool] (fun o y=>y=true->iC o) o).holds:=by
 refine holds_of (p:=
  let za:=List.length o.1
  let zb:=false=true->iC o
  let zc:=List.length o.2.1
  let zd:=o.2.2.1
  let ze:=List.length zd
  let zf:=o.2.2.2.1
  let zg:=List.length zf
  let zh:=fun (x_0:Nat)=>(↑x_0:Int)
  let zi:=fun (x_0:Nat)=>(0:Int)<=zh x_0
  let zj:=aC (1:Int)
  let zk:=fun (x_0:Nat)=>zh x_0 + (1:Int)
  let zl:=(o.1=o.1/\o.2.1=o.2.1/\zd=zd/\zf=zf/\True)/\True
  let zm:=fun (x_2:Nat)=>List.length (nth aJ zf x_2).2.2.2.1
  ((za<=aG)->(((decide ((↑za:Int) > (6:Int)))=true->(zb))/\((decide ((↑za:Int) > (6:Int)))=false->((zc<=aG)->(((decide ((↑zc:Int) > (50:Int)))=true->(zb))/\((decide ((↑zc:Int) > (50:Int)))=false->((ze<=aG)->(((decide ((↑ze:Int) > (10:Int)))=true->(zb))/\((decide ((↑ze:Int) > (10:Int)))=false->((zg<=aG)->(((decide ((↑zg:Int) > (10:Int)))=true->(zb))/\((decide ((↑zg:Int) > (10:Int)))=false->(∃(x:Nat),(x<=za/\∀(j:Nat),j < x->List.length (nth Ty.str o.1 j)<=(20:Nat))/\((0:Int)=(↑x:Int)/\True)/\True)/\(∀x_0:Nat,((x_0<=za/\∀(j:Nat),j < x_0->List.length (nth Ty.str o.1 j)<=(20:Nat))->((za<=aG)->(((decide (zh x_0 < (↑za:Int)))=true->(zi x_0/\zh x_0 < (↑za:Int))/\((List.length (nth Ty.str o.1 x_0)<=aG)->(((decide ((↑(List.length (nth Ty.str o.1 x_0)):Int) > (20:Int)))=true->(zb))/\((decide ((↑(List.length (nth Ty.str o.1 x_0)):Int) > (20:Int)))=false->((aC (zh x_0))->((zj)->(aC (zk x_0))/\(∃(x':Nat),(x'<=za/\∀(j:Nat),j < x'->List.length (nth Ty.str o.1 j)<=(20:Nat))/\za - x' < za - x_0/\(zk x_0=(↑x':Int)/\True)/\zl)))))))/\((decide (zh x_0 < (↑za:Int)))=false->(∃(x:Nat),(x<=ze/\∀(j:Nat),j < x->List.length (nth aI zd j).1<=(20:Nat))/\((0:Int)=(↑x:Int)/\True)/\True)/\(∀x_1:Nat,((x_1<=ze/\∀(j:Nat),j < x_1->List.length (nth aI zd j).1<=(20:Nat))->((ze<=aG)->(((decide (zh x_1 < (↑ze:Int)))=true->(zi x_1/\zh x_1 < (↑ze:Int))/\((List.length (nth aI zd x_1).1<=aG)->(((decide ((↑(List.length (nth aI zd x_1).1):Int) > (20:Int)))=true->(zb))/\((decide ((↑(List.length (nth aI zd x_1).1):Int) > (20:Int)))=false->((aC (zh x_1))->((zj)->(aC (zk x_1))/\(∃(x':Nat),(x'<=ze/\∀(j:Nat),j < x'->List.length (nth aI zd j).1<=(20:Nat))/\ze - x' < ze - x_1/\(zk x_1=(↑x':Int)/\True)/\zl)))))))/\((decide (zh x_1 < (↑ze:Int)))=false->(∃(x:Nat),(x<=zg/\∀(j:Nat),j < x->List.length (nth aJ zf j).2.2.2.1<=(20:Nat))/\((0:Int)=(↑x:Int)/\True)/\True)/\(∀x_2:Nat,((x_2<=zg/\∀(j:Nat),j < x_2->List.length (nth aJ zf j).2.2.2.1<=(20:Nat))->((zg<=aG)->(((decide (zh x_2 < (↑zg:Int)))=true->(zi x_2/\zh x_2 < (↑zg:Int))/\((zm x_2<=aG)->(((decide ((↑(zm x_2):Int) > (20:Int)))=true->(zb))/\((decide ((↑(zm x_2):Int) > (20:Int)))=false->((aC (zh x_2))->((zj)->(aC (zk x_2))/\(∃(x':Nat),(x'<=zg/\∀(j:Nat),j < x'->List.length (nth aJ zf j).2.2.2.1<=(20:Nat))/\zg - x' < zg - x_2/\(zk x_2=(↑x':Int)/\True)/\zl)))))))/\((decide (zh x_2 < (↑zg:Int)))=false->(true=true->iC o))))))))))))))))))))))))))))) (by kernel_rfl) ?_
 dsimp -iota -proj -eta only
 refine fun h0=>iL (fun h1 => ?a) (fun h1 h2=>iL (fun h3 => ?b) (fun h3 h4=>iL (fun h5 => ?c) (fun h5 h6=>iL (fun h7 => ?d) (fun h7=>⟨?e,fun x_0 q_0 h8=>iL (fun h9=>⟨?f,fun h10=>iL (fun h11 => ?g) (fun h11 h12 h13=>⟨?h,(⟨x_0 + 1,⟨by omega,ja q_0.2 (by omega)⟩,by omega,⟨by omega,trivial⟩,(by trivial)⟩)⟩)⟩) (fun h9=>⟨?i,fun x_1 q_1 h10=>iL (fun h11=>⟨?j,fun h12=>iL (fun h13 => ?k) (fun h13 h14 h15=>⟨?l,(⟨x_1 + 1,⟨by omega,ja q_1.2 (by omega)⟩,by omega,⟨by omega,trivial⟩,(by trivial)⟩)⟩)⟩) (fun h11=>⟨?m,fun x_2 q_2 h12=>iL (fun h13=>⟨?n,fun h14=>iL (fun h15 => ?o) (fun h15 h16 h17=>⟨?p,(⟨x_2 + 1,⟨by omega,ja q_2.2 (by omega)⟩,by omega,⟨by omega,trivial⟩,(by trivial)⟩)⟩)⟩) (fun h13=>(fun _=>⟨by omega,by omega,by omega,by omega,fun i hi=>q_0.2 i (by omega),fun i hi=>q_1.2 i (by omega),fun i hi=>q_2.2 i (by omega)⟩))⟩)⟩)⟩))))
 case a|b|c|d|g|k|o=>simp_all
 case e|i|m=>refine ⟨0,?_⟩;(repeat' (first | exact trivial | rfl | omega | assumption | apply And.intro))
 case f|j|n=>omega
 case h|l|p=>simp only [aC,aG] at *;omega
theorem Tryz.p0:bG Tryz.prog Tryz.B.eT Tryz.X 60 [aA] [.bool] (fun _=>True) (fun o y=>y=true->iC o):=
 bI (X:=Tryz.X) (bY Tryz.bZ) Tryz.func60 (by kernel_rfl) (fun x=>C3 x) (fun x hw hp=>xZ x hw)
noncomputable def Tryz.zX:List (FuncId × (Bool × bQ)):=[(60,(true,fJ [aA] [.bool] (fun _=>True) (fun o y=>y=true->iC o)))]
theorem Tryz.Es:bU Tryz.prog Tryz.B Tryz.X Tryz.zX:=
 aS (dj Tryz.p0) (bY Tryz.bZ)
def zY (l:List (D aA)):cy:=[
 (0,fun st=>{X:=Nat,inv:=fun i=>i<=l.length/\∀j,j < i->iC (nth aA l j),aW:=fun i=>l.length - i,aQ:=fun i=>[(3,sI i)],aU:=[0]})]
theorem xn (l:List (D aA)) (hw:c8 [.slice aA] l):(cp Tryz.B Tryz.zX Tryz.f23 (zY l) [.slice aA] [.bool] (fun l y=>y=true->pS l) l).holds:=by
 refine holds_of (p:=
  let za:=List.length l
  let zb:=false=true->pS l
  ((za<=aG)->(((decide ((↑za:Int) > (8:Int)))=true->(zb))/\((decide ((↑za:Int) > (8:Int)))=false->(∃(x:Nat),(x<=za/\∀(j:Nat),j < x->iC (nth aA l j))/\((0:Int)=(↑x:Int)/\True)/\True)/\(∀x_0:Nat,((x_0<=za/\∀(j:Nat),j < x_0->iC (nth aA l j))->((za<=aG)->(((decide ((↑x_0:Int) < (↑za:Int)))=true->((0:Int)<=(↑x_0:Int)/\(↑x_0:Int) < (↑za:Int))/\(True)/\(∀x_1:Bool,((x_1=true->iC (nth aA l x_0))->(((!x_1)=true->(zb))/\((!x_1)=false->((aC (↑x_0:Int))->((aC (1:Int))->(aC ((↑x_0:Int) + (1:Int)))/\(∃(x':Nat),(x'<=za/\∀(j:Nat),j < x'->iC (nth aA l j))/\za - x' < za - x_0/\((↑x_0:Int) + (1:Int)=(↑x':Int)/\True)/\True))))))))/\((decide ((↑x_0:Int) < (↑za:Int)))=false->(true=true->pS l)))))))))) (by kernel_rfl) ?_
 dsimp -iota -proj -eta only
 refine fun h0=>iL (fun h1=>(by simp_all)) (fun h1=>⟨?a,fun x_0 q_0 h2=>iL (fun h3=>⟨(by omega),trivial,fun x_1 q_1=>⟨fun h4 => ?b,fun h4 h5 h6=>⟨?c,?d⟩⟩⟩) (fun h3=>(fun _=>⟨by omega,fun i hi=>q_0.2 i (by omega)⟩))⟩)
 case a=>refine ⟨0,?_⟩;(repeat' (first | exact trivial | rfl | omega | assumption | apply And.intro))
 case b=>
  simp only [bl,reduceCtorEq] at h4
  simp_all
 case c=>
  simp only [bl,reduceCtorEq] at h4
  simp only [aC,aG] at *;omega
 case d=>
  simp only [bl,reduceCtorEq] at h4
  exact ⟨x_0 + 1,⟨by omega,ja q_0.2 (by simp_all)⟩,by omega,⟨by omega,trivial⟩,(by trivial)⟩
theorem Tryz.xp:bG Tryz.prog Tryz.B.eT Tryz.X 23 [.slice aA] [.bool] (fun _=>True) (fun l y=>y=true->pS l):=
 bI (X:=Tryz.X) Tryz.Es Tryz.func23 (by kernel_rfl) (fun x=>zY x) (fun x hw hp=>xn x hw)
def C4 (l:List (D aA)) (s:List UInt8):cy:=[
 (0,fun st=>{X:=Nat × Int × Int,inv:=fun x=>x.1<=l.length/\e9 l s x.1 0 x.2.1 x.2.2,aW:=fun x=>l.length - x.1,aQ:=fun x=>[(14,sI x.1),(6,sI x.2.1),(7,sI x.2.2)],aU:=[1,12,13]}),
 (2,fun st=>{X:=Nat × Int × Int,inv:=fun x=>x.1<=(nth aA l (aX (.int .i64) st 14).toNat).2.2.1.length/\e9 l s (aX (.int .i64) st 14).toNat x.1 x.2.1 x.2.2,aW:=fun x=>(nth aA l (aX (.int .i64) st 14).toNat).2.2.1.length - x.1,aQ:=fun x=>[(22,sI x.1),(6,sI x.2.1),(7,sI x.2.2)],aU:=[1,8,9,12,13,14,15,16,17,18,19,20,21]})]
theorem LA (l:List (D aA)) (s:List UInt8) (hw:c8 [.slice aA, .str] (l,s)):(cp Tryz.B [] Tryz.f27 (C4 l s) [.slice aA, .str] [.int .i64, .int .i64] (fun x y=>y=(fun x=>cB x) x) (l,s)).holds:=by
 refine holds_of (p:=
  let za:=List.length l
  let zb:=Nat × Int × Int
  let zc:=fun (x_0:Nat × Int × Int)=>(↑x_0.1:Int)
  let zd:=fun (x_0:Nat × Int × Int)=>(nth aA l x_0.1).2.2.1
  let ze:=fun (x_0:Nat × Int × Int)=>List.length (zd x_0)
  let zf:=aC (1:Int)
  let zg:=fun (x_1:Nat × Int × Int)=>zc x_1 + (1:Int)
  let zh:=fun (x_0:Nat × Int × Int)=>(nth aA l x_0.1).2.2.2.1
  let zi:=fun (x_0:Nat × Int × Int)=>((nth aA l x_0.1).1=(nth aA l x_0.1).1/\(nth aA l x_0.1).2.1=(nth aA l x_0.1).2.1/\zd x_0=zd x_0/\zh x_0=zh x_0/\True)/\@List.nil (Int × Int × Int × List UInt8 × Bool × Unit) = @List.nil (Int × Int × Int × List UInt8 × Bool × Unit)/\@List.nil (List UInt8 × Int × Bool × Unit) = @List.nil (List UInt8 × Int × Bool × Unit)/\@List.nil Int = @List.nil Int/\@List.nil (List UInt8) = @List.nil (List UInt8)/\True
  let zj:=fun (x_1:Nat × Int × Int) (x_0:Nat × Int × Int)=>((aC (zc x_1))->((zf)->(aC (zg x_1))/\(∃(x':zb),(Prod.fst x'<=ze x_0/\e9 l s x_0.1 (Prod.fst x') (Prod.snd x').1 (Prod.snd x').2)/\ze x_0 - Prod.fst x' < ze x_0 - x_1.1/\(zg x_1=(↑(Prod.fst x'):Int)/\x_1.2.1=(Prod.snd x').1/\x_1.2.2=(Prod.snd x').2/\True)/\zi x_0)))
  let zk:=cB (l,s)
  ((za<=aG)->(∃(x:zb),(Prod.fst x<=za/\e9 l s (Prod.fst x) (0:Nat) (Prod.snd x).1 (Prod.snd x).2)/\((0:Int)=(↑(Prod.fst x):Int)/\(-1:Int)=(Prod.snd x).1/\(-1:Int)=(Prod.snd x).2/\True)/\True)/\(∀x_0:Nat × Int × Int,((x_0.1<=za/\e9 l s x_0.1 (0:Nat) x_0.2.1 x_0.2.2)->(((decide (zc x_0 < (↑za:Int)))=true->((0:Int)<=zc x_0/\zc x_0 < (↑za:Int))/\((ze x_0<=aG)->(∃(x:zb),(Prod.fst x<=ze x_0/\e9 l s x_0.1 (Prod.fst x) (Prod.snd x).1 (Prod.snd x).2)/\((0:Int)=(↑(Prod.fst x):Int)/\x_0.2.1=(Prod.snd x).1/\x_0.2.2=(Prod.snd x).2/\True)/\True)/\(∀x_1:Nat × Int × Int,((x_1.1<=ze x_0/\e9 l s x_0.1 x_1.1 x_1.2.1 x_1.2.2)->(((decide (zc x_1 < (↑(ze x_0):Int)))=true->((0:Int)<=zc x_1/\zc x_1 < (↑(ze x_0):Int))/\(((!(nth aI (zd x_0) x_1.1).1 == s)=true->(zj x_1 x_0))/\((!(nth aI (zd x_0) x_1.1).1 == s)=false->(((!(nth aI (zd x_0) x_1.1).2.2.1)=true->((zc x_0,zc x_1)=zk))/\((!(nth aI (zd x_0) x_1.1).2.2.1)=false->(((decide (x_1.2.1 < (0:Int)))=true->((aC (zc x_1))->((zf)->(aC (zg x_1))/\(∃(x':zb),(Prod.fst x'<=ze x_0/\e9 l s x_0.1 (Prod.fst x') (Prod.snd x').1 (Prod.snd x').2)/\ze x_0 - Prod.fst x' < ze x_0 - x_1.1/\(zg x_1=(↑(Prod.fst x'):Int)/\zc x_0=(Prod.snd x').1/\zc x_1=(Prod.snd x').2/\True)/\zi x_0))))/\((decide (x_1.2.1 < (0:Int)))=false->(zj x_1 x_0))))))))/\((decide (zc x_1 < (↑(ze x_0):Int)))=false->((aC (zc x_0))->((zf)->(aC (zg x_0))/\(∃(x':zb),(Prod.fst x'<=za/\e9 l s (Prod.fst x') (0:Nat) (Prod.snd x').1 (Prod.snd x').2)/\za - Prod.fst x' < za - x_0.1/\(zg x_0=(↑(Prod.fst x'):Int)/\x_1.2.1=(Prod.snd x').1/\x_1.2.2=(Prod.snd x').2/\True)/\True)))))))))/\((decide (zc x_0 < (↑za:Int)))=false->(x_0.2=zk))))))) (by kernel_rfl) ?_
 dsimp -iota -proj -eta only
 refine fun h0=>⟨(⟨(0,-1,-1),⟨by omega,e9.start l s⟩,⟨rfl,rfl,rfl,trivial⟩,trivial⟩),fun x_0 q_0=>iL (fun h1=>⟨?a,fun h2=>⟨(⟨(0,x_0.2),⟨by omega,q_0.2⟩,⟨rfl,rfl,rfl,trivial⟩,trivial⟩),fun x_1 q_1=>iL (fun h3=>⟨?b,⟨fun h4 h5 h6=>⟨?c,?d⟩,fun h4=>⟨fun h5 => ?e,fun h5=>iL (fun h6 h7 h8=>⟨?f,?g⟩) (fun h6 h7 h8=>⟨?h,?i⟩)⟩⟩⟩) (fun h3 h4 h5=>⟨(by simp only [aC,aG] at *;omega),(by exact ⟨(x_0.1 + 1,x_1.2),⟨by omega,q_1.2.row (by omega)⟩,by simp only;omega,⟨by simp only;omega,rfl,rfl,trivial⟩,(by trivial)⟩)⟩)⟩⟩) (fun h1=>((q_0.2.done (by omega)).symm))⟩
 case a|b=>omega
 case c=>
  simp only [bl,reduceCtorEq] at h4
  simp only [aC,aG] at *;omega
 case d=>
  simp only [bl,reduceCtorEq] at h4
  exact ⟨(x_1.1 + 1,x_1.2),⟨by omega,q_1.2.skip (by assumption)⟩,by simp only;omega,⟨by simp only;omega,rfl,rfl,trivial⟩,(by trivial)⟩
 case e=>
  simp only [bl,reduceCtorEq] at h4 h5
  exact (q_1.2.Ni (by omega) (by omega) (by assumption) (by assumption)).symm
 case f|h=>
  simp only [bl,reduceCtorEq] at h4 h5
  simp only [aC,aG] at *;omega
 case g=>
  simp only [bl,reduceCtorEq] at h4 h5
  exact ⟨(x_1.1 + 1,_,_),⟨by omega,q_1.2.xH (by omega) (by omega) (by assumption) (by simp_all) (by omega)⟩,by simp only;omega,⟨by simp only;omega,rfl,rfl,trivial⟩,(by trivial)⟩
 case i=>
  simp only [bl,reduceCtorEq] at h4 h5
  exact ⟨(x_1.1 + 1,x_1.2),⟨by omega,q_1.2.more (by simp_all) (by omega)⟩,by simp only;omega,⟨by simp only;omega,rfl,rfl,trivial⟩,(by trivial)⟩
theorem Tryz.LB:bG Tryz.prog Tryz.B.eT Tryz.X 27 [.slice aA, .str] [.int .i64, .int .i64] (fun _=>True) (fun x y=>y=(fun x=>cB x) x):=
 bI (X:=Tryz.X) (bY Tryz.bZ) Tryz.func27 (by kernel_rfl) (fun x=>C4 x.1 x.2) (fun x hw hp=>LA x.1 x.2 hw)
noncomputable def Tryz.C5:List (FuncId × (Bool × bQ)):=[(87,(true,aM [.str] [.err] (fun _=>True) (fun s=>aY (aK s)))),
 (94,(true,aM [.str] [.int .i64] (fun _=>True) (fun s=>aK s))),
 (9,(true,aM [.err, .int .i64] [.bool] (fun _=>True) (fun x=>cG x.1 x.2))),
 (60,(true,fJ [aA] [.bool] (fun _=>True) (fun o y=>y=true->iC o))),
 (23,(true,fJ [.slice aA] [.bool] (fun _=>True) (fun l y=>y=true->pS l))),
 (27,(true,aM [.slice aA, .str] [.int .i64, .int .i64] (fun _=>True) (fun x=>cB x)))]
theorem Tryz.Hp:bU Tryz.prog Tryz.B Tryz.X Tryz.C5:=
 aS (aE Tryz.fM) (aS (aE Tryz.dz) (aS (aE Tryz.gv) (aS (dj Tryz.p0) (aS (dj Tryz.xp) (aS (aE Tryz.LB) (bY Tryz.bZ))))))
end Go.Proofs.YtgokjhhcfemnhaaGreatDoor

namespace Go.Proofs.YtgokjhhcfemnhaaGreatDoor
open Go.Vg Go.Mrl
def C6 (a:List Int) (b:List Int):cy:=[(0,fun st=>{X:=Nat,inv:=fun i=>i<=a.length/\∀j,j < i->nth (.int .i64) a j=nth (.int .i64) b j,aW:=fun i=>a.length - i,aQ:=fun i=>[(5,sI i)],aU:=[0,1]})]
theorem x3 (a:List Int) (b:List Int) (hw:c8 [.slice (.int .i64), .slice (.int .i64)] (a,b)):(cp Tryz.B [] Tryz.f75 (C6 a b) [.slice (.int .i64), .slice (.int .i64)] [.bool] (fun x y=>y=(fun x=>iu x.1 x.2) x) (a,b)).holds:=by
 refine holds_of (p:=
  let za:=List.length a
  let zb:=(↑(List.length b):Int)
  let zc:=false=iu a b
  let zd:=Ty.int IntKind.i64
  ((za<=aG)->((List.length b<=aG)->((((↑za:Int) != zb)=true->(zc))/\(((↑za:Int) != zb)=false->(∃(x:Nat),(x<=za/\∀(j:Nat),j < x->nth zd a j=nth zd b j)/\((0:Int)=(↑x:Int)/\True)/\True)/\(∀x_0:Nat,((x_0<=za/\∀(j:Nat),j < x_0->nth zd a j=nth zd b j)->((za<=aG)->(((decide ((↑x_0:Int) < (↑za:Int)))=true->((0:Int)<=(↑x_0:Int)/\(↑x_0:Int) < (↑za:Int))/\((0:Int)<=(↑x_0:Int)/\(↑x_0:Int) < zb)/\(((nth zd a x_0 != nth zd b x_0)=true->(zc))/\((nth zd a x_0 != nth zd b x_0)=false->((aC (↑x_0:Int))->((aC (1:Int))->(aC ((↑x_0:Int) + (1:Int)))/\(∃(x':Nat),(x'<=za/\∀(j:Nat),j < x'->nth zd a j=nth zd b j)/\za - x' < za - x_0/\((↑x_0:Int) + (1:Int)=(↑x':Int)/\True)/\True))))))/\((decide ((↑x_0:Int) < (↑za:Int)))=false->(true=iu a b))))))))))) (by kernel_rfl) ?_
 dsimp -iota -proj -eta only
 refine fun h0 h1=>iN (fun h2=>(Io (by assumption))) (fun h2=>⟨(⟨0,⟨by omega,fun j hj=>by omega⟩,⟨rfl,trivial⟩,trivial⟩),fun x_0 q_0 h3=>iL (fun h4=>⟨?a,?b,iN (fun h5=>(Kz (i:=x_0) (by assumption))) (fun h5 h6 h7=>⟨(by simp only [aC,aG] at *;omega),(⟨x_0 + 1,⟨by omega,oC q_0.2 (by assumption)⟩,by omega,⟨by omega,trivial⟩,(by trivial)⟩)⟩)⟩) (fun h4=>(Gx (by assumption) (fun i hi=>q_0.2 i (by omega))))⟩)
 case a|b=>omega
theorem Tryz.p5:bG Tryz.prog Tryz.B.eT Tryz.X 75 [.slice (.int .i64), .slice (.int .i64)] [.bool] (fun _=>True) (fun x y=>y=(fun x=>iu x.1 x.2) x):=
 bI (X:=Tryz.X) (bY Tryz.bZ) Tryz.func75 (by kernel_rfl) (fun x=>C6 x.1 x.2) (fun x hw hp=>x3 x.1 x.2 hw)
def C7 (a:List (List UInt8)) (b:List (List UInt8)):cy:=[(0,fun st=>{X:=Nat,inv:=fun i=>i<=a.length/\∀j,j < i->nth .str a j=nth .str b j,aW:=fun i=>a.length - i,aQ:=fun i=>[(5,sI i)],aU:=[0,1]})]
theorem C8 (a:List (List UInt8)) (b:List (List UInt8)) (hw:c8 [.slice .str, .slice .str] (a,b)):(cp Tryz.B [] Tryz.f19 (C7 a b) [.slice .str, .slice .str] [.bool] (fun x y=>y=(fun x=>gF x.1 x.2) x) (a,b)).holds:=by
 refine holds_of (p:=
  let za:=List.length a
  let zb:=(↑(List.length b):Int)
  let zc:=false=gF a b
  ((za<=aG)->((List.length b<=aG)->((((↑za:Int) != zb)=true->(zc))/\(((↑za:Int) != zb)=false->(∃(x:Nat),(x<=za/\∀(j:Nat),j < x->nth Ty.str a j=nth Ty.str b j)/\((0:Int)=(↑x:Int)/\True)/\True)/\(∀x_0:Nat,((x_0<=za/\∀(j:Nat),j < x_0->nth Ty.str a j=nth Ty.str b j)->((za<=aG)->(((decide ((↑x_0:Int) < (↑za:Int)))=true->((0:Int)<=(↑x_0:Int)/\(↑x_0:Int) < (↑za:Int))/\((0:Int)<=(↑x_0:Int)/\(↑x_0:Int) < zb)/\(((!nth Ty.str a x_0 == nth Ty.str b x_0)=true->(zc))/\((!nth Ty.str a x_0 == nth Ty.str b x_0)=false->((aC (↑x_0:Int))->((aC (1:Int))->(aC ((↑x_0:Int) + (1:Int)))/\(∃(x':Nat),(x'<=za/\∀(j:Nat),j < x'->nth Ty.str a j=nth Ty.str b j)/\za - x' < za - x_0/\((↑x_0:Int) + (1:Int)=(↑x':Int)/\True)/\True))))))/\((decide ((↑x_0:Int) < (↑za:Int)))=false->(true=gF a b))))))))))) (by kernel_rfl) ?_
 dsimp -iota -proj -eta only
 refine fun h0 h1=>iN (fun h2=>(Ip (by assumption))) (fun h2=>⟨(⟨0,⟨by omega,fun j hj=>by omega⟩,⟨rfl,trivial⟩,trivial⟩),fun x_0 q_0 h3=>iL (fun h4=>⟨?a,?b,⟨fun h5 => ?c,fun h5 h6 h7=>⟨?d,?e⟩⟩⟩) (fun h4=>(Gy (by assumption) (fun i hi=>q_0.2 i (by omega))))⟩)
 case a|b=>omega
 case c=>
  simp only [bl,reduceCtorEq] at h5
  exact KA (i:=x_0) (by assumption)
 case d=>
  simp only [bl,reduceCtorEq] at h5
  simp only [aC,aG] at *;omega
 case e=>
  simp only [bl,reduceCtorEq] at h5
  exact ⟨x_0 + 1,⟨by omega,oC q_0.2 (by assumption)⟩,by omega,⟨by omega,trivial⟩,(by trivial)⟩
theorem Tryz.C9:bG Tryz.prog Tryz.B.eT Tryz.X 19 [.slice .str, .slice .str] [.bool] (fun _=>True) (fun x y=>y=(fun x=>gF x.1 x.2) x):=
 bI (X:=Tryz.X) (bY Tryz.bZ) Tryz.func19 (by kernel_rfl) (fun x=>C7 x.1 x.2) (fun x hw hp=>C8 x.1 x.2 hw)
end Go.Proofs.YtgokjhhcfemnhaaGreatDoor

