/- A part of the proof that the law TopBoundCard holds of the given program: facts that are used there. -/
import Derived.Test.YtgokjhhcfemnhacGreatDoorPart3
import Derived.Test.YtgokjhhcfemnhacGreatDoorChecked
import Derived.Lib.LaidTab
import Derived.Lib.ItoaNum
import Derived.Shelf.Strconv.Itoa3
import Derived.Shelf.Strconv.AtoiAll
import Derived.Shelf.Strings.Split
import Derived.Shelf.Small.Wraps
import Derived.Shelf.Strings.Prefix
import Derived.Shelf.LaysM
import Derived.Shelf.LaysC
import Derived.Sort.Grow
import Derived.Lib.SplitLaws
import Derived.Lib.Builder
import Derived.Lib.UnsafeStr
import Derived.Lib.Strings
import Derived.Lib.Slices
import Derived.Lib.Walk
import Derived.Laws.Externs
import Derived.Deep.Heap
import Derived.Shelf.RegionOpenPlain
set_option linter.unusedSimpArgs false
set_option linter.unusedVariables false
set_option maxRecDepth 100000
set_option maxHeartbeats 4000000
namespace Go.Proofs.YtgokjhhcfemnhacGreatDoor
open Go.Vg
noncomputable def Tryz.B:Cx:={eT:=128,τ:=[(2,(.int .i64)),(3,(.int .i64)),(4, .bool),(5,(.int .u8)),(7,(.prod (.int .i64) (.prod (.int .i64) (.prod .bool (.prod (.int .u8) .unit))))),(9, .str),(12,(.int .u64)),(13,(.prod .str (.prod (.int .u64) .unit))),(18,(.prod .cX .unit)),(21,(.int .i32)),(22,(.slice bP)),(23,(.int .u64)),(31,(.slice du)),(32,(.prod (.slice du) .unit)),(33,(.prod (.slice du) .unit)),(35, .err),(36, .err),(37,(.slice eZ)),(38,(.slice bt)),(39,du),(40,du),(41,bP),(42,bP),(53,eZ),(54,eZ),(56,(.slice .str)),(57,(.slice (.int .i64))),(58,(.slice aI)),(59,(.slice aH)),(60,aA),(61,aA),(68,(.slice aA)),(73,(.slice ba)),(78,(.slice (.slice (.int .i64)))),(81,ba),(82,ba),(85,aH),(86,aH),(89,bt),(90,bt),(98,aI),(99,aI),(121,(.slice wO)),(122,Gv),(123,Gv),(125,(.prod .cX (.prod (.int .i64) (.prod (.slice du) .unit)))),(126,(.prod .cX (.prod (.int .i64) (.prod (.slice du) .unit)))),(128,(.int .i64)),(132,wO),(133,wO),(142,(.slice (.int .u8))),(143,(.prod .cX (.prod (.slice (.int .u8)) .unit))),(144,(.prod .cX (.prod (.slice (.int .u8)) .unit))),(150, .cX),(151,(.prod .cX (.prod (.int .i64) .unit))),(152,(.prod .cX (.prod (.int .i64) .unit))),(153,(.prod .str (.prod (.int .i64) .unit))),(154,(.prod .str (.prod (.int .i64) .unit))),(166,(.prod .cX (.prod .cX .unit))),(167,(.prod .cX (.prod .cX .unit))),(182,(.int .u64)),(211,(.slice aP)),(212,aP),(213,aP),(216,(.int .u32)),(235,(.int .i64)),(247,(.prod (.int .u8) (.prod (.int .u8) .unit))),(248,(.prod (.int .u8) (.prod (.int .u8) .unit))),(253,(.prod .str (.prod .str (.prod .err .unit)))),(254,(.prod .str (.prod .str (.prod .err .unit)))),(259,(.prod .str .unit)),(260,(.prod .str .unit))],rA:=[(95,(40,4)),(227,(24,5)),(242,(20,23)),(243,(65,5)),(246,(256,5)),(249,(16,248)),(261,(32,5)),(262,(64,5)),(265,(0,16))],Γ:=[],N:=0,eqs:=[54,86,90,99],iI:=[25,26,141],kv:=[(150,(9,154))],lZ:=[(144,5)]}
theorem Tryz.bZ:TyOK Tryz.prog Tryz.B:=G0 (n:=16) (by kernel_rfl)
structure Tryz.H6 (w:World):Prop where
 pow:Lib.TabIs Tryz.prog w "internal/strconv.uint64pow10" .u64 Lib.pow10Tab
 max:∃m,w.cell? ⟨0,0,none⟩=some (.int .i64 m)
 IK:∃ev,w.cell? ⟨4,0,none⟩=some ev/\(ev = .nilIface\/∃te pe,ev = .iface te pe)
 IL:∃ev,w.cell? ⟨5,0,none⟩=some ev/\(ev = .nilIface\/∃te pe,ev = .iface te pe)
theorem Tryz.H7:Tryz.prog.globalNamed "internal/strconv.uint64pow10" = some 1:=by kernel_rfl
theorem qI {w:World} {b o:Nat} {v:Value} (h:w.cell? ⟨b,o,none⟩=some v):b < w.heap.size:=by
 unfold World.cell? at h
 by_cases hb:b < w.heap.size
 ·exact hb
 ·have h0:w.heap[b]?=none:=Array.getElem?_eq_none (by omega)
  simp [h0] at h
theorem oO {w w':World} {b o:Nat} (h:w'.heap[b]?=w.heap[b]?):w'.cell? ⟨b,o,none⟩=w.cell? ⟨b,o,none⟩:=by
 unfold World.cell?
 rw [h]
theorem Ed {P:Program} {w w':World} {nm:String} {g:Nat} (hg:P.globalNamed nm=some g) (h:w'.heap[g]?=w.heap[g]?):w'.var? P nm=w.var? P nm:=by
 unfold World.var?
 rw [hg]
 simp [h]
noncomputable def Tryz.X:Ext:=
 {Iq with
  o3:=Tryz.H6
  AA:=[1,0,4,5]
  Gl:=fun {w} h b hb=>by
   obtain ⟨h1,⟨m,h2⟩,⟨e3,h3,_⟩,⟨e4,h4,_⟩⟩:=h
   simp only [List.mem_cons,List.not_mem_nil,or_false] at hb
   rcases hb with rfl | rfl | rfl | rfl
   ·have h1':=World.var?_cell Tryz.H7 h1 0
    exact qI (v:=.int .u64 1) (by simpa [Lib.pow10Tab] using h1')
   ·exact qI h2
   ·exact qI h3
   ·exact qI h4
  wR:=fun {w w'} h hb=>by
   obtain ⟨h1,⟨m,h2⟩,⟨e3,h3,h5⟩,⟨e4,h4,h6⟩⟩:=h
   refine ⟨?_,⟨m,?_⟩,⟨e3,?_,h5⟩,⟨e4,?_,h6⟩⟩
   ·unfold Lib.TabIs at h1 ⊢
    rw [Ed Tryz.H7 (hb 1 (by simp))];exact h1
   ·rw [oO (hb 0 (by simp))];exact h2
   ·rw [oO (hb 4 (by simp))];exact h3
   ·rw [oO (hb 5 (by simp))];exact h4}
end Go.Proofs.YtgokjhhcfemnhacGreatDoor

namespace Go.Proofs.YtgokjhhcfemnhacGreatDoor
open Go.Vg Go.Mrl
def yA (s:List UInt8):cp:=[(0,fun st=>{X:=Nat,inv:=fun i=>i<=s.length/\∀j,j < i->dD j (ei s j)=false,bC:=fun i=>s.length - i,bk:=fun i=>[(15, .s (.one (.d (.int .i64) i)))],aC:=fun _=>[],bn:=[0,14],ew:=[]})]
def yB (s:List UInt8):cp:=[(0,fun st=>{X:=Nat,inv:=fun i=>i<=s.length/\∀j,j < i->dD j (ei s j)=false,bC:=fun i=>s.length - i,bk:=fun i=>[(3, .s (.one (.d (.int .i64) i)))],aC:=fun _=>[],bn:=[0],ew:=[]})]
theorem FY (s:List UInt8) (hw:dN [.str] s):(cg Tryz.B [] Tryz.f76 (yA s) [.str] [.err] (fun x y=>y=(fun s=>bd (aK s)) x) s).holds:=by
 refine holds_of (p:=
  let za:=bd (aK s)
  let zb:=aY.no (1:Int)=za
  let zc:=List.length s
  let zd:=fun (x_0:Nat)=>(↑(UInt8.toNat (ei s x_0)):Int)
  let ze:=aY.no (3:Int)=za
  let zf:=fun (x_0:Nat)=>((aM (↑x_0:Int))->((aM (1:Int))->(aM ((↑x_0:Int) + (1:Int)))/\(∃(x':Nat),(x'<=zc/\∀(j:Nat),j < x'->dD j (ei s j)=false)/\zc - x' < zc - x_0/\((↑x_0:Int) + (1:Int)=(↑x':Int)/\True)/\True)))
  let zg:=fun (x_0:Nat)=>(((zd x_0 != (95:Int))=true->(ze))/\((zd x_0 != (95:Int))=false->(zf x_0)))
  let zh:=fun (x_0:Nat)=>((((↑x_0:Int) == (0:Int))=true->(ze))/\(((↑x_0:Int) == (0:Int))=false->(((decide (zd x_0 < (48:Int)))=true->(zg x_0))/\((decide (zd x_0 < (48:Int)))=false->(((decide (zd x_0 > (57:Int)))=true->(zg x_0))/\((decide (zd x_0 > (57:Int)))=false->(zf x_0)))))))
  (((s == @List.nil UInt8)=true->(zb))/\((s == @List.nil UInt8)=false->((zc<=aL)->(((decide ((↑zc:Int) > (8:Int)))=true->(zb))/\((decide ((↑zc:Int) > (8:Int)))=false->((zc<=aL)->(∃(x:Nat),(x<=zc/\∀(j:Nat),j < x->dD j (ei s j)=false)/\((0:Int)=(↑x:Int)/\True)/\True)/\(∀x_0:Nat,((x_0<=zc/\∀(j:Nat),j < x_0->dD j (ei s j)=false)->(((decide ((↑x_0:Int) < (↑zc:Int)))=true->((0:Int)<=(↑x_0:Int)/\(↑x_0:Int) < (↑zc:Int))/\(((decide (zd x_0 < (97:Int)))=true->(zh x_0))/\((decide (zd x_0 < (97:Int)))=false->(((decide (zd x_0 > (122:Int)))=true->(zh x_0))/\((decide (zd x_0 > (122:Int)))=false->(zf x_0))))))/\((decide ((↑x_0:Int) < (↑zc:Int)))=false->(aY.nil=za)))))))))))) (by kernel_rfl) ?_
 dsimp -iota -proj -eta only
 refine iQ (fun h0 => ?a) (fun h0 h1=>iL (fun h2 => ?b) (fun h2 h3=>⟨(⟨0,⟨by omega,fun j hj=>by omega⟩,⟨rfl,trivial⟩,trivial⟩),fun x_0 q_0=>iL (fun h4=>⟨?c,iL (fun h5=>iQ (fun h6 => ?d) (fun h6=>iL (fun h7=>iN (fun h8 => ?e) (fun h8 h9 h10=>⟨?f,?g⟩)) (fun h7=>iL (fun h8=>iN (fun h9 => ?h) (fun h9 h10 h11=>⟨?i,?j⟩)) (fun h8 h9 h10=>⟨?k,?l⟩)))) (fun h5=>iL (fun h6=>iQ (fun h7 => ?m) (fun h7=>iL (fun h8=>iN (fun h9 => ?n) (fun h9 h10 h11=>⟨?o,?p⟩)) (fun h8=>iL (fun h9=>iN (fun h10 => ?q) (fun h10 h11 h12=>⟨?r,?s⟩)) (fun h9 h10 h11=>⟨?t,?u⟩)))) (fun h6 h7 h8=>⟨?v,?w⟩))⟩) (fun h4 => ?x)⟩))
 case a|b=>rw [oZ (by first | omega | simp [h0])];rfl
 case c|f|o|r|t=>omega
 case d|e|h|m|n|q=>
  have hl:s.length≠0:=fun e=>h0 (List.length_eq_zero_iff.1 e)
  rw [dv (i:=x_0) (by omega) (by omega) (fy.2 (by omega))];rfl
 case g|j|l|p|s|u|w=>exact ⟨x_0 + 1,⟨by omega,iR q_0.2 (e8.2 (by omega))⟩,by omega,⟨by omega,trivial⟩,trivial⟩
 case i|k|v=>simp only [aM,aL] at *;omega
 case x=>
  have hl:s.length≠0:=fun e=>h0 (List.length_eq_zero_iff.1 e)
  rw [nw (by omega) (fun i hi=>q_0.2 i (by omega))];rfl
theorem Tryz.fe:bB Tryz.prog Tryz.B.eT Tryz.X 76 [.str] [.err] (fun _=>True) (fun x y=>y=(fun s=>bd (aK s)) x):=
 bO (X:=Tryz.X) (bY Tryz.bZ) Tryz.func76 (by kernel_rfl) (fun x=>yA x) (fun x hw hp=>FY x hw)
theorem yC (s:List UInt8) (hw:dN [.str] s):(cg Tryz.B [] Tryz.f99 (yB s) [.str] [.int .i64] (fun x y=>y=(fun s=>aK s) x) s).holds:=by
 refine holds_of (p:=
  let za:=List.length s
  let zb:=za<=aL
  let zc:=(↑za:Int)
  let zd:=aK s
  let ze:=fun (x_0:Nat)=>(0:Int)<=(↑x_0:Int)/\(↑x_0:Int) < zc
  let zf:=fun (x_0:Nat)=>(↑(UInt8.toNat (ei s x_0)):Int)
  let zg:=fun (x_0:Nat) => !decide (zf x_0<=(122:Int))
  let zh:=(3:Int)=zd
  let zi:=fun (x_0:Nat)=>((aM (↑x_0:Int))->((aM (1:Int))->(aM ((↑x_0:Int) + (1:Int)))/\(∃(x':Nat),(x'<=za/\∀(j:Nat),j < x'->dD j (ei s j)=false)/\za - x' < za - x_0/\((↑x_0:Int) + (1:Int)=(↑x':Int)/\True)/\True)))
  let zj:=fun (x_0:Nat)=>((((↑x_0:Int) == (0:Int))=true->(zh))/\(((↑x_0:Int) == (0:Int))=false->(zi x_0)))
  let zk:=fun (x_0:Nat)=>((((↑x_0:Int) == (0:Int))=true->(zh))/\(((↑x_0:Int) == (0:Int))=false->(((!zf x_0 == (95:Int))=true->(zh))/\((!zf x_0 == (95:Int))=false->(zi x_0)))))
  let zl:=fun (x_0:Nat)=>(ze x_0)/\(((zg x_0)=true->(zk x_0))/\((zg x_0)=false->(zi x_0)))
  ((zb)->(((decide (zc < (1:Int)))=true->((1:Int)=zd))/\((decide (zc < (1:Int)))=false->((zb)->(((decide (zc > (8:Int)))=true->((1:Int)=zd))/\((decide (zc > (8:Int)))=false->(∃(x:Nat),(x<=za/\∀(j:Nat),j < x->dD j (ei s j)=false)/\((0:Int)=(↑x:Int)/\True)/\True)/\(∀x_0:Nat,((x_0<=za/\∀(j:Nat),j < x_0->dD j (ei s j)=false)->((zb)->(((decide ((↑x_0:Int) < zc))=true->(ze x_0)/\(((decide (zf x_0>=(97:Int)))=true->(ze x_0)/\(ze x_0)/\(((decide (zf x_0>=(48:Int)))=true->(ze x_0)/\(((decide (zf x_0<=(57:Int)))=true->(((zg x_0)=true->(zj x_0))/\((zg x_0)=false->(zi x_0))))/\((decide (zf x_0<=(57:Int)))=false->(zl x_0))))/\((decide (zf x_0>=(48:Int)))=false->(zl x_0))))/\((decide (zf x_0>=(97:Int)))=false->(ze x_0)/\(((decide (zf x_0>=(48:Int)))=true->(ze x_0)/\(((decide (zf x_0<=(57:Int)))=true->(zj x_0))/\((decide (zf x_0<=(57:Int)))=false->(ze x_0)/\(zk x_0))))/\((decide (zf x_0>=(48:Int)))=false->(ze x_0)/\(zk x_0))))))/\((decide ((↑x_0:Int) < zc))=false->((0:Int)=zd))))))))))))) (by kernel_rfl) ?_
 dsimp -iota -proj -eta only
 refine fun h0=>iL (fun h1 => ?a) (fun h1 h2=>iL (fun h3 => ?b) (fun h3=>⟨(⟨0,⟨by omega,fun j hj=>by omega⟩,⟨rfl,trivial⟩,trivial⟩),fun x_0 q_0 h4=>iL (fun h5=>⟨?c,iE (fun h6=>⟨?d,?e,iE (fun h7=>⟨?f,iE (fun h8=>⟨fun h9=>iQ (fun h10 => ?g) (fun h10 h11 h12=>⟨?h,?i⟩),fun h9 h10 h11=>⟨?j,?k⟩⟩) (fun h8=>⟨?l,⟨fun h9=>iQ (fun h10 => ?m) (fun h10=>⟨fun h11 => ?n,fun h11 h12 h13=>⟨?o,?p⟩⟩),fun h9 h10 h11=>⟨?q,?r⟩⟩⟩)⟩) (fun h7=>⟨?s,⟨fun h8=>iQ (fun h9 => ?t) (fun h9=>⟨fun h10 => ?u,fun h10 h11 h12=>⟨?v,?w⟩⟩),fun h8 h9 h10=>⟨?x,?y⟩⟩⟩)⟩) (fun h6=>⟨?z,iE (fun h7=>⟨?a0,iE (fun h8=>iQ (fun h9 => ?a1) (fun h9 h10 h11=>⟨(by simp only [aM,aL] at *;omega),(⟨x_0 + 1,⟨by omega,iR q_0.2 (e8.2 (by omega))⟩,by omega,⟨by omega,trivial⟩,trivial⟩)⟩)) (fun h8=>⟨?a2,iQ (fun h9 => ?a3) (fun h9=>⟨fun h10 => ?a4,fun h10 h11 h12=>⟨?a5,?a6⟩⟩)⟩)⟩) (fun h7=>⟨?a7,iQ (fun h8 => ?a8) (fun h8=>⟨fun h9 => ?a9,fun h9 h10 h11=>⟨?aa,?ab⟩⟩)⟩)⟩)⟩) (fun h5=>(by rw [nw (by omega) (fun i hi=>q_0.2 i (by omega))]))⟩))
 case a|b=>rw [oZ (by omega)]
 case c|d|e|f|l|s|z|a0|a2|a7=>omega
 case g|m|a9=>
  simp only [bl,reduceCtorEq] at h9
  rw [dv (i:=x_0) (by omega) (by omega) (fy.2 (by omega))]
 case h|j|aa=>
  simp only [bl,reduceCtorEq] at h9
  omega
 case i|k|r|ab=>
  simp only [bl,reduceCtorEq] at h9
  exact ⟨x_0 + 1,⟨by omega,iR q_0.2 (e8.2 (by omega))⟩,by omega,⟨by omega,trivial⟩,trivial⟩
 case n=>
  simp only [bl,reduceCtorEq] at h9 h11
  rw [dv (i:=x_0) (by omega) (by omega) (fy.2 (by omega))]
 case o=>
  simp only [bl,reduceCtorEq] at h9 h11
  omega
 case p=>
  simp only [bl,reduceCtorEq] at h9 h11
  exact ⟨x_0 + 1,⟨by omega,iR q_0.2 (e8.2 (by omega))⟩,by omega,⟨by omega,trivial⟩,trivial⟩
 case q=>
  simp only [bl,reduceCtorEq] at h9
  simp only [aM,aL] at *;omega
 case t=>
  simp only [bl,reduceCtorEq] at h8
  rw [dv (i:=x_0) (by omega) (by omega) (fy.2 (by omega))]
 case u=>
  simp only [bl,reduceCtorEq] at h8 h10
  rw [dv (i:=x_0) (by omega) (by omega) (fy.2 (by omega))]
 case v=>
  simp only [bl,reduceCtorEq] at h8 h10
  omega
 case w=>
  simp only [bl,reduceCtorEq] at h8 h10
  exact ⟨x_0 + 1,⟨by omega,iR q_0.2 (e8.2 (by omega))⟩,by omega,⟨by omega,trivial⟩,trivial⟩
 case x=>
  simp only [bl,reduceCtorEq] at h8
  omega
 case y=>
  simp only [bl,reduceCtorEq] at h8
  exact ⟨x_0 + 1,⟨by omega,iR q_0.2 (e8.2 (by omega))⟩,by omega,⟨by omega,trivial⟩,trivial⟩
 case a1|a3|a8=>rw [dv (i:=x_0) (by omega) (by omega) (fy.2 (by omega))]
 case a4=>
  simp only [bl,reduceCtorEq] at h10
  rw [dv (i:=x_0) (by omega) (by omega) (fy.2 (by omega))]
 case a5=>
  simp only [bl,reduceCtorEq] at h10
  simp only [aM,aL] at *;omega
 case a6=>
  simp only [bl,reduceCtorEq] at h10
  exact ⟨x_0 + 1,⟨by omega,iR q_0.2 (e8.2 (by omega))⟩,by omega,⟨by omega,trivial⟩,trivial⟩
theorem Tryz.c8:bB Tryz.prog Tryz.B.eT Tryz.X 99 [.str] [.int .i64] (fun _=>True) (fun x y=>y=(fun s=>aK s) x):=
 bO (X:=Tryz.X) (bY Tryz.bZ) Tryz.func99 (by kernel_rfl) (fun x=>yB x) (fun x hw hp=>yC x hw)
theorem Ee (e:aY) (hw:dN [.err] e):(cg Tryz.B [] Tryz.f21 [] [.err] [.int .i64] (fun x y=>y=(fun e=>dA e) x) e).holds:=by
 refine holds_of (p:=
  (((aY.isNil e)=true->((0:Int)=dA e))/\((aY.isNil e)=false->(((!aY.Bp e)=true->((-1:Int)=dA e))/\((!aY.Bp e)=false->(aY.num e=dA e)))))) (by kernel_rfl) ?_
 refine ⟨fun h0 => ?a,fun h0=>iB (fun h1 => ?b) (fun h1 => ?c)⟩
 case a|b|c=>cases e <;> simp_all [aY.isNil,aY.Bp,aY.num,dA]
theorem Tryz.er:bB Tryz.prog Tryz.B.eT Tryz.X 21 [.err] [.int .i64] (fun _=>True) (fun x y=>y=(fun e=>dA e) x):=
 bO (X:=Tryz.X) (bY Tryz.bZ) Tryz.func21 (by kernel_rfl) (fun _=>[]) (fun x hw hp=>Ee x hw)
end Go.Proofs.YtgokjhhcfemnhacGreatDoor

namespace Go.Proofs.YtgokjhhcfemnhacGreatDoor
open Go.Vg Go.Mrl
end Go.Proofs.YtgokjhhcfemnhacGreatDoor

namespace Go.Proofs.YtgokjhhcfemnhacGreatDoor
open Go.Vg Go.Mrl
@[reducible] def Tryz.aU:List Ob:=[.box 152 [.obj 1, .d (.int .i64)], .ext 1 (dQ b9)]
noncomputable def Tryz.yD:List (FuncId × (Bool × bA)):=[(76,(true,aR [.str] [.err] (fun _=>True) (fun s=>bd (aK s)))),
 (99,(true,aR [.str] [.int .i64] (fun _=>True) (fun s=>aK s))),
 (21,(true,aR [.err] [.int .i64] (fun _=>True) (fun e=>dA e)))]
theorem Tryz.CB:bM Tryz.prog Tryz.B Tryz.X Tryz.yD:=
 aX (aE Tryz.fe) (aX (aE Tryz.c8) (aX (aE Tryz.er) (bY Tryz.bZ)))
def Tryz.nH:List (Alt [] []):=[{bu:=Tryz.aU,res:=[.obj 0],out:=fun _ _=>kW,ret:=fun _ _=>()}]
theorem Hh  (hw:kO [] ()):(fp Tryz.B [] Tryz.f29 [] [] [] Tryz.nH () ()).holds:=by
 refine holds_of (p:=
  (True/\(((0:Int),()),([],(0:Int),()),())=kW/\()=())) (by kernel_rfl) ?_
 exact ⟨trivial,rfl,rfl⟩
theorem Tryz.uH:cP Tryz.prog Tryz.B.eT Tryz.X 29 false (bW [] [] (fun _ _=>True) Tryz.nH):=
 cQ (X:=Tryz.X) (bY Tryz.bZ) Tryz.func29 (by kernel_rfl) (fun (a:CD []) (x:PD [])=>[]) (fun (a:CD []) (x:PD []) hw hp=>Hh  hw)
def Tryz.mC:List (Alt Tryz.aU [.obj 0, .d .str]):=[{bu:=Tryz.aU,res:=[.d .str, .d (.int .i64), .d .err],out:=fun _ x=>x,ret:=fun a x=>((aJ x a.1).1,(aJ x a.1).2.1,bd (aJ x a.1).2.2,())}]
theorem FZ (s:List UInt8) (f:bp) (hw:kO [.obj 0, .d .str] (s,())):(fp Tryz.B [] Tryz.f47 [] Tryz.aU [.obj 0, .d .str] Tryz.mC (s,()) f).holds:=by
 refine holds_of (p:=
  let za:=Ty.prod Ty.str (Ty.prod (Ty.int IntKind.i64) Ty.unit)
  let zb:=(aJ f s).2
  let zc:=((aJ f s).1,zb.1,bd zb.2,())
  let zd:=jk za f.2.1.1 s
  (((!cu za f.2.1.1 s)=true->(True/\f=f/\([],(0:Int),aY.no (5:Int),())=zc))/\((!cu za f.2.1.1 s)=false->(True/\f=f/\(zd.1,zd.2.1,aY.nil,())=zc)))) (by kernel_rfl) ?_
 dsimp -iota -proj -eta only
 exact iB (fun h0=>(by exact ⟨trivial,rfl,by rw [mr h0];rfl⟩)) (fun h0=>(by exact ⟨trivial,rfl,by rw [oC h0];rfl⟩))
theorem Tryz.yE:cP Tryz.prog Tryz.B.eT Tryz.X 47 false (bW Tryz.aU [.obj 0, .d .str] (fun _ _=>True) Tryz.mC):=
 cQ (X:=Tryz.X) (bY Tryz.bZ) Tryz.func47 (by kernel_rfl) (fun (a:CD [.obj 0, .d .str]) (x:PD Tryz.aU)=>[]) (fun (a:CD [.obj 0, .d .str]) (x:PD Tryz.aU) hw hp=>FZ a.1 x hw)
def Tryz.lg:List (Alt Tryz.aU [.obj 0, .d .str, .d .str]):=[{bu:=Tryz.aU,res:=[.d .err],out:=fun a x=>(bX x a.1 a.2.1).1,ret:=fun a x=>(bd (bX x a.1 a.2.1).2,())}]
theorem Ef (s:List UInt8) (t:List UInt8) (f:bp) (hw:kO [.obj 0, .d .str, .d .str] (s,t,())) (hp:(fun _ x=>x.2.1.1.length<=6/\0<=x.1.1/\x.1.1<=1000000) (s,t,()) f):(fp Tryz.B Tryz.yD Tryz.f30 [] Tryz.aU [.obj 0, .d .str, .d .str] Tryz.lg (s,t,()) f).holds:=by
 refine holds_of (p:=
  let za:=bd (aK s)
  let zb:=bX f s t
  let zc:=f=zb.1
  let zd:=(bd zb.2,())
  let ze:=Ty.prod Ty.str (Ty.prod (Ty.int IntKind.i64) Ty.unit)
  let zf:=f.2.1.1
  let zg:=True/\zc/\(aY.no (8:Int),())=zd
  let zh:=f.1.1 + (1:Int)
  let zi:=(((f.1.1 == (1000000:Int))=true->(zg))/\((f.1.1 == (1000000:Int))=false->((aM f.1.1)->((aM (1:Int))->(aM zh)/\(List.length zf < aL)/\(True/\((zh,()),(cz ze zf s (t,zh,()) f.2.1.2.1,fI ze zf s f.2.1.2.1,()),())=zb.1/\(aY.nil,())=zd)))))
  (True)/\(((!aY.isNil za)=true->(True/\zc/\(za,())=zd))/\((!aY.isNil za)=false->((List.length t<=aL)->(((decide ((↑(List.length t):Int) > (1200:Int)))=true->(True/\zc/\(aY.no (2:Int),())=zd))/\((decide ((↑(List.length t):Int) > (1200:Int)))=false->(((!cu ze zf s)=true->((((↑(List.length zf):Int) == (6:Int))=true->(zg))/\(((↑(List.length zf):Int) == (6:Int))=false->(zi))))/\((!cu ze zf s)=false->(zi))))))))) (by kernel_rfl) ?_
 dsimp -iota -proj -eta only
 refine ⟨trivial,iB (fun h0 => ?a) (fun h0 h1=>iL (fun h2=>(by rw [pY (bf.1 (by assumption)) (by omega)];exact ⟨trivial,rfl,rfl⟩)) (fun h2=>iB (fun h3=>iQ (fun h4 => ?b) (fun h4=>iQ (fun h5 => ?c) (fun h5 h6 h7=>⟨?d,?e,?f⟩))) (fun h3=>iQ (fun h4 => ?g) (fun h4 h5 h6=>⟨?h,?i,?j⟩))))⟩
 case a=>
  have hn:¬ aK s=0:=(fun e=>by rw [bf.2 e] at h0;cases h0)
  rw [pX hn];exact ⟨trivial,rfl,rfl⟩
 case b|c|g=>rw [pZ (bf.1 (by assumption)) (by omega) (by first | exact .inr (by omega) | exact .inl ⟨by assumption,by omega⟩)];exact ⟨trivial,rfl,rfl⟩
 case d|e|h|i=>simp only [aM,aL] at *;omega
 case f|j=>rw [tH (bf.1 (by assumption)) (by omega) (by rintro (⟨e1,e2⟩ | e);(first | omega | exact Bool.noConfusion (e1.symm.trans (show cu b9 f.2.1.1 s=true by assumption)));omega)];exact ⟨trivial,rfl,rfl⟩
theorem Tryz.vR:cP Tryz.prog Tryz.B.eT Tryz.X 30 false (bW Tryz.aU [.obj 0, .d .str, .d .str] (fun _ x=>x.2.1.1.length<=6/\0<=x.1.1/\x.1.1<=1000000) Tryz.lg):=
 cQ (X:=Tryz.X) Tryz.CB Tryz.func30 (by kernel_rfl) (fun (a:CD [.obj 0, .d .str, .d .str]) (x:PD Tryz.aU)=>[]) (fun (a:CD [.obj 0, .d .str, .d .str]) (x:PD Tryz.aU) hw hp=>Ef a.1 a.2.1 x hw hp)
def Tryz.mW:List (Alt Tryz.aU [.obj 0, .d .str]):=[{bu:=Tryz.aU,res:=[.d .err],out:=fun a x=>(db x a.1).1,ret:=fun a x=>(bd (db x a.1).2,())}]
theorem CC (s:List UInt8) (f:bp) (hw:kO [.obj 0, .d .str] (s,())):(fp Tryz.B [] Tryz.f41 [] Tryz.aU [.obj 0, .d .str] Tryz.mW (s,()) f).holds:=by
 refine holds_of (p:=
  let za:=Ty.prod Ty.str (Ty.prod (Ty.int IntKind.i64) Ty.unit)
  let zb:=db f s
  let zc:=(bd zb.2,())
  (((!cu za f.2.1.1 s)=true->(True/\f=zb.1/\(aY.no (5:Int),())=zc))/\((!cu za f.2.1.1 s)=false->(True/\(f.1,(ed za f.2.1.1 s,f.2.1.2),())=zb.1/\(aY.nil,())=zc)))) (by kernel_rfl) ?_
 dsimp -iota -proj -eta only
 exact iB (fun h0=>(by rw [kq h0];exact ⟨trivial,rfl,rfl⟩)) (fun h0=>(by rw [jr h0];exact ⟨trivial,rfl,rfl⟩))
theorem Tryz.CE:cP Tryz.prog Tryz.B.eT Tryz.X 41 false (bW Tryz.aU [.obj 0, .d .str] (fun _ _=>True) Tryz.mW):=
 cQ (X:=Tryz.X) (bY Tryz.bZ) Tryz.func41 (by kernel_rfl) (fun (a:CD [.obj 0, .d .str]) (x:PD Tryz.aU)=>[]) (fun (a:CD [.obj 0, .d .str]) (x:PD Tryz.aU) hw hp=>CC a.1 x hw)
end Go.Proofs.YtgokjhhcfemnhacGreatDoor

namespace Go.Proofs.YtgokjhhcfemnhacGreatDoor
open Go.Shelf
def Tryz.Af:Go.Shelf.Ren:=⟨fun | 103=>130 | 210=>148 | 206=>167 | n=>n,fun | 9=>9 | 4=>4 | 24=>208 | 3=>3 | n=>n,fun | n=>n⟩
theorem Tryz.Hi:Go.Proofs.Lays.n103 Tryz.prog Tryz.Af:={
 mixed:=by kernel_rfl
 f103:=Tryz.func130.trans (congrArg some (by kernel_rfl))
 f206:=Tryz.func167.trans (congrArg some (by kernel_rfl))
 f210:=Tryz.func148.trans (congrArg some (by kernel_rfl))
 t3:=Tryz.underlying3
 a3:=Tryz.isAgg3
 z3:=Tryz.sizeOf3
 v3:=Tryz.zeroValue3
 t4:=Tryz.underlying4
 a4:=Tryz.isAgg4
 z4:=Tryz.sizeOf4
 v4:=Tryz.zeroValue4
 t9:=Tryz.underlying9
 a9:=Tryz.isAgg9
 z9:=Tryz.sizeOf9
 v9:=Tryz.zeroValue9
 t24:=Tryz.underlying208
 a24:=Tryz.isAgg208
 z24:=Tryz.sizeOf208
 v24:=Tryz.zeroValue208}
open Go.RowKit in
theorem Tryz.strings_CutPrefix (s p:ByteArray) (w:World) :
  Calls Tryz.prog 130 #[.string s, .string p] w fun e w'=>e = .returned (.tuple #[.string ⟨(Lib.trimPrefix s.data.toList p.data.toList).toArray⟩, .bool (Lib.hasPrefix s.data.toList p.data.toList)])/\w'=w:=Any.strings_CutPrefix Tryz.Hi s p w
def Tryz.yF:Go.Shelf.Ren:=⟨fun | 171=>71 | 243=>109 | 246=>128 | 283=>144 | 284=>145 | 285=>146 | 286=>147 | 129=>163 | 317=>162 | 318=>164 | 319=>165 | 320=>166 | 337=>174 | 338=>175 | n=>n,fun | 3=>3 | 9=>9 | 2=>2 | 4=>4 | 171=>227 | 0=>0 | 53=>23 | 37=>142 | 5=>5 | 173=>230 | 212=>242 | 51=>216 | 20=>20 | 213=>243 | 46=>182 | 232=>261 | 233=>262 | n=>n,fun | 17=>1 | 18=>6 | 19=>7 | n=>n⟩
theorem Tryz.F0:Go.Proofs.LaysM.n171 Tryz.prog Tryz.yF:={
 mixed:=by kernel_rfl
 f129:=Tryz.func163.trans (congrArg some (by kernel_rfl))
 f171:=Tryz.func71.trans (congrArg some (by kernel_rfl))
 f243:=Tryz.func109.trans (congrArg some (by kernel_rfl))
 f246:=Tryz.func128.trans (congrArg some (by kernel_rfl))
 f283:=Tryz.func144.trans (congrArg some (by kernel_rfl))
 f284:=Tryz.func145.trans (congrArg some (by kernel_rfl))
 f285:=Tryz.func146.trans (congrArg some (by kernel_rfl))
 f286:=Tryz.func147.trans (congrArg some (by kernel_rfl))
 f317:=Tryz.func162.trans (congrArg some (by kernel_rfl))
 f318:=Tryz.func164.trans (congrArg some (by kernel_rfl))
 f319:=Tryz.func165.trans (congrArg some (by kernel_rfl))
 f320:=Tryz.func166.trans (congrArg some (by kernel_rfl))
 f337:=Tryz.func174.trans (congrArg some (by kernel_rfl))
 f338:=Tryz.func175.trans (congrArg some (by kernel_rfl))
 t0:=Tryz.underlying0
 a0:=Tryz.isAgg0
 z0:=Tryz.sizeOf0
 v0:=Tryz.zeroValue0
 t2:=Tryz.underlying2
 a2:=Tryz.isAgg2
 z2:=Tryz.sizeOf2
 v2:=Tryz.zeroValue2
 t3:=Tryz.underlying3
 a3:=Tryz.isAgg3
 z3:=Tryz.sizeOf3
 v3:=Tryz.zeroValue3
 t4:=Tryz.underlying4
 a4:=Tryz.isAgg4
 z4:=Tryz.sizeOf4
 v4:=Tryz.zeroValue4
 t5:=Tryz.underlying5
 a5:=Tryz.isAgg5
 z5:=Tryz.sizeOf5
 v5:=Tryz.zeroValue5
 t9:=Tryz.underlying9
 a9:=Tryz.isAgg9
 z9:=Tryz.sizeOf9
 v9:=Tryz.zeroValue9
 t20:=Tryz.underlying20
 a20:=Tryz.isAgg20
 z20:=Tryz.sizeOf20
 v20:=Tryz.zeroValue20
 t37:=Tryz.underlying142
 a37:=Tryz.isAgg142
 z37:=Tryz.sizeOf142
 v37:=Tryz.zeroValue142
 t46:=Tryz.underlying182
 a46:=Tryz.isAgg182
 z46:=Tryz.sizeOf182
 v46:=Tryz.zeroValue182
 t51:=Tryz.underlying216
 a51:=Tryz.isAgg216
 z51:=Tryz.sizeOf216
 v51:=Tryz.zeroValue216
 t53:=Tryz.underlying23
 a53:=Tryz.isAgg23
 z53:=Tryz.sizeOf23
 v53:=Tryz.zeroValue23
 t171:=Tryz.underlying227
 a171:=Tryz.isAgg227
 z171:=Tryz.sizeOf227
 v171:=Tryz.zeroValue227
 t173:=Tryz.underlying230
 a173:=Tryz.isAgg230
 z173:=Tryz.sizeOf230
 v173:=Tryz.zeroValue230
 t212:=Tryz.underlying242
 a212:=Tryz.isAgg242
 z212:=Tryz.sizeOf242
 v212:=Tryz.zeroValue242
 t213:=Tryz.underlying243
 a213:=Tryz.isAgg243
 z213:=Tryz.sizeOf243
 t232:=Tryz.underlying261
 a232:=Tryz.isAgg261
 z232:=Tryz.sizeOf261
 v232:=Tryz.zeroValue261
 t233:=Tryz.underlying262
 a233:=Tryz.isAgg262
 z233:=Tryz.sizeOf262
 v233:=Tryz.zeroValue262
 g17:=by kernel_rfl
 g18:=by kernel_rfl
 g19:=by kernel_rfl
 i0:=by kernel_rfl
 i2:=by kernel_rfl
 i3:=by kernel_rfl
 i4:=by kernel_rfl
 i5:=by kernel_rfl
 i9:=by kernel_rfl
 i20:=by kernel_rfl
 i37:=by kernel_rfl
 i46:=by kernel_rfl
 i51:=by kernel_rfl
 i53:=by kernel_rfl
 i171:=by kernel_rfl
 i173:=by kernel_rfl
 i212:=by kernel_rfl
 i232:=by kernel_rfl
 i233:=by kernel_rfl
 m17:=by kernel_rfl
 m18:=by kernel_rfl
 m19:=by kernel_rfl}
open Go.RowKit Go.Sort Go.Lib in
theorem Tryz.strconv_Itoa (n:Int) (h0 : -9223372036854775808<=n) (h1:n<=9223372036854775807) (w:World) (htab:Lib.TabIs Tryz.prog w "internal/strconv.uint64pow10" .u64 Lib.pow10Tab) :
  Calls Tryz.prog 71 #[.int .i64 n] w fun e w'=>e = .returned (.string ⟨(Lib.itoa n).toArray⟩)/\∃k os,w'=grow (w.drewN k) os:=Any.strconv_Itoa Tryz.F0 n h0 h1 w htab
def Tryz.yG:Go.Shelf.Ren:=⟨fun | 172=>125 | 244=>141 | 245=>142 | 247=>157 | 279=>158 | 280=>159 | 281=>160 | 282=>161 | 287=>171 | 316=>172 | 171=>71 | 205=>173 | 321=>176 | 322=>177 | 243=>109 | 246=>128 | 283=>144 | 284=>145 | 285=>146 | 286=>147 | 129=>163 | 317=>162 | 318=>164 | 319=>165 | 320=>166 | 337=>174 | 338=>175 | n=>n,fun | 9=>9 | 3=>3 | 75=>36 | 76=>146 | 4=>4 | 5=>5 | 167=>235 | 37=>142 | 0=>0 | 85=>236 | 2=>2 | 168=>238 | 53=>23 | 175=>251 | 46=>182 | 210=>254 | 127=>188 | 145=>260 | 143=>258 | 21=>21 | 171=>227 | 173=>230 | 212=>242 | 51=>216 | 20=>20 | 213=>243 | 232=>261 | 233=>262 | 80=>149 | n=>n,fun | 15=>4 | 16=>5 | 17=>1 | 18=>6 | 19=>7 | n=>n⟩
theorem Tryz.ss:Go.Proofs.LaysC.n172 Tryz.prog Tryz.yG:={
 mixed:=by kernel_rfl
 f129:=Tryz.func163.trans (congrArg some (by kernel_rfl))
 f171:=Tryz.func71.trans (congrArg some (by kernel_rfl))
 f172:=Tryz.func125.trans (congrArg some (by kernel_rfl))
 f205:=Tryz.func173.trans (congrArg some (by kernel_rfl))
 f243:=Tryz.func109.trans (congrArg some (by kernel_rfl))
 f244:=Tryz.func141.trans (congrArg some (by kernel_rfl))
 f245:=Tryz.func142.trans (congrArg some (by kernel_rfl))
 f246:=Tryz.func128.trans (congrArg some (by kernel_rfl))
 f247:=Tryz.func157.trans (congrArg some (by kernel_rfl))
 f279:=Tryz.func158.trans (congrArg some (by kernel_rfl))
 f280:=Tryz.func159.trans (congrArg some (by kernel_rfl))
 f281:=Tryz.func160.trans (congrArg some (by kernel_rfl))
 f282:=Tryz.func161.trans (congrArg some (by kernel_rfl))
 f283:=Tryz.func144.trans (congrArg some (by kernel_rfl))
 f284:=Tryz.func145.trans (congrArg some (by kernel_rfl))
 f285:=Tryz.func146.trans (congrArg some (by kernel_rfl))
 f286:=Tryz.func147.trans (congrArg some (by kernel_rfl))
 f287:=Tryz.func171.trans (congrArg some (by kernel_rfl))
 f316:=Tryz.func172.trans (congrArg some (by kernel_rfl))
 f317:=Tryz.func162.trans (congrArg some (by kernel_rfl))
 f318:=Tryz.func164.trans (congrArg some (by kernel_rfl))
 f319:=Tryz.func165.trans (congrArg some (by kernel_rfl))
 f320:=Tryz.func166.trans (congrArg some (by kernel_rfl))
 f321:=Tryz.func176.trans (congrArg some (by kernel_rfl))
 f322:=Tryz.func177.trans (congrArg some (by kernel_rfl))
 f337:=Tryz.func174.trans (congrArg some (by kernel_rfl))
 f338:=Tryz.func175.trans (congrArg some (by kernel_rfl))
 t0:=Tryz.underlying0
 a0:=Tryz.isAgg0
 z0:=Tryz.sizeOf0
 v0:=Tryz.zeroValue0
 t2:=Tryz.underlying2
 a2:=Tryz.isAgg2
 z2:=Tryz.sizeOf2
 v2:=Tryz.zeroValue2
 t3:=Tryz.underlying3
 a3:=Tryz.isAgg3
 z3:=Tryz.sizeOf3
 v3:=Tryz.zeroValue3
 t4:=Tryz.underlying4
 a4:=Tryz.isAgg4
 z4:=Tryz.sizeOf4
 v4:=Tryz.zeroValue4
 t5:=Tryz.underlying5
 a5:=Tryz.isAgg5
 z5:=Tryz.sizeOf5
 v5:=Tryz.zeroValue5
 t9:=Tryz.underlying9
 a9:=Tryz.isAgg9
 z9:=Tryz.sizeOf9
 v9:=Tryz.zeroValue9
 t20:=Tryz.underlying20
 a20:=Tryz.isAgg20
 z20:=Tryz.sizeOf20
 v20:=Tryz.zeroValue20
 t21:=Tryz.underlying21
 a21:=Tryz.isAgg21
 z21:=Tryz.sizeOf21
 v21:=Tryz.zeroValue21
 t37:=Tryz.underlying142
 a37:=Tryz.isAgg142
 z37:=Tryz.sizeOf142
 v37:=Tryz.zeroValue142
 t46:=Tryz.underlying182
 a46:=Tryz.isAgg182
 z46:=Tryz.sizeOf182
 v46:=Tryz.zeroValue182
 t51:=Tryz.underlying216
 a51:=Tryz.isAgg216
 z51:=Tryz.sizeOf216
 v51:=Tryz.zeroValue216
 t53:=Tryz.underlying23
 a53:=Tryz.isAgg23
 z53:=Tryz.sizeOf23
 v53:=Tryz.zeroValue23
 t75:=Tryz.underlying36
 a75:=Tryz.isAgg36
 z75:=Tryz.sizeOf36
 v75:=Tryz.zeroValue36
 t76:=Tryz.underlying146
 a76:=Tryz.isAgg146
 z76:=Tryz.sizeOf146
 v76:=Tryz.zeroValue146
 t85:=Tryz.underlying236
 a85:=Tryz.isAgg236
 z85:=Tryz.sizeOf236
 v85:=Tryz.zeroValue236
 t127:=Tryz.underlying188
 a127:=Tryz.isAgg188
 z127:=Tryz.sizeOf188
 v127:=Tryz.zeroValue188
 t143:=Tryz.underlying258
 a143:=Tryz.isAgg258
 z143:=Tryz.sizeOf258
 v143:=Tryz.zeroValue258
 t145:=Tryz.underlying260
 a145:=Tryz.isAgg260
 z145:=Tryz.sizeOf260
 v145:=Tryz.zeroValue260
 t167:=Tryz.underlying235
 a167:=Tryz.isAgg235
 z167:=Tryz.sizeOf235
 v167:=Tryz.zeroValue235
 t168:=Tryz.underlying238
 a168:=Tryz.isAgg238
 z168:=Tryz.sizeOf238
 v168:=Tryz.zeroValue238
 t171:=Tryz.underlying227
 a171:=Tryz.isAgg227
 z171:=Tryz.sizeOf227
 v171:=Tryz.zeroValue227
 t173:=Tryz.underlying230
 a173:=Tryz.isAgg230
 z173:=Tryz.sizeOf230
 v173:=Tryz.zeroValue230
 t175:=Tryz.underlying251
 a175:=Tryz.isAgg251
 z175:=Tryz.sizeOf251
 v175:=Tryz.zeroValue251
 t210:=Tryz.underlying254
 a210:=Tryz.isAgg254
 z210:=Tryz.sizeOf254
 v210:=Tryz.zeroValue254
 t212:=Tryz.underlying242
 a212:=Tryz.isAgg242
 z212:=Tryz.sizeOf242
 v212:=Tryz.zeroValue242
 t213:=Tryz.underlying243
 a213:=Tryz.isAgg243
 z213:=Tryz.sizeOf243
 t232:=Tryz.underlying261
 a232:=Tryz.isAgg261
 z232:=Tryz.sizeOf261
 v232:=Tryz.zeroValue261
 t233:=Tryz.underlying262
 a233:=Tryz.isAgg262
 z233:=Tryz.sizeOf262
 v233:=Tryz.zeroValue262
 g15:=by kernel_rfl
 g16:=by kernel_rfl
 g17:=by kernel_rfl
 g18:=by kernel_rfl
 g19:=by kernel_rfl
 t80:=Tryz.underlying149
 a80:=Tryz.isAgg149
 z80:=Tryz.sizeOf149
 v80:=Tryz.zeroValue149
 i0:=by kernel_rfl
 i2:=by kernel_rfl
 i3:=by kernel_rfl
 i4:=by kernel_rfl
 i5:=by kernel_rfl
 i9:=by kernel_rfl
 i20:=by kernel_rfl
 i21:=by kernel_rfl
 i37:=by kernel_rfl
 i46:=by kernel_rfl
 i51:=by kernel_rfl
 i53:=by kernel_rfl
 i75:=by kernel_rfl
 i76:=by kernel_rfl
 i80:=by kernel_rfl
 i85:=by kernel_rfl
 i127:=by kernel_rfl
 i143:=by kernel_rfl
 i145:=by kernel_rfl
 i167:=by kernel_rfl
 i168:=by kernel_rfl
 i171:=by kernel_rfl
 i173:=by kernel_rfl
 i175:=by kernel_rfl
 i210:=by kernel_rfl
 i212:=by kernel_rfl
 i232:=by kernel_rfl
 i233:=by kernel_rfl
 m15:=by kernel_rfl
 m16:=by kernel_rfl
 m17:=by kernel_rfl
 m18:=by kernel_rfl
 m19:=by kernel_rfl
 c0:=by kernel_rfl
 c2:=by kernel_rfl
 c3:=by kernel_rfl
 c4:=by kernel_rfl
 c5:=by kernel_rfl
 c9:=by kernel_rfl
 c20:=by kernel_rfl
 c21:=by kernel_rfl
 c37:=by kernel_rfl
 c46:=by kernel_rfl
 c51:=by kernel_rfl
 c53:=by kernel_rfl
 c75:=by kernel_rfl
 c76:=by kernel_rfl
 c80:=by kernel_rfl
 c85:=by kernel_rfl
 c127:=by kernel_rfl
 c143:=by kernel_rfl
 c145:=by kernel_rfl
 c167:=by kernel_rfl
 c168:=by kernel_rfl
 c171:=by kernel_rfl
 c173:=by kernel_rfl
 c175:=by kernel_rfl
 c210:=by kernel_rfl
 c212:=by kernel_rfl
 c213:=by kernel_rfl
 c232:=by kernel_rfl
 c233:=by kernel_rfl}
open Go.RowKit in
theorem Tryz.strconv_Atoi_ok (s:ByteArray) (hmax:s.size<=9223372036854775806) (v:Int) (h:Lib.atoiAll s.data.toList = .ok v) (w:World) :
  Calls Tryz.prog 125 #[.string s] w fun e w'=>e = .returned (.tuple #[.int .i64 v, .nilIface])/\(w'=w\/∃t,w'=Lib.bytesWorld w 5 t):=Any.strconv_Atoi_ok Tryz.ss s hmax v h w
open Go.RowKit in
theorem Tryz.strconv_Atoi_syntax (s:ByteArray) (hlim:s.size<=281474976710656) (h:Lib.atoiAll s.data.toList=Go.Lib.NumEnd.syntax) (ev:Value) (w:World) (hv:w.cell? ⟨4,0,none⟩=some ev) (hev:ev = .nilIface\/∃te pe,ev = .iface te pe) :
  Calls Tryz.prog 125 #[.string s] w fun e w'=>∃N,e = .returned (.tuple #[.int .i64 (0), .iface 238 (.pointer (some ⟨N,0,none⟩))])/\w.heap.size<=N/\w'.heap[N]?=some (.cells #[.string ⟨#[65,116,111,105]⟩, .string s,ev] 254 (0,0))/\Below w.heap.size w w':=Any.strconv_Atoi_syntax Tryz.ss s hlim h ev w hv hev
open Go.RowKit in
theorem Tryz.strconv_Atoi_range (s:ByteArray) (hlim:s.size<=281474976710656) (h:Lib.atoiAll s.data.toList = .range) (ev:Value) (w:World) (hv:w.cell? ⟨5,0,none⟩=some ev) (hev:ev = .nilIface\/∃te pe,ev = .iface te pe) :
  Calls Tryz.prog 125 #[.string s] w fun e w'=>∃N,e = .returned (.tuple #[.int .i64 (Lib.atoiSat s.data.toList), .iface 238 (.pointer (some ⟨N,0,none⟩))])/\w.heap.size<=N/\w'.heap[N]?=some (.cells #[.string ⟨#[65,116,111,105]⟩, .string s,ev] 254 (0,0))/\Below w.heap.size w w':=Any.strconv_Atoi_range Tryz.ss s hlim h ev w hv hev
def Tryz.Ag:Go.Shelf.Ren:=⟨fun | 102=>103 | 209=>124 | 207=>140 | n=>n,fun | 9=>9 | 4=>4 | 3=>3 | n=>n,fun | n=>n⟩
theorem Tryz.Hj:Go.Proofs.Lays.n102 Tryz.prog Tryz.Ag:={
 mixed:=by kernel_rfl
 f102:=Tryz.func103.trans (congrArg some (by kernel_rfl))
 f207:=Tryz.func140.trans (congrArg some (by kernel_rfl))
 f209:=Tryz.func124.trans (congrArg some (by kernel_rfl))
 t3:=Tryz.underlying3
 a3:=Tryz.isAgg3
 z3:=Tryz.sizeOf3
 v3:=Tryz.zeroValue3
 t4:=Tryz.underlying4
 a4:=Tryz.isAgg4
 z4:=Tryz.sizeOf4
 v4:=Tryz.zeroValue4
 t9:=Tryz.underlying9
 a9:=Tryz.isAgg9
 z9:=Tryz.sizeOf9
 v9:=Tryz.zeroValue9}
open Go.RowKit Go.Lib in
theorem Tryz.strings_TrimSuffix (s p:ByteArray) (w:World) (hs:s.size<=9223372036854775807) :
  Calls Tryz.prog 103 #[.string s, .string p] w fun e w'=>e = .returned (.string ⟨(Lib.trimSuffix s.data.toList p.data.toList).toArray⟩)/\w'=w:=Any.strings_TrimSuffix Tryz.Hj s p w hs
def Tryz.Ah:Go.Shelf.Ren:=⟨fun | 146=>102 | 221=>101 | 268=>121 | 138=>122 | 143=>123 | 195=>136 | 197=>137 | 218=>138 | 219=>139 | 260=>152 | 217=>153 | 225=>154 | 224=>155 | 267=>156 | 266=>169 | 314=>170 | n=>n,fun | 9=>9 | 31=>56 | 3=>3 | 4=>4 | 0=>0 | 105=>221 | 21=>21 | 5=>5 | 46=>182 | 119=>246 | 139=>249 | 138=>248 | 146=>217 | 51=>216 | n=>n,fun | 1=>0 | 3=>2 | 4=>3 | n=>n⟩
theorem Tryz.Hk:Go.Proofs.Lays.n146 Tryz.prog Tryz.Ah:={
 mixed:=by kernel_rfl
 f138:=Tryz.func122.trans (congrArg some (by kernel_rfl))
 f143:=Tryz.func123.trans (congrArg some (by kernel_rfl))
 f146:=Tryz.func102.trans (congrArg some (by kernel_rfl))
 f195:=Tryz.func136.trans (congrArg some (by kernel_rfl))
 f197:=Tryz.func137.trans (congrArg some (by kernel_rfl))
 f217:=Tryz.func153.trans (congrArg some (by kernel_rfl))
 f218:=Tryz.func138.trans (congrArg some (by kernel_rfl))
 f219:=Tryz.func139.trans (congrArg some (by kernel_rfl))
 f221:=Tryz.func101.trans (congrArg some (by kernel_rfl))
 f224:=Tryz.func155.trans (congrArg some (by kernel_rfl))
 f225:=Tryz.func154.trans (congrArg some (by kernel_rfl))
 f260:=Tryz.func152.trans (congrArg some (by kernel_rfl))
 f266:=Tryz.func169.trans (congrArg some (by kernel_rfl))
 f267:=Tryz.func156.trans (congrArg some (by kernel_rfl))
 f268:=Tryz.func121.trans (congrArg some (by kernel_rfl))
 f314:=Tryz.func170.trans (congrArg some (by kernel_rfl))
 t0:=Tryz.underlying0
 a0:=Tryz.isAgg0
 z0:=Tryz.sizeOf0
 v0:=Tryz.zeroValue0
 t3:=Tryz.underlying3
 a3:=Tryz.isAgg3
 z3:=Tryz.sizeOf3
 v3:=Tryz.zeroValue3
 t4:=Tryz.underlying4
 a4:=Tryz.isAgg4
 z4:=Tryz.sizeOf4
 v4:=Tryz.zeroValue4
 t5:=Tryz.underlying5
 a5:=Tryz.isAgg5
 z5:=Tryz.sizeOf5
 v5:=Tryz.zeroValue5
 t9:=Tryz.underlying9
 a9:=Tryz.isAgg9
 z9:=Tryz.sizeOf9
 v9:=Tryz.zeroValue9
 t21:=Tryz.underlying21
 a21:=Tryz.isAgg21
 z21:=Tryz.sizeOf21
 v21:=Tryz.zeroValue21
 t31:=Tryz.underlying56
 a31:=Tryz.isAgg56
 z31:=Tryz.sizeOf56
 v31:=Tryz.zeroValue56
 t46:=Tryz.underlying182
 a46:=Tryz.isAgg182
 z46:=Tryz.sizeOf182
 v46:=Tryz.zeroValue182
 t51:=Tryz.underlying216
 a51:=Tryz.isAgg216
 z51:=Tryz.sizeOf216
 v51:=Tryz.zeroValue216
 t105:=Tryz.underlying221
 a105:=Tryz.isAgg221
 z105:=Tryz.sizeOf221
 v105:=Tryz.zeroValue221
 t119:=Tryz.underlying246
 a119:=Tryz.isAgg246
 z119:=Tryz.sizeOf246
 t138:=Tryz.underlying248
 a138:=Tryz.isAgg248
 z138:=Tryz.sizeOf248
 v138:=Tryz.zeroValue248
 t139:=Tryz.underlying249
 a139:=Tryz.isAgg249
 z139:=Tryz.sizeOf249
 v139:=Tryz.zeroValue249
 t146:=Tryz.underlying217
 a146:=Tryz.isAgg217
 z146:=Tryz.sizeOf217
 v146:=Tryz.zeroValue217
 g1:=by kernel_rfl
 g3:=by kernel_rfl
 g4:=by kernel_rfl}
open Go.RowKit Go.Lib in
theorem Tryz.strings_Split (s sep:ByteArray) (m:Int) (w:World) (hs:s.size < 4294967281) (hm:w.cell? ⟨0,0,none⟩=some (.int .i64 m)) (h1:1<=sep.size) :
  Calls Tryz.prog 102 #[.string s, .string sep] w fun e w'=>
   e = .returned (.slice (some ⟨w.heap.size,0,none⟩) (Lib.countB s sep + 1) (Lib.countB s sep + 1))/\w'=w.alloc (.cells ((Lib.splitB sep 0 (Lib.countB s sep) s).map Value.string).toArray 9):=Any.strings_Split Tryz.Hk (by kernel_rfl) s sep m w hs hm h1
end Go.Proofs.YtgokjhhcfemnhacGreatDoor

namespace Go.Proofs.YtgokjhhcfemnhacGreatDoor
open Go.Vg Go.Mrl
theorem CF (w:World) (k:Nat) (os:Array Obj):Vg.Below w.heap.size w (Sort.grow (w.drewN k) os):=by
 refine ⟨rfl,rfl,?_,fun i hi => ?_⟩
 ·show w.heap.size<=(w.heap++os).size
  simp
 ·show (w.heap++os)[i]?=w.heap[i]?
  rw [Array.getElem?_append,if_pos hi]
theorem Hl {eT:TypeId} {n:Int} {O:aD} {w:World} {v:Value} (h:VR eT (.int .i64) n O w v):v = .int .i64 n/\-9223372036854775808<=n/\n<=9223372036854775807:=by
 obtain ⟨h1,h2,h3⟩:=VR.one rfl h
 exact ⟨by simpa using h1,h2,h3⟩
theorem j9 {eT:TypeId} {s:List UInt8} {O:aD} {w:World} {v:Value} (h:VR eT .str s O w v):v = .string ⟨s.toArray⟩/\s.length<=aL:=by
 obtain ⟨h1,h2⟩:=VR.one rfl h
 exact ⟨by simpa using h1,h2⟩
theorem yH {eT:TypeId} {s:List UInt8} {O:aD} {w:World} (h:s.length<=aL):VR eT .str s O w (.string ⟨s.toArray⟩):=VR.bD rfl ⟨rfl,h⟩
theorem oP:∀(k u:Nat),u < 10 ^ (k + 1)->Lib.nDigits u<=k + 1
 | 0,u,h=>by rw [Lib.nDigits_small (by simpa using h)];exact Nat.le_refl _
 | k + 1,u,h=>by
  by_cases hu:u < 10
  ·rw [Lib.nDigits_small hu];omega
  ·rw [Lib.nDigits_big hu]
   have:=oP k (u / 10) (by rw [Nat.pow_succ] at h;omega)
   omega
theorem F1 {n:Int} (h0 : -9223372036854775808<=n) (h1:n<=9223372036854775807):(Lib.itoa n).length<=21:=by
 unfold Lib.itoa
 split
 ·rw [List.length_cons,Lib.decDigits_length]
  have:=oP 19 n.natAbs (by omega)
  omega
 ·rw [Lib.decDigits_length]
  have:=oP 19 n.toNat (by omega)
  omega
theorem Tryz.oQ:bB Tryz.prog Tryz.B.eT Tryz.X 71 [.int .i64] [.str] (fun _=>True) (fun n y=>y=Lib.itoa n):=by
 refine ⟨⟨Tryz.f71,Tryz.func71,by kernel_rfl,by kernel_rfl⟩,fun O w n vs hG hO ha _ => ?_⟩
 obtain ⟨v,rfl,hv⟩:=ha
 obtain ⟨rfl,h0,h1⟩:=Hl hv
 refine (Tryz.strconv_Itoa n h0 h1 w hG.pow).mono ?_
 rintro e w' ⟨rfl,k,os,rfl⟩
 exact ⟨[.string ⟨(Lib.itoa n).toArray⟩],Lib.itoa n,rfl,rfl,⟨_,rfl,yH (by have:=F1 h0 h1;unfold aL;omega)⟩,CF w k os⟩
theorem Tryz.su:bB Tryz.prog Tryz.B.eT Tryz.X 125 [.str] [.int .i64, .err] (fun s=>s.length<=281474976710656) (fun s y=>y=ch s):=by
 refine ⟨⟨Tryz.f125,Tryz.func125,by kernel_rfl,by kernel_rfl⟩,fun O w s vs hG hO ha hs => ?_⟩
 obtain ⟨v,rfl,hv⟩:=ha
 obtain ⟨rfl,hl⟩:=j9 hv
 have hsz:(⟨s.toArray⟩:ByteArray).size=s.length:=by simp [ByteArray.size]
 have hsl:(⟨s.toArray⟩:ByteArray).data.toList=s:=by simp
 cases ha:Lib.atoiAll s with
 | ok n=>
  refine (Tryz.strconv_Atoi_ok ⟨s.toArray⟩ (by rw [hsz];omega) n (by rw [hsl];exact ha) w).mono ?_
  rintro e w' ⟨rfl,hw⟩
  obtain ⟨b0,b1⟩:=Lib.atoiAll_bounds ha
  refine ⟨[.int .i64 n, .nilIface],(n, .nil),rfl,by unfold ch;rw [ha],⟨_,_,rfl,VR.bD rfl ⟨rfl,b0,b1⟩,⟨_,rfl,VR.bD rfl ⟨_,rfl,rfl⟩⟩⟩,?_⟩
  rcases hw with rfl | ⟨t,rfl⟩
  ·exact Vg.Below.refl _ _
  ·exact .of (Lib.bytesWorld_below _ _ _)
 | range=>
  obtain ⟨ev,hv,he⟩:=hG.IL
  obtain ⟨b0,b1⟩:=Lib.atoiSat_bounds s
  have hA:=Tryz.strconv_Atoi_range ⟨s.toArray⟩ (by rw [hsz];exact hs) (by rw [hsl];exact ha) ev w hv he
  rw [hsl] at hA
  refine hA.mono ?_
  rintro e w' ⟨N,rfl,_,_,hb⟩
  exact ⟨[.int .i64 (Lib.atoiSat s),_],(Lib.atoiSat s, .other),rfl,by unfold ch;rw [ha],⟨_,_,rfl,VR.bD rfl ⟨rfl,b0,b1⟩,⟨_,rfl,VR.bD rfl ⟨_,rfl,_,_,rfl,by decide +kernel⟩⟩⟩, .of hb⟩
 | _=>
  obtain ⟨ev,hv,he⟩:=hG.IK
  refine (Tryz.strconv_Atoi_syntax ⟨s.toArray⟩ (by rw [hsz];exact hs) (by rw [hsl];exact ha) ev w hv he).mono ?_
  rintro e w' ⟨N,rfl,_,_,hb⟩
  exact ⟨[.int .i64 0,_],(0, .other),rfl,by unfold ch;rw [ha],⟨_,_,rfl,VR.bD rfl ⟨rfl,by decide,by decide⟩,⟨_,rfl,VR.bD rfl ⟨_,rfl,_,_,rfl,by decide +kernel⟩⟩⟩, .of hb⟩
theorem Tryz.lV:bB Tryz.prog Tryz.B.eT Tryz.X 130 [.str, .str] [.str, .bool] (fun _=>True) (fun x y=>y=(Lib.trimPrefix x.1 x.2,Lib.hasPrefix x.1 x.2)):=by
 refine ⟨⟨Tryz.f130,Tryz.func130,by kernel_rfl,by kernel_rfl⟩,fun O w x vs hG hO ha _ => ?_⟩
 obtain ⟨s,p⟩:=x
 obtain ⟨v,vs',rfl,hv,u,rfl,hu⟩:=ha
 obtain ⟨rfl,hl⟩:=j9 hv
 obtain ⟨rfl,_⟩:=j9 hu
 refine (Tryz.strings_CutPrefix ⟨s.toArray⟩ ⟨p.toArray⟩ w).mono ?_
 rintro e w' ⟨rfl,rfl⟩
 have hle:(Lib.trimPrefix s p).length<=s.length:=by unfold Lib.trimPrefix;split <;> simp
 exact ⟨[.string ⟨(Lib.trimPrefix s p).toArray⟩, .bool (Lib.hasPrefix s p)],_,rfl,rfl,⟨_,_,rfl,yH (Nat.le_trans hle hl),_,rfl,VR.bD rfl rfl⟩,Vg.Below.refl _ _⟩
theorem Tryz.kL:bB Tryz.prog Tryz.B.eT Tryz.X 103 [.str, .str] [.str] (fun _=>True) (fun x y=>y=Lib.trimSuffix x.1 x.2):=by
 refine ⟨⟨Tryz.f103,Tryz.func103,by kernel_rfl,by kernel_rfl⟩,fun O w x vs hG hO ha _ => ?_⟩
 obtain ⟨s,p⟩:=x
 obtain ⟨v,vs',rfl,hv,u,rfl,hu⟩:=ha
 obtain ⟨rfl,hl⟩:=j9 hv
 obtain ⟨rfl,_⟩:=j9 hu
 have hl:s.length<=aL:=hl
 have hsz:(⟨s.toArray⟩:ByteArray).size=s.length:=by simp [ByteArray.size]
 refine (Tryz.strings_TrimSuffix ⟨s.toArray⟩ ⟨p.toArray⟩ w (by rw [hsz];exact hl)).mono ?_
 rintro e w' ⟨rfl,rfl⟩
 have hle:(Lib.trimSuffix s p).length<=s.length:=by unfold Lib.trimSuffix;split <;> simp
 exact ⟨[.string ⟨(Lib.trimSuffix s p).toArray⟩],_,rfl,rfl,⟨_,rfl,yH (Nat.le_trans hle hl)⟩,Vg.Below.refl _ _⟩
theorem Tryz.sw:bB Tryz.prog Tryz.B.eT Tryz.X 102 [.str, .str] [.slice .str] (fun x=>x.1.length < 4294967281/\x.2.length=1) (fun x y=>y=parts (Gy x.2) x.1):=by
 refine ⟨⟨Tryz.f102,Tryz.func102,by kernel_rfl,by kernel_rfl⟩,fun O w x vs hG hO ha hp => ?_⟩
 obtain ⟨s,p⟩:=x
 obtain ⟨hs,hp⟩:=hp
 obtain ⟨c,rfl⟩:∃c,p = [c]:=List.length_eq_one_iff.1 hp
 obtain ⟨v,vs',rfl,hv,u,rfl,hu⟩:=ha
 obtain ⟨rfl,hl⟩:=j9 hv
 obtain ⟨rfl,_⟩:=j9 hu
 obtain ⟨m,hm⟩:=hG.max
 have hsz:(⟨s.toArray⟩:ByteArray).size=s.length:=by simp [ByteArray.size]
 have h1:1<=(⟨#[c]⟩:ByteArray).size:=Nat.le_refl 1
 refine (Tryz.strings_Split ⟨s.toArray⟩ ⟨#[c]⟩ m w (by rw [hsz];exact hs) hm h1).mono ?_
 rintro e w' ⟨rfl,rfl⟩
 have hlen:=Lib.splitB_all ⟨#[c]⟩ h1 0 _ ⟨s.toArray⟩ rfl
 have hdat:=Lib.splitB_data ⟨#[c]⟩ 0 (Lib.countB ⟨s.toArray⟩ ⟨#[c]⟩) ⟨s.toArray⟩
 have hcb:=Lib.countB_le ⟨#[c]⟩ h1 _ ⟨s.toArray⟩ (Nat.le_refl _)
 have hd:(Lib.splitB ⟨#[c]⟩ 0 (Lib.countB ⟨s.toArray⟩ ⟨#[c]⟩) ⟨s.toArray⟩).map (·.data.toList)=parts c s:=by rw [hdat,<-lR,<-Lib.count_one]
 have hlf:(parts c s).length=Lib.countB ⟨s.toArray⟩ ⟨#[c]⟩ + 1:=by rw [<-hd,List.length_map,hlen]
 refine ⟨[_],parts c s,rfl,rfl,⟨_,rfl,VR.bD rfl ⟨_,rfl,?_, .inr ⟨w.heap.size,0,Lib.countB ⟨s.toArray⟩ ⟨#[c]⟩ + 1,by rw [hlf],by rw [hlf];exact Nat.le_refl _,fun i y hy => ?_⟩⟩⟩,(Vg.Below.refl _ w).alloc (Nat.le_refl _) _⟩
 ·rw [hlf];have hs:s.length < 4294967281:=hs;rw [hsz] at hcb;unfold aL;omega
 ·have hyl:=jS c s y (List.mem_of_getElem? hy)
  refine ⟨[.string ⟨y.toArray⟩],⟨rfl,Nat.le_trans hyl hl⟩,fun j u hj=>⟨?_,fun hh => ?_⟩⟩
  ·have hj0:j=0:=by
    rcases j with _ | j
    ·rfl
    ·simp at hj
   subst hj0
   simp at hj
   subst hj
   rw [<-hd,List.getElem?_map,Option.map_eq_some_iff] at hy
   obtain ⟨q,hq,rfl⟩:=hy
   have hh:(w.alloc (.cells ((Lib.splitB ⟨#[c]⟩ 0 (Lib.countB ⟨s.toArray⟩ ⟨#[c]⟩) ⟨s.toArray⟩).map Value.string).toArray 9)).heap[w.heap.size]?=some (.cells ((Lib.splitB ⟨#[c]⟩ 0 (Lib.countB ⟨s.toArray⟩ ⟨#[c]⟩) ⟨s.toArray⟩).map Value.string).toArray 9 (0,0)):=heap_alloc_new w _
   rw [Lib.cell_of_heap hh]
   simp only [Ty.size,Nat.mul_one,Nat.zero_add,Nat.add_zero,List.getElem?_toArray,List.getElem?_map,hq,Option.map_some]
  ·have:=hO _ _ hh
   simp at this
end Go.Proofs.YtgokjhhcfemnhacGreatDoor

namespace Go.Proofs.YtgokjhhcfemnhacGreatDoor
open Go.Vg Go.Mrl
@[reducible] def Tryz.lW:List Ob:=[.box 4 [.d .bool]]
@[reducible] def Tryz.iZ:List Ob:=[.box 61 [.obj 1, .obj 2, .obj 3, .obj 4], .tok .str, .tok (.int .i64), .tok aI, .tok aH, .box 4 [.d .bool]]
def Tryz.oR:List (Alt Tryz.lW [.d .str, .obj 0]):=[{bu:=Tryz.lW,res:=[.d (.int .i64)],out:=fun a x=>((x.1.1 || (cL a.1).isNone,()),()),ret:=fun a _=>((ch a.1).1,())}]
noncomputable def Tryz.vS:List (FuncId × (Bool × bA)):=[(71,(true,aR [.int .i64] [.str] (fun _=>True) (fun n=>Lib.itoa n))),
 (125,(true,aR [.str] [.int .i64, .err] (fun s=>s.length<=281474976710656) (fun s=>ch s))),
 (130,(true,aR [.str, .str] [.str, .bool] (fun _=>True) (fun x=>(Lib.trimPrefix x.1 x.2,Lib.hasPrefix x.1 x.2)))),
 (103,(true,aR [.str, .str] [.str] (fun _=>True) (fun x=>Lib.trimSuffix x.1 x.2))),
 (102,(true,aR [.str, .str] [.slice .str] (fun x=>x.1.length < 4294967281/\x.2.length=1) (fun x=>parts (Gy x.2) x.1)))]
theorem Tryz.Ai:bM Tryz.prog Tryz.B Tryz.X Tryz.vS:=
 aX (aE Tryz.oQ) (aX (aE Tryz.su) (aX (aE Tryz.lV) (aX (aE Tryz.kL) (aX (aE Tryz.sw) (bY Tryz.bZ)))))
theorem CG (s:List UInt8) (b:Bool) (hw:kO [.d .str, .obj 0] (s,())) (hp:(fun a _=>a.1.length<=1000000) (s,()) ((b,()),())):(fp Tryz.B Tryz.vS Tryz.f131 [] Tryz.lW [.d .str, .obj 0] Tryz.oR (s,()) ((b,()),())).holds:=by
 refine holds_of (p:=
  let za:=((b || Option.isNone (cL s),()),())
  let zb:=((ch s).1,())
  let zc:=True/\((true,()),())=za/\zb=zb
  (List.length s<=(281474976710656:Nat))/\(((b)=true->(zc))/\((b)=false->(((!aY.isNil (ch s).2)=true->(zc))/\((!aY.isNil (ch s).2)=false->(True)/\(True/\((!Lib.itoa (ch s).1 == s,()),())=za/\zb=zb)))))) (by kernel_rfl) ?_
 dsimp -iota -proj -eta only
 dsimp only at hp
 exact ⟨(by omega),⟨fun h0=>(by simp_all),fun h0=>iB (fun h1=>(by exact ⟨trivial,by rw [vy,h1];simp,rfl⟩)) (fun h1=>⟨trivial,(by exact ⟨trivial,by rw [vy,h1];cases b <;> simp_all <;> (rw [Bool.eq_iff_iff];simp),rfl⟩)⟩)⟩⟩
theorem Tryz.CH:cP Tryz.prog Tryz.B.eT Tryz.X 131 false (bW Tryz.lW [.d .str, .obj 0] (fun a _=>a.1.length<=1000000) Tryz.oR):=
 cQ (X:=Tryz.X) Tryz.Ai Tryz.func131 (by kernel_rfl) (fun (a:CD [.d .str, .obj 0]) (x:PD Tryz.lW)=>[]) (fun (a:CD [.d .str, .obj 0]) (x:PD Tryz.lW) hw hp=>CG a.1 x.1.1 hw hp)
def Tryz.sx:List (Alt Tryz.iZ [.obj 0, .d .str, .obj 5]):=[{bu:=Tryz.iZ,res:=[],out:=fun a x=>D3 (cO (FC x) x.2.2.2.2.2.1.1 a.1),ret:=fun _ _=>()}]
end Go.Proofs.YtgokjhhcfemnhacGreatDoor

namespace Go.Proofs.YtgokjhhcfemnhacGreatDoor
open Go.Vg Go.Mrl
noncomputable def Tryz.Bg:List (FuncId × (Bool × bA)):=[(71,(true,aR [.int .i64] [.str] (fun _=>True) (fun n=>Lib.itoa n))),
 (125,(true,aR [.str] [.int .i64, .err] (fun s=>s.length<=281474976710656) (fun s=>ch s))),
 (130,(true,aR [.str, .str] [.str, .bool] (fun _=>True) (fun x=>(Lib.trimPrefix x.1 x.2,Lib.hasPrefix x.1 x.2)))),
 (103,(true,aR [.str, .str] [.str] (fun _=>True) (fun x=>Lib.trimSuffix x.1 x.2))),
 (102,(true,aR [.str, .str] [.slice .str] (fun x=>x.1.length < 4294967281/\x.2.length=1) (fun x=>parts (Gy x.2) x.1))),
 (131,(false,bW Tryz.lW [.d .str, .obj 0] (fun a _=>a.1.length<=1000000) Tryz.oR))]
theorem Tryz.Eg:bM Tryz.prog Tryz.B Tryz.X Tryz.Bg:=
 aX (aE Tryz.oQ) (aX (aE Tryz.su) (aX (aE Tryz.lV) (aX (aE Tryz.kL) (aX (aE Tryz.sw) (aX (Tryz.CH) (bY Tryz.bZ))))))
def Bh (s:List UInt8) (_:List (List UInt8)) (_:List Int) (_:List (D aI)) (_:List (D aH)) (_:Bool):cp:=[
 (300001,fun st=>{X:=List (List UInt8),inv:=fun w=>w=parts 32 (Lib.trimPrefix s bV),bC:=fun _=>0,bk:=fun w=>[(7,sD (.slice .str) w)],bn:=[0,2,6]}),
 (300003,fun st=>{X:=Bool,inv:=fun c=>c=true ↔ (nth .str (bS (.slice .str) st 7) 0=eE/\List.length (bS (.slice .str) st 7)=2),bC:=fun _=>0,bk:=fun c=>[(18,sB c)],bn:=[0,2,6,7]}),
 (300005,fun st=>{X:=Bool,inv:=fun c=>c=true ↔ (nth .str (bS (.slice .str) st 7) 0=eo/\List.length (bS (.slice .str) st 7)=2),bC:=fun _=>0,bk:=fun c=>[(40,sB c)],bn:=[0,2,6,7]}),
 (300007,fun st=>{X:=Bool,inv:=fun c=>c=true ↔ (nth .str (bS (.slice .str) st 7) 0=dL/\List.length (bS (.slice .str) st 7)=3),bC:=fun _=>0,bk:=fun c=>[(64,sB c)],bn:=[0,2,6,7]}),
 (300009,fun st=>{X:=Bool,inv:=fun c=>c=true ↔ (nth .str (bS (.slice .str) st 7) 0=gj/\List.length (bS (.slice .str) st 7)=3),bC:=fun _=>0,bk:=fun c=>[(93,sB c)],bn:=[0,2,6,7]}),
 (300011,fun st=>{X:=Bool,inv:=fun c=>c=true ↔ ((nth .str (bS (.slice .str) st 7) 0=ft\/nth .str (bS (.slice .str) st 7) 0=fm)/\List.length (bS (.slice .str) st 7)=4),bC:=fun _=>0,bk:=fun c=>[(123,sB c)],bn:=[0,2,6,7]})]
theorem F2 (s:List UInt8) (n:List (List UInt8)) (w:List Int) (y:List (D aI)) (t:List (D aH)) (b:Bool) (hw:kO [.obj 0, .d .str, .obj 5] (s,())) (hp:(fun a x=>a.1.length<=1000000/\x.2.1.length<=1000000/\x.2.2.1.length<=1000000/\x.2.2.2.1.length<=1000000/\x.2.2.2.2.1.length<=1000000) (s,()) ((),n,w,y,t,(b,()),())):(fp Tryz.B Tryz.Bg Tryz.f111 (Bh s n w y t b) Tryz.iZ [.obj 0, .d .str, .obj 5] Tryz.sx (s,()) ((),n,w,y,t,(b,()),())).holds:=by
 refine holds_of (p:=
  let za:=[(119:UInt8),101,97,107,32]
  let zb:=Lib.trimPrefix s za
  let zc:=parts (32:UInt8) (Lib.trimPrefix s bV)
  let zd:=n=n
  let ze:=w=w
  let zf:=y=y
  let zg:=t=t
  let zh:=(zd/\ze/\zf/\zg/\True)/\zd/\ze/\zf/\zg/\(b=b/\True)/\True
  let zi:=fun (x_0:List (List UInt8))=>(↑(List.length x_0):Int)
  let zj:=fun (x_0:List (List UInt8))=>(0:Int)<=(0:Int)/\(0:Int) < zi x_0
  let zk:=fun (x_0:List (List UInt8))=>nth Ty.str x_0 (0:Nat)
  let zl:=fun (x_0:List (List UInt8))=>List.length x_0<=aL
  let zm:=fun (x_0:List (List UInt8))=>zk x_0=eE/\List.length x_0=(2:Nat)
  let zn:=fun (x_0:List (List UInt8))=>(0:Int)<=(1:Int)/\(1:Int) < zi x_0
  let zo:=fun (x_0:List (List UInt8))=>nth Ty.str x_0 (1:Nat)
  let zp:=(w,y,t,(b,()),())
  let zq:=D3 (cO (FC ((),n,zp)) b s)
  let zr:=()=()
  let zs:=fun (x_0:List (List UInt8))=>zk x_0=eo/\List.length x_0=(2:Nat)
  let zt:=fun (x_0:List (List UInt8))=>List.length (zo x_0)<=(1000000:Nat)
  let zu:=fun (x_0:List (List UInt8))=>(ch (zo x_0)).1
  let zv:=fun (x_0:List (List UInt8))=>zk x_0=dL/\List.length x_0=(3:Nat)
  let zw:=fun (x_0:List (List UInt8))=>(0:Int)<=(2:Int)/\(2:Int) < zi x_0
  let zx:=fun (x_0:List (List UInt8))=>nth Ty.str x_0 (2:Nat)
  let zy:=fun (x_0:List (List UInt8))=>List.length (zx x_0)<=(1000000:Nat)
  let zz:=(Lib.hasPrefix s za,())
  let zaa:=fun (x_0:List (List UInt8))=>[(zo x_0,(ch (zx x_0)).1,zz)]
  let zab:=fun (x_0:List (List UInt8))=>zk x_0=gj/\List.length x_0=(3:Nat)
  let zac:=List.length t
  let zad:=fun (x_0:List (List UInt8))=>[(zu x_0,(1:Int),(ch (zx x_0)).1,@List.nil UInt8,false,())]
  let zae:=fun (x_0:List (List UInt8))=>((b || Option.isNone (cL (zo x_0)) || Option.isNone (cL (zx x_0)),()),())
  let zaf:=fun (x_0:List (List UInt8))=>(zy x_0)/\((True)->(zg/\zac + List.length (zad x_0)<=(1000000000:Nat))/\(zd/\ze/\zf/\t++zad x_0=t++zad x_0/\True/\((),n,w,y,t++zad x_0,zae x_0)=zq/\zr))
  let zag:=fun (x_0:List (List UInt8))=>(zk x_0=ft\/zk x_0=fm)/\List.length x_0=(4:Nat)
  let zah:=fun (x_0:List (List UInt8))=>((zl x_0)->(∃(x':Bool),(x'=true ↔ zag x_0)/\((zi x_0 == (4:Int))=x'/\True)/\zh))
  let zai:=fun (x_0:List (List UInt8))=>zk x_0 == [(110:UInt8),101,97,114]
  let zaj:=fun (x_0:List (List UInt8))=>(0:Int)<=(3:Int)/\(3:Int) < zi x_0
  let zak:=fun (x_0:List (List UInt8))=>((ch (zx x_0)).1,nth Ty.str x_0 (3:Nat),zz)
  let zal:=fun (x_0:List (List UInt8))=>t++[(zu x_0,(3:Int),zak x_0)]
  let zam:=fun (x_0:List (List UInt8))=>(zy x_0)/\((True)->(zg/\zac + List.length [(zu x_0,(3:Int),zak x_0)]<=(1000000000:Nat))/\(zd/\ze/\zf/\zal x_0=zal x_0/\True/\((),n,w,y,zal x_0,zae x_0)=zq/\zr))
  let zan:=fun (x_0:List (List UInt8))=>t++[(zu x_0,(2:Int),zak x_0)]
  let zao:=fun (x_0:List (List UInt8))=>(zy x_0)/\((True)->(zg/\zac + List.length [(zu x_0,(2:Int),zak x_0)]<=(1000000000:Nat))/\(zd/\ze/\zf/\zan x_0=zan x_0/\True/\((),n,w,y,zan x_0,zae x_0)=zq/\zr))
  (True)/\(((List.length zb < (4294967281:Nat)/\List.length [(32:UInt8)]=(1:Nat))/\(∃(x':List (List UInt8)),x'=zc/\(parts (32:UInt8) zb=x'/\True)/\zh))/\((∀x_0:List (List UInt8),((x_0=zc)->(((zj x_0)/\(((zk x_0 == [(110:UInt8),101,101,100])=true->((zl x_0)->(∃(x':Bool),(x'=true ↔ zm x_0)/\((zi x_0 == (2:Int))=x'/\True)/\zh)))/\((zk x_0 == [(110:UInt8),101,101,100])=false->(∃(x':Bool),(x'=true ↔ zm x_0)/\(false=x'/\True)/\zh))))/\((∀x_1:Bool,((x_1=true ↔ zm x_0)->(((x_1)=true->(zn x_0)/\(zd/\List.length n + List.length [zo x_0]<=(1000000000:Nat))/\(n++[zo x_0]=n++[zo x_0]/\ze/\zf/\zg/\True/\((),n++[zo x_0],zp)=zq/\zr))/\((x_1)=false->(((zj x_0)/\(((zk x_0 == [(119:UInt8),111,114,100])=true->((zl x_0)->(∃(x':Bool),(x'=true ↔ zs x_0)/\((zi x_0 == (2:Int))=x'/\True)/\zh)))/\((zk x_0 == [(119:UInt8),111,114,100])=false->(∃(x':Bool),(x'=true ↔ zs x_0)/\(false=x'/\True)/\zh))))/\((∀x_2:Bool,((x_2=true ↔ zs x_0)->(((x_2)=true->(zn x_0)/\((fun a0:Prop=>a0/\a0) ((zt x_0)/\((True)->(ze/\List.length w + List.length [zu x_0]<=(1000000000:Nat))/\(zd/\w++[zu x_0]=w++[zu x_0]/\zf/\zg/\True/\((),n,w++[zu x_0],y,t,(b || Option.isNone (cL (zo x_0)),()),())=zq/\zr)))))/\((x_2)=false->(((zj x_0)/\(((zk x_0 == [(115:UInt8),121,109,98,111,108])=true->((zl x_0)->(∃(x':Bool),(x'=true ↔ zv x_0)/\((zi x_0 == (3:Int))=x'/\True)/\zh)))/\((zk x_0 == [(115:UInt8),121,109,98,111,108])=false->(∃(x':Bool),(x'=true ↔ zv x_0)/\(false=x'/\True)/\zh))))/\((∀x_3:Bool,((x_3=true ↔ zv x_0)->(((x_3)=true->(zn x_0)/\(zw x_0)/\((fun a0:Prop=>a0/\a0) ((zy x_0)/\((True)->(zf/\List.length y + List.length (zaa x_0)<=(1000000000:Nat))/\(zd/\ze/\y++zaa x_0=y++zaa x_0/\zg/\True/\((),n,w,y++zaa x_0,t,(b || Option.isNone (cL (zx x_0)),()),())=zq/\zr)))))/\((x_3)=false->(((zj x_0)/\(((zk x_0 == [(98:UInt8),97,115,101])=true->((zl x_0)->(∃(x':Bool),(x'=true ↔ zab x_0)/\((zi x_0 == (3:Int))=x'/\True)/\zh)))/\((zk x_0 == [(98:UInt8),97,115,101])=false->(∃(x':Bool),(x'=true ↔ zab x_0)/\(false=x'/\True)/\zh))))/\((∀x_4:Bool,((x_4=true ↔ zab x_0)->(((x_4)=true->(zn x_0)/\(zw x_0)/\(((zt x_0)/\((True)->(zaf x_0)))/\((zt x_0)/\((True)->((fun a0:Prop=>a0/\a0) ((zaf x_0)))))))/\((x_4)=false->(((zj x_0)/\(((zk x_0 == [(119:UInt8),104,111,108,101])=true->(zah x_0))/\((zk x_0 == [(119:UInt8),104,111,108,101])=false->(zj x_0)/\(((zai x_0)=true->(zah x_0))/\((zai x_0)=false->(∃(x':Bool),(x'=true ↔ zag x_0)/\(false=x'/\True)/\zh))))))/\((∀x_5:Bool,((x_5=true ↔ zag x_0)->(((x_5)=true->(zj x_0)/\(((zai x_0)=true->(zn x_0)/\(zw x_0)/\(zaj x_0)/\(((zt x_0)/\((True)->(zam x_0)))/\((zt x_0)/\((True)->((fun a0:Prop=>a0/\a0) ((zam x_0)))))))/\((zai x_0)=false->(zn x_0)/\(zw x_0)/\(zaj x_0)/\(((zt x_0)/\((True)->(zao x_0)))/\((zt x_0)/\((True)->((fun a0:Prop=>a0/\a0) ((zao x_0)))))))))/\((x_5)=false->(zd/\ze/\zf/\zg/\True/\((),n,w,y,t,(true,()),())=zq/\zr)))))))))))))))))))))))))))))))))))) (by kernel_rfl) ?_
 dsimp -iota -proj -eta only
 dsimp only at hp
 refine ⟨trivial,⟨⟨(by have:=yh s [119,101,97,107,32];exact ⟨by omega,rfl⟩),(⟨_,rfl,⟨rfl,trivial⟩,(by trivial)⟩)⟩,fun x_0 q_0=>⟨⟨?a,iQ (fun h0 h1 => ?b) (fun h0 => ?c)⟩,fun x_1 q_1=>⟨fun h0=>⟨?d,?e,?f⟩,fun h0=>⟨⟨?g,iQ (fun h1 h2 => ?h) (fun h1 => ?i)⟩,fun x_2 q_2=>⟨fun h1=>⟨?j,(show ∀{a0:Prop},a0->a0/\a0 from fun g0=>⟨g0,g0⟩) (⟨?k,fun h2=>⟨?l,?m⟩⟩)⟩,fun h1=>⟨⟨?n,iQ (fun h2 h3 => ?o) (fun h2 => ?p)⟩,fun x_3 q_3=>⟨fun h2=>⟨?q,?r,(show ∀{a0:Prop},a0->a0/\a0 from fun g0=>⟨g0,g0⟩) (⟨?s,fun h3=>⟨?t,?u⟩⟩)⟩,fun h2=>⟨⟨?v,iQ (fun h3 h4 => ?w) (fun h3 => ?x)⟩,fun x_4 q_4=>⟨fun h3=>⟨?y,?z,⟨⟨?a0,fun h4=>⟨?a1,fun h5=>⟨?a2,?a3⟩⟩⟩,⟨?a4,fun h4=>(show ∀{a0:Prop},a0->a0/\a0 from fun g0=>⟨g0,g0⟩) (⟨?a5,fun h5=>⟨?a6,?a7⟩⟩)⟩⟩⟩,fun h3=>⟨⟨?a8,iQ (fun h4 h5 => ?a9) (fun h4=>⟨?aa,iQ (fun h5 h6 => ?ab) (fun h5 => ?ac)⟩)⟩,fun x_5 q_5=>⟨fun h4=>⟨?ad,iQ (fun h5=>⟨?ae,?af,?ag,⟨⟨?ah,fun h6=>⟨?ai,fun h7=>⟨?aj,?ak⟩⟩⟩,⟨?al,fun h6=>(show ∀{a0:Prop},a0->a0/\a0 from fun g0=>⟨g0,g0⟩) (⟨?am,fun h7=>⟨?an,?ao⟩⟩)⟩⟩⟩) (fun h5=>⟨?ap,?aq,?ar,⟨⟨?au,fun h6=>⟨?av,fun h7=>⟨?aw,?ax⟩⟩⟩,⟨?ay,fun h6=>(show ∀{a0:Prop},a0->a0/\a0 from fun g0=>⟨g0,g0⟩) (⟨?az,fun h7=>⟨?b0,?b1⟩⟩)⟩⟩⟩)⟩,fun h4 => ?b2⟩⟩⟩⟩⟩⟩⟩⟩⟩⟩⟩⟩
 case a|g|n|v|a8|aa|ad=>have:=FD q_0;omega
 case b|c|h|i|o|p|w|x|a9|ab|ac=>exact ⟨_,by (simp_all <;> omega),⟨rfl,trivial⟩,(by trivial)⟩
 case d|j|q|r|y|z|ae|af|ag|ap|aq|ar=>simp_all
 case e|l|t|a2|a6|aj|an|aw|b0=>exact ⟨rfl,by simp only [List.length_singleton];omega⟩
 case f|m|u|a3|a7|ak|ao|ax|b1|b2=>
  refine ⟨rfl,rfl,rfl,rfl,trivial,?_,rfl⟩
  first
  | (rw [Ck q_0 (q_1.1 (by assumption))];rfl)
  | (rw [Cm q_0 (fN q_1 (by assumption)) (q_2.1 (by assumption))];rfl)
  | (rw [D4 q_0 (fN q_1 (by assumption)) (fN q_2 (by assumption)) (q_3.1 (by assumption))];rfl)
  | (rw [Cn q_0 (fN q_1 (by assumption)) (fN q_2 (by assumption)) (fN q_3 (by assumption)) (q_4.1 (by assumption))];rfl)
  | (rw [vJ q_0 (fN q_1 (by assumption)) (fN q_2 (by assumption)) (fN q_3 (by assumption)) (fN q_4 (by assumption)) (q_5.1 (by assumption)) (k:=3) (if_pos (by assumption)).symm];rfl)
  | (rw [vJ q_0 (fN q_1 (by assumption)) (fN q_2 (by assumption)) (fN q_3 (by assumption)) (fN q_4 (by assumption)) (q_5.1 (by assumption)) (k:=2) (if_neg (by assumption)).symm];rfl)
  | (rw [Co q_0 (fN q_1 (by assumption)) (fN q_2 (by assumption)) (fN q_3 (by assumption)) (fN q_4 (by assumption)) (fN q_5 (by assumption))];rfl)
 case k|a0|a4|ah|al|au|ay=>have:=A7 q_0 1;omega
 case s|a1|a5|ai|am|av|az=>have:=A7 q_0 2;omega
theorem Tryz.F3:cP Tryz.prog Tryz.B.eT Tryz.X 111 false (bW Tryz.iZ [.obj 0, .d .str, .obj 5] (fun a x=>a.1.length<=1000000/\x.2.1.length<=1000000/\x.2.2.1.length<=1000000/\x.2.2.2.1.length<=1000000/\x.2.2.2.2.1.length<=1000000) Tryz.sx):=
 cQ (X:=Tryz.X) Tryz.Eg Tryz.func111 (by kernel_rfl) (fun (a:CD [.obj 0, .d .str, .obj 5]) (x:PD Tryz.iZ)=>Bh a.1 x.2.1 x.2.2.1 x.2.2.2.1 x.2.2.2.2.1 x.2.2.2.2.2.1.1) (fun (a:CD [.obj 0, .d .str, .obj 5]) (x:PD Tryz.iZ) hw hp=>F2 a.1 x.2.1 x.2.2.1 x.2.2.2.1 x.2.2.2.2.1 x.2.2.2.2.2.1.1 hw hp)
end Go.Proofs.YtgokjhhcfemnhacGreatDoor

namespace Go.Proofs.YtgokjhhcfemnhacGreatDoor
open Go.Vg Go.Mrl
theorem F4 (n:Int) (hw:dN [.int .i64] n):(cg Tryz.B [] Tryz.f106 [] [.int .i64] [.bool] (fun x y=>y=(fun n=>dZ n) x) n).holds:=by
 refine holds_of (p:=
  (((decide (n>=(-2147483648:Int)))=true->(decide (n<=(2147483647:Int))=dZ n))/\((decide (n>=(-2147483648:Int)))=false->(false=dZ n)))) (by kernel_rfl) ?_
 refine iE (fun h0 => ?a) (fun h0 => ?b)
 case a|b=>unfold dZ;rw [Bool.eq_iff_iff];simp;omega
theorem Tryz.yI:bB Tryz.prog Tryz.B.eT Tryz.X 106 [.int .i64] [.bool] (fun _=>True) (fun x y=>y=(fun n=>dZ n) x):=
 bO (X:=Tryz.X) (bY Tryz.bZ) Tryz.func106 (by kernel_rfl) (fun _=>[]) (fun x hw hp=>F4 x hw)
def vT (l:List (List UInt8)) (s:List UInt8):cp:=[(0,fun st=>{X:=Nat,inv:=fun i=>i<=l.length/\∀j,j < i->nth .str l j≠s,bC:=fun i=>l.length - i,bk:=fun i=>[(8,sI i)],bn:=[0,1,7]})]
theorem Eh (l:List (List UInt8)) (s:List UInt8) (hw:dN [.slice .str, .str] (l,s)):(cg Tryz.B [] Tryz.f112 (vT l s) [.slice .str, .str] [.int .i64] (fun x y=>(y = -1/\∀j,j < x.1.length->nth .str x.1 j≠x.2)\/(0<=y/\y.toNat < x.1.length/\nth .str x.1 y.toNat=x.2)) (l,s)).holds:=by
 refine holds_of (p:=
  let za:=List.length l
  let zb:=(-1:Int)
  let zc:=∀(j:Nat),j < za->nth Ty.str l j≠s
  ((za<=aL)->(∃(x:Nat),(x<=za/\∀(j:Nat),j < x->nth Ty.str l j≠s)/\((0:Int)=(↑x:Int)/\True)/\True)/\(∀x_0:Nat,((x_0<=za/\∀(j:Nat),j < x_0->nth Ty.str l j≠s)->(((decide ((↑x_0:Int) < (↑za:Int)))=true->((0:Int)<=(↑x_0:Int)/\(↑x_0:Int) < (↑za:Int))/\(((s == nth Ty.str l x_0)=true->((↑x_0:Int)=zb/\zc\/(0:Int)<=(↑x_0:Int)/\x_0 < za/\nth Ty.str l x_0=s))/\((s == nth Ty.str l x_0)=false->((aM (↑x_0:Int))->((aM (1:Int))->(aM ((↑x_0:Int) + (1:Int)))/\(∃(x':Nat),(x'<=za/\∀(j:Nat),j < x'->nth Ty.str l j≠s)/\za - x' < za - x_0/\((↑x_0:Int) + (1:Int)=(↑x':Int)/\True)/\True))))))/\((decide ((↑x_0:Int) < (↑za:Int)))=false->(zb=zb/\zc\/(0:Int)<=zb/\Int.toNat zb < za/\nth Ty.str l (Int.toNat zb)=s))))))) (by kernel_rfl) ?_
 dsimp -iota -proj -eta only
 exact fun h0=>⟨(⟨0,⟨by omega,fun j hj=>by omega⟩,⟨rfl,trivial⟩,trivial⟩),fun x_0 q_0=>iL (fun h1=>⟨(by omega),iQ (fun h2=>(by simp_all)) (fun h2 h3 h4=>⟨(by simp only [aM,aL] at *;omega),(⟨x_0 + 1,⟨by omega,kj q_0.2 fun e=>(by assumption:¬ _) e.symm⟩,by omega,⟨by omega,trivial⟩,(by trivial)⟩)⟩)⟩) (fun h1=>(.inl ⟨rfl,fun j hj=>q_0.2 j (by omega)⟩))⟩
theorem Tryz.Ei:bB Tryz.prog Tryz.B.eT Tryz.X 112 [.slice .str, .str] [.int .i64] (fun _=>True) (fun x y=>(y = -1/\∀j,j < x.1.length->nth .str x.1 j≠x.2)\/(0<=y/\y.toNat < x.1.length/\nth .str x.1 y.toNat=x.2)):=
 bO (X:=Tryz.X) (bY Tryz.bZ) Tryz.func112 (by kernel_rfl) (fun x=>vT x.1 x.2) (fun x hw hp=>Eh x.1 x.2 hw)
noncomputable def Tryz.vU:List (FuncId × (Bool × bA)):=[(112,(true,eY [.slice .str, .str] [.int .i64] (fun _=>True) (fun x y=>(y = -1/\∀j,j < x.1.length->nth .str x.1 j≠x.2)\/(0<=y/\y.toNat < x.1.length/\nth .str x.1 y.toNat=x.2))))]
theorem Tryz.Aj:bM Tryz.prog Tryz.B Tryz.X Tryz.vU:=
 aX (cU Tryz.Ei) (bY Tryz.bZ)
theorem yJ (l:List (List UInt8)) (s:List UInt8) (hw:dN [.slice .str, .str] (l,s)):(cg Tryz.B Tryz.vU Tryz.f78 [] [.slice .str, .str] [.bool] (fun x y=>y=(fun x=>x.1.any (· == x.2)) x) (l,s)).holds:=by
 refine holds_of (p:=
  (True)/\(∀x_0:Int,(((x_0=(-1:Int)/\∀(j:Nat),j < List.length l->nth Ty.str l j≠s)\/(0:Int)<=x_0/\Int.toNat x_0 < List.length l/\nth Ty.str l (Int.toNat x_0)=s)->(decide (x_0>=(0:Int))=List.any l fun (x:List UInt8)=>x == s)))) (by kernel_rfl) ?_
 exact ⟨trivial,fun x_0 q_0=>(contains_of q_0)⟩
theorem Tryz.qj:bB Tryz.prog Tryz.B.eT Tryz.X 78 [.slice .str, .str] [.bool] (fun _=>True) (fun x y=>y=(fun x=>x.1.any (· == x.2)) x):=
 bO (X:=Tryz.X) Tryz.Aj Tryz.func78 (by kernel_rfl) (fun _=>[]) (fun x hw hp=>yJ x.1 x.2 hw)
noncomputable def Tryz.vV:List (FuncId × (Bool × bA)):=[(127,(false,eR Tryz.B [] Tryz.f127 []))]
theorem Tryz.Ak:bM Tryz.prog Tryz.B Tryz.X Tryz.vV:=
 aX (eJ (bY Tryz.bZ) Tryz.func127 (by kernel_rfl) []) (bY Tryz.bZ)
def vW:cp:=[(0,fun st=>{X:=Nat,inv:=fun i=>i<=(bS (.slice aI) st 0).length/\∀j,j < i->(nth aI (bS (.slice aI) st 0) j).1≠(HT aI st (Gu st 1 0)).1,bC:=fun i=>(bS (.slice aI) st 0).length - i,bk:=fun i=>[(8,sI i)],bn:=[0,1,7]})]
noncomputable def Tryz.Bi:List (FuncId × (Bool × bA)):=[(143,(false,eR Tryz.B Tryz.vV Tryz.f143 vW))]
theorem Tryz.Ej:bM Tryz.prog Tryz.B Tryz.X Tryz.Bi:=
 aX (eJ Tryz.Ak Tryz.func143 (by kernel_rfl) vW) (bY Tryz.bZ)
noncomputable def Tryz.Bj:List (FuncId × (Bool × bA)):=[(76,(true,aR [.str] [.err] (fun _=>True) (fun s=>bd (aK s)))),
 (99,(true,aR [.str] [.int .i64] (fun _=>True) (fun s=>aK s))),
 (21,(true,aR [.err] [.int .i64] (fun _=>True) (fun e=>dA e))),
 (126,(false,eR Tryz.B Tryz.Bi Tryz.f126 []))]
theorem Tryz.Ek:bM Tryz.prog Tryz.B Tryz.X Tryz.Bj:=
 aX (aE Tryz.fe) (aX (aE Tryz.c8) (aX (aE Tryz.er) (aX (eJ Tryz.Ej Tryz.func126 (by kernel_rfl) []) (bY Tryz.bZ))))
def tU (o:D aA):cp:=[(0,fun st=>{X:=Nat,inv:=fun i=>eU o.2.1.length o.2.2.1 i,bC:=fun i=>o.2.2.1.length - i,bk:=fun i=>[(9,sI i)],bn:=[1,7,8]})]
theorem Al (o:D aA) (hw:dN [aA] o):(cg Tryz.B Tryz.Bj Tryz.f107 (tU o) [aA] [.err] (fun x y=>y=(fun o=>bd (da o.2.1.length [] o.2.2.1)) x) o).holds:=by
 refine holds_of (p:=
  let za:=o.2.2.1
  let zb:=List.length za
  let zc:=List.length o.2.1
  let zd:=fun (x_0:Nat)=>(↑x_0:Int)
  let ze:=fun (x_0:Nat)=>(0:Int)<=zd x_0
  let zf:=fun (x_0:Nat)=>(nth aI za x_0).1
  let zg:=bd (da zc (@List.nil (List UInt8 × Int × Bool × Unit)) za)
  let zh:=fun (x_0:Nat)=>(nth aI za x_0).2.1
  let zi:=aY.no (1:Int)=zg
  let zj:=fun (x_0:Nat)=>List.drop (0:Nat) (List.take x_0 za)
  let zk:=fun (x_0:Nat)=>List.length (zj x_0)
  let zl:=aY.no (3:Int)=zg
  let zm:=(o.1=o.1/\o.2.1=o.2.1/\za=za/\o.2.2.2.1=o.2.2.2.1/\True)/\True
  let zn:=fun (x_0:Nat)=>((aM (zd x_0))->((aM (1:Int))->(aM (zd x_0 + (1:Int)))/\(∃(x':Nat),eU zc za x'/\zb - x' < zb - x_0/\(zd x_0 + (1:Int)=(↑x':Int)/\True)/\zm)))
  ((zb<=aL)->(∃(x:Nat),eU zc za x/\((0:Int)=(↑x:Int)/\True)/\True)/\(∀x_0:Nat,((eU zc za x_0)->(((decide (zd x_0 < (↑zb:Int)))=true->(ze x_0/\zd x_0 < (↑zb:Int))/\(True)/\(((!aY.isNil (bd (aK (zf x_0))))=true->(bd (aK (zf x_0))=zg))/\((!aY.isNil (bd (aK (zf x_0))))=false->(((decide (zh x_0 < (0:Int)))=true->(zi))/\((decide (zh x_0 < (0:Int)))=false->((zc<=aL)->(((decide (zh x_0>=(↑zc:Int)))=true->(zi))/\((decide (zh x_0>=(↑zc:Int)))=false->((0:Int)<=(0:Int)/\ze x_0/\zd x_0<=(↑zb:Int))/\((zk x_0<=aL)->(∃(x:Nat),(x<=zk x_0/\∀(j:Nat),j < x->(nth aI (zj x_0) j).1≠zf x_0)/\((0:Int)=(↑x:Int)/\True)/\True)/\(∀x_1:Nat,((x_1<=zk x_0/\∀(j:Nat),j < x_1->(nth aI (zj x_0) j).1≠zf x_0)->(((decide (zd x_1 < (↑(zk x_0):Int)))=true->(ze x_1/\zd x_1 < (↑(zk x_0):Int))/\((((nth aI (zj x_0) x_1).1 == zf x_0)=true->(((decide (zd x_1>=(0:Int)))=true->(zl))/\((decide (zd x_1>=(0:Int)))=false->(zn x_0))))/\(((nth aI (zj x_0) x_1).1 == zf x_0)=false->((aM (zd x_1))->((aM (1:Int))->(aM (zd x_1 + (1:Int)))/\(∃(x':Nat),(x'<=zk x_0/\∀(j:Nat),j < x'->(nth aI (zj x_0) j).1≠zf x_0)/\zk x_0 - x' < zk x_0 - x_1/\(zd x_1 + (1:Int)=(↑x':Int)/\True)/\(zf x_0=zf x_0/\zh x_0=zh x_0/\(nth aI za x_0).2.2.1=(nth aI za x_0).2.2.1/\True)/\zm))))))/\((decide (zd x_1 < (↑(zk x_0):Int)))=false->(((decide ((-1:Int)>=(0:Int)))=true->(zl))/\((decide ((-1:Int)>=(0:Int)))=false->(zn x_0))))))))))))))))/\((decide (zd x_0 < (↑zb:Int)))=false->(aY.nil=zg))))))) (by kernel_rfl) ?_
 dsimp -iota -proj -eta only
 refine fun h0=>⟨(⟨0, .zero _ _,⟨rfl,trivial⟩,trivial⟩),fun x_0 q_0=>iL (fun h1=>⟨?a,trivial,iB (fun h2=>(by rw [q_0.fault (by omega) (kE (dJ _) h2)])) (fun h2=>iL (fun h3=>(by rw [q_0.out (by omega) (jU h2) (.inl (by omega))];rfl)) (fun h3 h4=>iE (fun h5=>(by rw [q_0.out (by omega) (jU h2) (.inr (by omega))];rfl)) (fun h5=>⟨?b,fun h6=>⟨(⟨0,⟨by omega,fun j hj=>by omega⟩,⟨rfl,trivial⟩,trivial⟩),fun x_1 q_1=>iL (fun h7=>⟨?c,iQ (fun h8=>⟨fun h9=>(by rw [vB q_0.le] at h7;rw [vA (i:=x_0) (j:=x_1) (by omega)] at h8;rw [q_0.dup (by omega) (jU h2) (fun h=>h.elim (fun h=>absurd h (Int.not_lt.2 h3)) (fun h=>absurd h (Int.not_le.2 h5))) (xX (t:=aI) (j:=x_1) (by omega) q_0.le (by simpa using h8))];rfl),fun h9=>absurd (show true=false from h9) (by decide)⟩) (fun h8 h9 h10=>⟨?d,(⟨x_1 + 1,⟨by omega,kj q_1.2 (by assumption)⟩,by omega,⟨by omega,trivial⟩,(by trivial)⟩)⟩)⟩) (fun h7=>⟨fun h8=>absurd (show false=true from h8) (by decide),fun h8 h9 h10=>⟨?e,(by have hx:=vB q_0.le;exact ⟨x_0 + 1,q_0.next (by omega) (jU h2) (fun h=>h.elim (fun h=>absurd h (Int.not_lt.2 h3)) (fun h=>absurd h (Int.not_le.2 h5))) (vp (t:=aI) fun j hj=>by have:=q_1.2 j (by omega);rw [vA hj] at this;simpa using this),by omega,⟨by omega,trivial⟩,(by trivial)⟩)⟩⟩)⟩⟩)))⟩) (fun h1=>(by rw [q_0.done (by omega)];rfl))⟩
 case a|b|c=>omega
 case d|e=>simp only [aM,aL] at *;omega
theorem Tryz.Am:bB Tryz.prog Tryz.B.eT Tryz.X 107 [aA] [.err] (fun _=>True) (fun x y=>y=(fun o=>bd (da o.2.1.length [] o.2.2.1)) x):=
 bO (X:=Tryz.X) Tryz.Ek Tryz.func107 (by kernel_rfl) (fun x=>tU x) (fun x hw hp=>Al x hw)
noncomputable def Tryz.Bk:List (FuncId × (Bool × bA)):=[(76,(true,aR [.str] [.err] (fun _=>True) (fun s=>bd (aK s)))),
 (99,(true,aR [.str] [.int .i64] (fun _=>True) (fun s=>aK s))),
 (21,(true,aR [.err] [.int .i64] (fun _=>True) (fun e=>dA e))),
 (106,(true,aR [.int .i64] [.bool] (fun _=>True) (fun n=>dZ n)))]
theorem Tryz.El:bM Tryz.prog Tryz.B Tryz.X Tryz.Bk:=
 aX (aE Tryz.fe) (aX (aE Tryz.c8) (aX (aE Tryz.er) (aX (aE Tryz.yI) (bY Tryz.bZ))))
def Bl (o:D aA):cp:=[(0,fun st=>{X:=Nat,inv:=fun i=>gP o.2.1.length o.2.2.2.1 i,bC:=fun i=>o.2.2.2.1.length - i,bk:=fun i=>[(9,sI i)],bn:=[1,7,8]})]
theorem F5 (o:D aA) (hw:dN [aA] o):(cg Tryz.B Tryz.Bk Tryz.f108 (Bl o) [aA] [.err] (fun x y=>y=(fun o=>bd (en o.2.1.length none o.2.2.2.1)) x) o).holds:=by
 refine holds_of (p:=
  let za:=o.2.2.2.1
  let zb:=List.length za
  let zc:=List.length o.2.1
  let zd:=fun (x_0:Nat)=>(↑x_0:Int)
  let ze:=fun (x_0:Nat)=>(nth aH za x_0).1
  let zf:=bd (en zc none za)
  let zg:=aY.no (1:Int)=zf
  let zh:=fun (x_0:Nat)=>(nth aH za x_0).2.1
  let zi:=aY.no (3:Int)=zf
  let zj:=fun (x_0:Nat)=>zd x_0 - (1:Int)
  let zk:=fun (x_0:Nat)=>((aM (zd x_0))->((aM (1:Int))->(aM (zd x_0 + (1:Int)))/\(∃(x':Nat),gP zc za x'/\zb - x' < zb - x_0/\(zd x_0 + (1:Int)=(↑x':Int)/\True)/\(o.1=o.1/\o.2.1=o.2.1/\o.2.2.1=o.2.2.1/\za=za/\True)/\True)))
  let zl:=fun (x_0:Nat)=>bd (aK (nth aH za x_0).2.2.2.1)
  let zm:=fun (x_0:Nat)=>(((zh x_0 == (1:Int))=true->(((!(nth aH za x_0).2.2.2.1 == @List.nil UInt8)=true->(zi))/\((!(nth aH za x_0).2.2.2.1 == @List.nil UInt8)=false->((((nth aH za x_0).2.2.2.2.1)=true->(zi))/\(((nth aH za x_0).2.2.2.2.1)=false->(zk x_0))))))/\((zh x_0 == (1:Int))=false->(True)/\(((!aY.isNil (zl x_0))=true->(zl x_0=zf))/\((!aY.isNil (zl x_0))=false->(zk x_0)))))
  ((zb<=aL)->(∃(x:Nat),gP zc za x/\((0:Int)=(↑x:Int)/\True)/\True)/\(∀x_0:Nat,((gP zc za x_0)->(((decide (zd x_0 < (↑zb:Int)))=true->((0:Int)<=zd x_0/\zd x_0 < (↑zb:Int))/\(((decide (ze x_0 < (0:Int)))=true->(zg))/\((decide (ze x_0 < (0:Int)))=false->((zc<=aL)->(((decide (ze x_0>=(↑zc:Int)))=true->(zg))/\((decide (ze x_0>=(↑zc:Int)))=false->(True)/\(((!dZ (nth aH za x_0).2.2.1)=true->(zg))/\((!dZ (nth aH za x_0).2.2.1)=false->(((decide (zh x_0 < (1:Int)))=true->(zi))/\((decide (zh x_0 < (1:Int)))=false->(((decide (zh x_0 > (3:Int)))=true->(zi))/\((decide (zh x_0 > (3:Int)))=false->(((decide (zd x_0 > (0:Int)))=true->((aM (zd x_0))->((aM (1:Int))->(aM (zj x_0))/\((0:Int)<=zj x_0/\zj x_0 < (↑zb:Int))/\(((decide ((nth aH za (Int.toNat (zj x_0))).1>=ze x_0))=true->(zi))/\((decide ((nth aH za (Int.toNat (zj x_0))).1>=ze x_0))=false->(zm x_0))))))/\((decide (zd x_0 > (0:Int)))=false->(zm x_0)))))))))))))))/\((decide (zd x_0 < (↑zb:Int)))=false->(aY.nil=zf))))))) (by kernel_rfl) ?_
 dsimp -iota -proj -eta only
 refine fun h0=>⟨(⟨0, .zero _ _,⟨rfl,trivial⟩,trivial⟩),fun x_0 q_0=>iL (fun h1=>⟨?a,iL (fun h2 => ?b) (fun h2 h3=>iE (fun h4 => ?c) (fun h4=>⟨trivial,iB (fun h5 => ?d) (fun h5=>iL (fun h6 => ?e) (fun h6=>iL (fun h7 => ?f) (fun h7=>iL (fun h8 h9 h10=>⟨?g,?h,iE (fun h11 => ?i) (fun h11=>iQ (fun h12=>⟨fun h13 => ?j,fun h13=>⟨fun h14 => ?k,fun h14 h15 h16=>⟨?l,?m⟩⟩⟩) (fun h12=>⟨trivial,iB (fun h13=>(by rw [q_0.fault (by omega) (f:=aK (nth aH o.2.2.2.1 x_0).2.2.2.1) (by unfold ga iA gy;grind) (by have:=kE (dJ _) h13;omega)])) (fun h13 h14 h15=>⟨?n,(by have:=bf.1 h13;exact ⟨x_0 + 1,q_0.next (by omega) (by unfold ga iA gy;grind),by omega,⟨by omega,trivial⟩,(by trivial)⟩)⟩)⟩))⟩) (fun h8=>iQ (fun h9=>⟨fun h10 => ?o,fun h10=>⟨fun h11 => ?p,fun h11 h12 h13=>⟨?q,?r⟩⟩⟩) (fun h9=>⟨trivial,iB (fun h10=>(by rw [q_0.fault (by omega) (f:=aK (nth aH o.2.2.2.1 x_0).2.2.2.1) (by unfold ga iA gy;grind) (by have:=kE (dJ _) h10;omega)])) (fun h10 h11 h12=>⟨?s,(by have:=bf.1 h10;exact ⟨x_0 + 1,q_0.next (by omega) (by unfold ga iA gy;grind),by omega,⟨by omega,trivial⟩,(by trivial)⟩)⟩)⟩)))))⟩))⟩) (fun h1=>(by rw [q_0.done (by omega)];rfl))⟩
 case a|h=>omega
 case b|c|d=>rw [q_0.fault (by omega) (f:=1) (by unfold ga;grind) (by decide)];rfl
 case e|f|i=>rw [q_0.fault (by omega) (f:=3) (by unfold ga iA gy;grind) (by decide)];rfl
 case g|n|s=>simp only [aM,aL] at *;omega
 case j|k=>
  simp only [bl,reduceCtorEq] at h13
  rw [q_0.fault (by omega) (f:=3) (by unfold ga iA gy;grind) (by decide)];rfl
 case l=>
  simp only [bl,reduceCtorEq] at h13
  simp only [aM,aL] at *;omega
 case m=>
  simp only [bl,reduceCtorEq] at h13
  exact ⟨x_0 + 1,q_0.next (by omega) (by unfold ga iA gy;grind),by omega,⟨by omega,trivial⟩,(by trivial)⟩
 case o|p=>
  simp only [bl,reduceCtorEq] at h10
  rw [q_0.fault (by omega) (f:=3) (by unfold ga iA gy;grind) (by decide)];rfl
 case q=>
  simp only [bl,reduceCtorEq] at h10
  simp only [aM,aL] at *;omega
 case r=>
  simp only [bl,reduceCtorEq] at h10
  exact ⟨x_0 + 1,q_0.next (by omega) (by unfold ga iA gy;grind),by omega,⟨by omega,trivial⟩,(by trivial)⟩
theorem Tryz.F6:bB Tryz.prog Tryz.B.eT Tryz.X 108 [aA] [.err] (fun _=>True) (fun x y=>y=(fun o=>bd (en o.2.1.length none o.2.2.2.1)) x):=
 bO (X:=Tryz.X) Tryz.El Tryz.func108 (by kernel_rfl) (fun x=>Bl x) (fun x hw hp=>F5 x hw)
noncomputable def Tryz.vX:List (FuncId × (Bool × bA)):=[(76,(true,aR [.str] [.err] (fun _=>True) (fun s=>bd (aK s)))),
 (99,(true,aR [.str] [.int .i64] (fun _=>True) (fun s=>aK s))),
 (21,(true,aR [.err] [.int .i64] (fun _=>True) (fun e=>dA e))),
 (78,(true,aR [.slice .str, .str] [.bool] (fun _=>True) (fun x=>x.1.any (· == x.2)))),
 (106,(true,aR [.int .i64] [.bool] (fun _=>True) (fun n=>dZ n))),
 (107,(true,aR [aA] [.err] (fun _=>True) (fun o=>bd (da o.2.1.length [] o.2.2.1)))),
 (108,(true,aR [aA] [.err] (fun _=>True) (fun o=>bd (en o.2.1.length none o.2.2.2.1))))]
theorem Tryz.An:bM Tryz.prog Tryz.B Tryz.X Tryz.vX:=
 aX (aE Tryz.fe) (aX (aE Tryz.c8) (aX (aE Tryz.er) (aX (aE Tryz.qj) (aX (aE Tryz.yI) (aX (aE Tryz.Am) (aX (aE Tryz.F6) (bY Tryz.bZ)))))))
def vY (o:D aA):cp:=[
 (0,fun st=>{X:=Nat,inv:=fun i=>eB o.1 i,bC:=fun i=>o.1.length - i,bk:=fun i=>[(41,sI i)],bn:=[1,39,40]}),
 (2,fun st=>{X:=Nat,inv:=fun i=>fr o.2.1 i,bC:=fun i=>o.2.1.length - i,bk:=fun i=>[(62,sI i)],bn:=[1,60,61]})]
theorem Em (o:D aA) (hw:dN [aA] o):(cg Tryz.B Tryz.vX Tryz.f70 (vY o) [aA] [.err] (fun x y=>y=(fun o=>bd (bF o)) x) o).holds:=by
 refine holds_of (p:=
  let za:=List.length o.1
  let zb:=(↑za:Int)
  let zc:=bd (bF o)
  let zd:=aY.no (2:Int)=zc
  let ze:=o.2.1
  let zf:=List.length ze
  let zg:=zf<=aL
  let zh:=(↑zf:Int)
  let zi:=o.2.2.1
  let zj:=o.2.2.2.1
  let zk:=fun (x_0:Nat)=>(↑x_0:Int)
  let zl:=fun (x_0:Nat)=>(0:Int)<=zk x_0
  let zm:=fun (x_0:Nat)=>bd (aK (nth Ty.str o.1 x_0))
  let zn:=(o.1=o.1/\ze=ze/\zi=zi/\zj=zj/\True)/\True
  let zo:=bd (da zf (@List.nil (List UInt8 × Int × Bool × Unit)) zi)
  ((za<=aL)->(((decide (zb > (4:Int)))=true->(zd))/\((decide (zb > (4:Int)))=false->((zg)->(((decide (zh < (1:Int)))=true->(zd))/\((decide (zh < (1:Int)))=false->((zg)->(((decide (zh > (40:Int)))=true->(zd))/\((decide (zh > (40:Int)))=false->((List.length zi<=aL)->(((decide ((↑(List.length zi):Int) > (8:Int)))=true->(zd))/\((decide ((↑(List.length zi):Int) > (8:Int)))=false->((List.length zj<=aL)->(((decide ((↑(List.length zj):Int) > (6:Int)))=true->(zd))/\((decide ((↑(List.length zj):Int) > (6:Int)))=false->((za<=aL)->(∃(x:Nat),eB o.1 x/\((0:Int)=(↑x:Int)/\True)/\True)/\(∀x_0:Nat,((eB o.1 x_0)->(((decide (zk x_0 < zb))=true->(zl x_0/\zk x_0 < zb)/\(True)/\(((!aY.isNil (zm x_0))=true->(zm x_0=zc))/\((!aY.isNil (zm x_0))=false->((0:Int)<=(0:Int)/\zl x_0/\zk x_0<=zb)/\(True)/\(((List.any (List.drop (0:Nat) (List.take x_0 o.1)) fun (x:List UInt8)=>x == nth Ty.str o.1 x_0)=true->(aY.no (3:Int)=zc))/\((List.any (List.drop (0:Nat) (List.take x_0 o.1)) fun (x:List UInt8)=>x == nth Ty.str o.1 x_0)=false->((aM (zk x_0))->((aM (1:Int))->(aM (zk x_0 + (1:Int)))/\(∃(x':Nat),eB o.1 x'/\za - x' < za - x_0/\(zk x_0 + (1:Int)=(↑x':Int)/\True)/\zn))))))))/\((decide (zk x_0 < zb))=false->((zg)->(∃(x:Nat),fr ze x/\((0:Int)=(↑x:Int)/\True)/\True)/\(∀x_1:Nat,((fr ze x_1)->(((decide (zk x_1 < zh))=true->(zl x_1/\zk x_1 < zh)/\(True)/\(((!dZ (nth (Ty.int IntKind.i64) ze x_1))=true->(aY.no (1:Int)=zc))/\((!dZ (nth (Ty.int IntKind.i64) ze x_1))=false->((aM (zk x_1))->((aM (1:Int))->(aM (zk x_1 + (1:Int)))/\(∃(x':Nat),fr ze x'/\zf - x' < zf - x_1/\(zk x_1 + (1:Int)=(↑x':Int)/\True)/\zn))))))/\((decide (zk x_1 < zh))=false->(True)/\(((!aY.isNil zo)=true->(zo=zc))/\((!aY.isNil zo)=false->(True)/\(bd (en zf none zj)=zc))))))))))))))))))))))))))))) (by kernel_rfl) ?_
 dsimp -iota -proj -eta only
 refine fun h0=>iL (fun h1 => ?a) (fun h1 h2=>iL (fun h3 => ?b) (fun h3 h4=>iL (fun h5 => ?c) (fun h5 h6=>iL (fun h7 => ?d) (fun h7 h8=>iL (fun h9 => ?e) (fun h9 h10=>⟨?f,fun x_0 q_0=>iL (fun h11=>⟨?g,trivial,iB (fun h12=>(by have hf:=kE (dJ _) h12;rw [p3 (by unfold fM;omega) (q_0.fault (by omega) hf) (by omega)])) (fun h12=>⟨?h,trivial,⟨fun h13=>(by rw [List.drop_zero] at h13;rw [p3 (by unfold fM;omega) (q_0.dup (by omega) (jU h12) h13) (by decide)];rfl),fun h13 h14 h15=>⟨?i,(by rw [List.drop_zero] at h13;exact ⟨x_0 + 1,q_0.next (by omega) (jU h12) h13,by omega,⟨by omega,trivial⟩,(by trivial)⟩)⟩⟩⟩)⟩) (fun h11 h12=>⟨?j,fun x_1 q_1=>iL (fun h13=>⟨?k,trivial,iB (fun h14=>(by rw [xY (by unfold fM;omega) (q_0.done (by omega)) (q_1.fault (by omega) h14) (by decide)];rfl)) (fun h14 h15 h16=>⟨?l,(⟨x_1 + 1,q_1.next (by omega) h14,by omega,⟨by omega,trivial⟩,(by trivial)⟩)⟩)⟩) (fun h13=>⟨trivial,iB (fun h14=>(by have hf:=kE (p0 _ _ _) h14;rw [z1 (by unfold fM;omega) (q_0.done (by omega)) (q_1.done (by omega)) rfl (by omega)])) (fun h14=>⟨trivial,(by rw [z6 (by unfold fM;omega) (q_0.done (by omega)) (q_1.done (by omega)) (bf.1 h14) rfl])⟩)⟩)⟩)⟩)))))
 case a|b|c|d|e=>rw [zZ (by unfold fM;omega)];rfl
 case f|j=>exact ⟨0, .zero _,⟨rfl,trivial⟩,trivial⟩
 case g|h|k=>omega
 case i|l=>simp only [aM,aL] at *;omega
theorem Tryz.En:bB Tryz.prog Tryz.B.eT Tryz.X 70 [aA] [.err] (fun _=>True) (fun x y=>y=(fun o=>bd (bF o)) x):=
 bO (X:=Tryz.X) Tryz.An Tryz.func70 (by kernel_rfl) (fun x=>vY x) (fun x hw hp=>Em x hw)
theorem CI (b:Bool) (hw:dN [.bool] b):(cg Tryz.B [] Tryz.f73 [] [.bool] [.str] (fun x y=>y=(fun b=>dj b) x) b).holds:=by
 refine holds_of (p:=
  (((b)=true->([(119:UInt8),101,97,107,32]=dj b))/\((b)=false->(@List.nil UInt8=dj b)))) (by kernel_rfl) ?_
 refine ⟨fun h0 => ?a,fun h0 => ?b⟩
 case a|b=>cases b <;> first | rfl | simp_all
theorem Tryz.CJ:bB Tryz.prog Tryz.B.eT Tryz.X 73 [.bool] [.str] (fun _=>True) (fun x y=>y=(fun b=>dj b) x):=
 bO (X:=Tryz.X) (bY Tryz.bZ) Tryz.func73 (by kernel_rfl) (fun _=>[]) (fun x hw hp=>CI x hw)
end Go.Proofs.YtgokjhhcfemnhacGreatDoor

namespace Go.Proofs.YtgokjhhcfemnhacGreatDoor
open Go.RowKit Go.Vg
theorem Tryz.Iz:(Tryz.prog.info? 144).map (·.size)=some 2:=by kernel_rfl
theorem Tryz.IM:liesAt Tryz.prog Tryz.prog.depth 144 (2 / Tryz.prog.cellsOf 144) 0 144 1=true:=by kernel_rfl
set_option maxHeartbeats 1000000 in
set_option maxRecDepth 100000 in
theorem Tryz.CK (b:Nat) (v:Value) (w:World) (hb:w.heap[b]?=some (.cells #[.pointer (some ⟨b,0,none⟩),v] 144 (0,0))) :
  Calls Tryz.prog 110 #[.pointer (some ⟨b,0,none⟩)] w fun e w'=>e = .returned (.tuple #[])/\w'=w:=by
 obtain ⟨j,hj,_⟩:=Option.map_eq_some_iff.1 Tryz.Iz
 have h0:w.cell? ⟨b,0,none⟩=some (.pointer (some ⟨b,0,none⟩)):=by rw [Lib.cell_of_heap hb];rfl
 go_enter Tryz.func110,Tryz.ntmps110
 go_wp2
 rw [Lib.run_neq_ptr_same w _ Tryz.underlying141 hj]
 go_wp2
 go_end0
 exact ⟨rfl,rfl⟩
set_option maxHeartbeats 1000000 in
set_option maxRecDepth 100000 in
theorem Tryz.Ao (b:Nat) (v:Value) (w:World) (hb:w.heap[b]?=some (.cells #[.pointer none,v] 144 (0,0))) :
  Calls Tryz.prog 110 #[.pointer (some ⟨b,0,none⟩)] w fun e w'=>e = .returned (.tuple #[])/\w'=w.setCell ⟨b,0,none⟩ (.pointer (some ⟨b,0,none⟩)):=by
 obtain ⟨j,hj,hjs⟩:=Option.map_eq_some_iff.1 Tryz.Iz
 have h0:w.cell? ⟨b,0,none⟩=some (.pointer none):=by rw [Lib.cell_of_heap hb];rfl
 have hsh:w.shape? b=some (144,2):=by simp [World.shape?,hb]
 have hfz:w.frozen? ⟨b,0,none⟩=false:=Lib.frozen_of_heap hb 0
 go_enter Tryz.func110,Tryz.ntmps110
 go_wp2
 rw [Lib.run_to_unsafe w ⟨b,0,none⟩ Tryz.underlying141 Tryz.underlying206 hj (by rw [hjs];decide) hsh (Nat.zero_lt_succ 1)]
 simp only [Result.andThen]
 rw [Oper.upon_value]
 go_wp2
 rw [run_callFunc_extern Tryz.func129 (by kernel_rfl) (by kernel_rfl) (by kernel_rfl) (e:=Extern.AbiNoEscape.same) (by kernel_rfl)]
 rw [Lib.run_noEscape]
 simp only [Result.andThen]
 rw [Oper.upon_value]
 go_wp2
 rw [Lib.run_from_unsafe w ⟨b,0,none⟩ Tryz.underlying206 Tryz.underlying141 hj hsh Tryz.IM]
 simp only [Result.andThen]
 rw [Oper.upon_value]
 go_wp2
 go_end0
 exact ⟨rfl,rfl⟩
theorem Tryz.IN:(Tryz.prog.info? 5).map (fun i=>(i.zero,i.size,i.bytes))=some (some (.int .u8 0),1,1):=by kernel_rfl
theorem Tryz.IH:Tryz.prog.cellsOf 5=1:=by kernel_rfl
set_option maxHeartbeats 2000000 in
set_option maxRecDepth 100000 in
theorem Tryz.Eo (b:Nat) (p v:Value) (xs:List Value) (s:ByteArray) (w:World) (hb:w.heap[b]?=some (.cells #[p,v] 144 (0,0))) (hp:p = .pointer none\/p = .pointer (some ⟨b,0,none⟩))
  (hown:w.ownsRow 0 5 1 v xs.length xs) (hne:v.ownBlock≠some b) (hcap:∀a n c,v = .slice (some a) n c->0 < c) (hlen:xs.length + s.size<=140737488355328) :
  Calls Tryz.prog 72 #[.pointer (some ⟨b,0,none⟩), .string s] w fun e w'=>e = .returned (.tuple #[.int .i64 s.size, .nilIface])/\
   ∃v',w'.heap[b]?=some (.cells #[.pointer (some ⟨b,0,none⟩),v'] 144 (0,0))/\w'.ownsRow 0 5 1 v' (xs.length + s.size) (xs++Lib.strCells s)/\v'.ownBlock≠some b/\Kept b v w w'/\
    (∀a n c,v' = .slice (some a) n c->0 < c)/\(∀g,v'.ownBlock=some g->v.ownBlock=some g\/w.heap.size<=g):=by
 obtain ⟨i0,hi,hz0⟩:=Option.map_eq_some_iff.1 Tryz.IN
 simp only [Prod.mk.injEq] at hz0
 obtain ⟨hz0,hz1,hz2⟩:=hz0
 have hchk:Calls Tryz.prog 110 #[.pointer (some ⟨b,0,none⟩)] w fun e w1=>e = .returned (.tuple #[])/\w1.heap[b]?=some (.cells #[.pointer (some ⟨b,0,none⟩),v] 144 (0,0))/\
   w1.os=w.os/\w1.output=w.output/\w1.heap.size=w.heap.size/\∀k,k≠b->w1.heap[k]?=w.heap[k]?:=by
  rcases hp with rfl | rfl
  ·refine (Tryz.Ao b v w hb).mono ?_
   rintro e w1 ⟨rfl,rfl⟩
   exact ⟨rfl,(HU hb).trans (by simp),rfl,rfl,Go.Deep.nblk_setCell _ _ _,fun k hk=>Go.Deep.blk_setCell_other _ _ _ _ hk⟩
  ·refine (Tryz.CK b v w hb).mono ?_
   rintro e w1 ⟨rfl,rfl⟩
   exact ⟨rfl,hb,rfl,rfl,rfl,fun _ _=>rfl⟩
 go_enter Tryz.func72,Tryz.ntmps72
 go_wp2_with (go_at_call 110;refine hchk.mono ?_)
 rintro e w1 ⟨rfl,hb1,ho1,hu1,hs1,hk1⟩
 have hown1:w1.ownsRow 0 5 1 v xs.length xs:=by
  refine ⟨hown.1,?_⟩
  rcases hown.2 with h | ⟨g,cap,cur,h1,h2,h3,h4⟩
  ·exact .inl h
  ·refine .inr ⟨g,cap,cur,h1,h2,?_,h4⟩
   rw [hk1 g (fun e=>hne (by rw [h1,e];rfl))];exact h3
 have c0:w1.cell? ⟨b,0,none⟩=some (.pointer (some ⟨b,0,none⟩)):=by rw [Lib.cell_of_heap hb1];rfl
 have c1:w1.cell? ⟨b,1,none⟩=some v:=by rw [Lib.cell_of_heap hb1];rfl
 obtain ⟨v',w2,hrun,hown',hgrow,hcap',hnew⟩:=G1 (t:=142) (u:=9) (ty:=142) Tryz.underlying142 Tryz.underlying9 hi hz0 hz1 hz2 hown1 hcap s hlen
 have hlt:b < w1.heap.size:=(Array.getElem?_eq_some_iff.1 hb1).1
 have hb2:w2.heap[b]?=some (.cells #[.pointer (some ⟨b,0,none⟩),v] 144 (0,0)):=by rw [hgrow.block b hlt (fun e=>hne e.symm)];exact hb1
 have d1:w2.cell? ⟨b,1,none⟩=some v:=by rw [Lib.cell_of_heap hb2];rfl
 have f1:w2.frozen? ⟨b,1,none⟩=false:=Lib.frozen_of_heap hb2 1
 have hne':v'.ownBlock≠some b:=by
  intro e
  rcases hown'.2 with ⟨h,_⟩ | ⟨g',cap,cur,h,_,h3,_⟩
  ·rw [h] at e;cases e
  ·rw [h] at e
   cases e
   rw [hb2] at h3
   cases h3
 have hv1:∃a n c,v' = .slice a n c:=by
  rcases hown'.2 with ⟨h,_⟩ | ⟨g',cap,cur,h,_⟩ <;> exact ⟨_,_,_,h⟩
 obtain ⟨va,vn,vc,rfl⟩:=hv1
 rw [hs1] at hnew
 go_wp2_with (at_builtin;refine qM rfl _ _ 142 9 rfl rfl rfl hrun ?_)
 go_ret2
 refine ⟨rfl, .slice va vn vc,(HU hb2).trans (by simp),⟨hown'.1,?_⟩,hne',⟨hgrow.os.trans ho1,hgrow.output.trans hu1,?_,fun k h1 h2 h3 => ?_⟩,hcap',hnew⟩
 ·rcases hown'.2 with h | ⟨g,cap,cur,h1,h2,h3,h4⟩
  ·exact .inl h
  ·refine .inr ⟨g,cap,cur,h1,h2,?_,h4⟩
   rw [Go.Deep.blk_setCell_other _ _ _ _ (fun e=>hne' (by rw [h1,show g=b from e];rfl))]
   exact h3
 ·rw [Go.Deep.nblk_setCell];have:=hgrow.size;omega
 ·rw [Go.Deep.blk_setCell_other _ _ _ _ (show k≠b from h2),hgrow.block k (by omega) (fun e=>h3 e.symm),hk1 k h2]
set_option maxHeartbeats 2000000 in
set_option maxRecDepth 100000 in
theorem Tryz.CL (b:Nat) (p v:Value) (l:List UInt8) (w:World) (hb:w.heap[b]?=some (.cells #[p,v] 144 (0,0))) (hown:w.ownsRow 0 5 1 v l.length (l.map fun c=>Value.int .u8 c.toNat)) (hcap:∀a n c,v = .slice (some a) n c->0 < c) :
  Calls Tryz.prog 75 #[.pointer (some ⟨b,0,none⟩)] w fun e w'=>e = .returned (.string ⟨l.toArray⟩)/\BZ v w w':=by
 have c1:w.drew.cell? ⟨b,1,none⟩=some v:=by
  have:w.drew.heap[b]?=some (.cells #[p,v] 144 (0,0)):=hb
  rw [Lib.cell_of_heap this];rfl
 have mixed:Tryz.prog.follows .mixedOrders=true:=by kernel_rfl
 by_cases h0:l = []
 ·subst h0
  obtain ⟨q,n,c,rfl,hn,hSD⟩:∃q n c,v = .slice q n c/\n=0/\(Builtin.unsafeSliceData_ #[142] 188 #[v]).run Tryz.prog w.drew = .ok (.pointer q) w.drew:=by
   rcases hown.2 with ⟨rfl,_⟩ | ⟨g,cap,cur,rfl,_⟩
   ·exact ⟨none,0,0,rfl,rfl,Lib.run_unsafeSliceData_nil _ _ _ _ _⟩
   ·exact ⟨_,_,_,rfl,rfl,Lib.run_unsafeSliceData_row _ _ _ _ _ _ (by have:=hcap _ _ _ rfl;omega)⟩
  subst hn
  have hUS:(Builtin.unsafeString_ #[188,3] 9 #[.pointer q, .int .i64 0]).run Tryz.prog w.drew = .ok (.string .empty) w.drew:=Lib.run_unsafeString_none _ _ _ _ q
  go_enter Tryz.func75,Tryz.ntmps75
  go_wp2
  go_region_o
  all_goals (go_wp2;go_ret;exact ⟨rfl,rfl,rfl,rfl,fun _ _=>rfl⟩)
 ·have hl0:l.length≠0:=by simpa using h0
  rcases hown.2 with ⟨_,hz⟩ | ⟨g,cap,cur,rfl,hbg,hg,hnc,hcm,hcs,htake⟩
  ·exact absurd hz hl0
  have hSD:(Builtin.unsafeSliceData_ #[142] 188 #[.slice (some ⟨g,0,none⟩) l.length cap]).run Tryz.prog w.drew = .ok (.pointer (some ⟨g,0,none⟩)) w.drew:=Lib.run_unsafeSliceData_row _ _ _ _ _ _ (by omega)
  have hUS:(Builtin.unsafeString_ #[188,3] 9 #[.pointer (some ⟨g,0,none⟩), .int .i64 l.length]).run Tryz.prog w.drew = .ok (.string ⟨l.toArray⟩) (w.drew.freeze ⟨g,0,none⟩ l.length):=by
   refine Lib.run_unsafeString_row w.drew 188 3 9 5 Tryz.underlying188 Tryz.IH g cur.size (by have hg':w.drew.heap[g]?=some (.cells cur 5 (0,0)):=hg;simp [World.shape?,hg']) l h0 (by omega) (by unfold maxLen at hcm;omega) ?_
   intro j x hx
   exact hown.cells (g:=g) rfl j (.int .u8 x.toNat) (by simp [hx])
  go_enter Tryz.func75,Tryz.ntmps75
  go_wp2
  go_region_o
  all_goals (go_wp2;go_ret;exact ⟨rfl,zS⟩)
theorem Tryz.Hm (b:Nat) (p _q:Value) (a:Option Addr) (n c:Nat) (w:World) (hb:w.heap[b]?=some (.cells #[p, .slice a n c] 144 (0,0))) :
  Calls Tryz.prog 74 #[.pointer (some ⟨b,0,none⟩)] w fun r w'=>r = .returned (.int .i64 n)/\w'=w:=by
 have c1:w.cell? ⟨b,1,none⟩=some (.slice a n c):=by rw [Lib.cell_of_heap hb];rfl
 go_enter Tryz.func74,Tryz.ntmps74
 go_wp2
 go_ret
 exact ⟨rfl,rfl⟩
theorem Tryz.Ap:cP Tryz.prog Tryz.B.eT Tryz.X 72 false (oy 144 5):=
 tz ⟨Tryz.f72,Tryz.func72,by kernel_rfl,by kernel_rfl⟩ Tryz.Eo
theorem Tryz.yK:cP Tryz.prog Tryz.B.eT Tryz.X 75 false (mn 144 5):=
 rX ⟨Tryz.f75,Tryz.func75,by kernel_rfl,by kernel_rfl⟩ Tryz.CL
theorem Tryz.Ep:cP Tryz.prog Tryz.B.eT Tryz.X 74 true (tx 144 5):=
 wA ⟨Tryz.f74,Tryz.func74,by kernel_rfl,by kernel_rfl⟩ Tryz.Hm
end Go.Proofs.YtgokjhhcfemnhacGreatDoor

namespace Go.Proofs.YtgokjhhcfemnhacGreatDoor
open Go.Vg Go.Mrl
noncomputable def Tryz.yL:List (FuncId × (Bool × bA)):=[(76,(true,aR [.str] [.err] (fun _=>True) (fun s=>bd (aK s)))),
 (99,(true,aR [.str] [.int .i64] (fun _=>True) (fun s=>aK s))),
 (21,(true,aR [.err] [.int .i64] (fun _=>True) (fun e=>dA e))),
 (72,(false,oy 144 5)),
 (75,(false,mn 144 5)),
 (74,(true,tx 144 5)),
 (71,(true,aR [.int .i64] [.str] (fun _=>True) (fun n=>Lib.itoa n))),
 (70,(true,aR [aA] [.err] (fun _=>True) (fun o=>bd (bF o)))),
 (73,(true,aR [.bool] [.str] (fun _=>True) (fun b=>dj b)))]
theorem Tryz.CM:bM Tryz.prog Tryz.B Tryz.X Tryz.yL:=
 aX (aE Tryz.fe) (aX (aE Tryz.c8) (aX (aE Tryz.er) (aX (Tryz.Ap) (aX (Tryz.yK) (aX (Tryz.Ep) (aX (aE Tryz.oQ) (aX (aE Tryz.En) (aX (aE Tryz.CJ) (bY Tryz.bZ)))))))))
def yM (o:D aA):cp:=[
 (0,fun st=>{X:=Nat,inv:=fun i=>i<=o.1.length,bC:=fun i=>o.1.length - i,bk:=fun i=>[(23,sI i)],bn:=[1,2,3,5,6,21,22],aC:=fun i=>[(bI st 5, .ext 2 eW (bK (iS o i),(144:Int),(5:Int),()))],eH:=[bI st 5]}),
 (2,fun st=>{X:=Nat,inv:=fun i=>i<=o.2.1.length,bC:=fun i=>o.2.1.length - i,bk:=fun i=>[(35,sI i)],bn:=[1,2,3,5,6,33,34],aC:=fun i=>[(bI st 5, .ext 2 eW (bK (gA o i),(144:Int),(5:Int),()))],eH:=[bI st 5]}),
 (4,fun st=>{X:=Nat,inv:=fun i=>i<=o.2.2.1.length,bC:=fun i=>o.2.2.1.length - i,bk:=fun i=>[(49,sI i)],bn:=[1,2,3,5,6,47,48],aC:=fun i=>[(bI st 5, .ext 2 eW (bK (gB o i),(144:Int),(5:Int),()))],eH:=[bI st 5]}),
 (6,fun st=>{X:=Nat,inv:=fun i=>i<=o.2.2.2.1.length,bC:=fun i=>o.2.2.2.1.length - i,bk:=fun i=>[(72,sI i)],bn:=[2,3,5,6,70,71],aC:=fun i=>[(bI st 5, .ext 2 eW (bK (dK o i),(144:Int),(5:Int),()))],eH:=[bI st 5]})]
theorem F7 (o:D aA) (hw:dN [aA] o):(cg (kV Tryz.B [41,64,91,85,104,110,123,129]) Tryz.yL Tryz.f28 (yM o) [aA] [.str, .err] (fun x y=>y=(fun o=>eD o) x) o).holds:=by
 refine holds_of (p:=
  let za:=bd (bF o)
  let zb:=eD o
  let zc:=List.length o.1
  let zd:=(↑(144:Nat):Int)
  let ze:=fun (b:UInt8)=>(↑(UInt8.toNat b):Int)
  let zf:=((144:Int),(5:Int),())
  let zg:=fun (x_0:Nat)=>(↑x_0:Int)
  let zh:=fun (x_0:Nat)=>(0:Int)<=zg x_0
  let zi:=[(110:UInt8),101,101,100,32]
  let zj:=[(10:UInt8)]
  let zk:=List.length zj
  let zl:=(144:Int)=zd
  let zm:=(↑(5:Nat):Int)
  let zn:=(5:Int)=zm
  let zo:=fun (x_0:Nat)=>List.map ze (iS o x_0)
  let zp:=fun (x_0:Nat)=>zi++nth Ty.str o.1 x_0++zj
  let zq:=fun (x_0:Nat)=>aM (zg x_0)
  let zr:=aM (1:Int)
  let zs:=fun (x_0:Nat)=>zg x_0 + (1:Int)
  let zt:=fun (x_0:Nat)=>aM (zs x_0)
  let zu:=(zd,zm,())
  let zv:=o.2.1
  let zw:=o.2.2.1
  let zx:=o.2.2.2.1
  let zy:=(o.1=o.1/\zv=zv/\zw=zw/\zx=zx/\True)/\True
  let zz:=List.length zv
  let zaa:=[(119:UInt8),111,114,100,32]
  let zab:=fun (x_1:Nat)=>zaa++Lib.itoa (nth (Ty.int IntKind.i64) zv x_1)
  let zac:=fun (x_1:Nat)=>List.map ze (gA o x_1)
  let zad:=List.length zw
  let zae:=fun (x_2:Nat)=>dj (nth aI zw x_2).2.2.1
  let zaf:=[(115:UInt8),121,109,98,111,108,32]
  let zag:=fun (x_2:Nat)=>zae x_2++zaf++(nth aI zw x_2).1
  let zah:=[(32:UInt8)]
  let zai:=List.length zah
  let zaj:=fun (x_2:Nat)=>Lib.itoa (nth aI zw x_2).2.1
  let zak:=fun (x_2:Nat)=>List.map ze (gB o x_2)
  let zal:=fun (x_2:Nat)=>zag x_2++zah++zaj x_2++zj
  let zam:=List.length zx
  let zan:=[(98:UInt8),97,115,101,32]
  let zao:=fun (x_3:Nat)=>Lib.itoa (nth aH zx x_3).1
  let zap:=fun (x_3:Nat)=>Lib.itoa (nth aH zx x_3).2.2.1
  let zaq:=fun (x_3:Nat)=>zan++zao x_3++zah++zap x_3
  let zar:=fun (x_3:Nat)=>List.map ze (dK o x_3)
  let zas:=fun (x_3:Nat)=>List.length (zar x_3)
  let zat:=fun (x_3:Nat)=>dj (nth aH zx x_3).2.2.2.2.1
  let zau:=[(119:UInt8),104,111,108,101,32]
  let zav:=fun (x_3:Nat)=>zat x_3++zau++zao x_3++zah
  let zaw:=fun (x_3:Nat)=>(nth aH zx x_3).2.2.2.1
  let zax:=fun (x_3:Nat)=>zav x_3++zap x_3++zah++zaw x_3
  let zay:=[(110:UInt8),101,97,114,32]
  let zaz:=fun (x_3:Nat)=>zat x_3++zay++zao x_3++zah
  let zba:=fun (x_3:Nat)=>zaz x_3++zap x_3++zah++zaw x_3
  (True)/\(((!aY.isNil za)=true->(([],za)=zb))/\((!aY.isNil za)=false->((zc<=aL)->(∃(x:Nat),x<=zc/\((0:Int)=(↑x:Int)/\True)/\([],zd,(↑(5:TypeId):Int),())=(List.map ze (iS o x),zf)/\True)/\(∀x_0:Nat,((x_0<=zc)->(((decide (zg x_0 < (↑zc:Int)))=true->(zh x_0/\zg x_0 < (↑zc:Int))/\(List.length zi + List.length (nth Ty.str o.1 x_0)<=aL)/\(List.length (zi++nth Ty.str o.1 x_0) + zk<=aL)/\(zl/\zn/\List.length (zo x_0) + List.length (zp x_0)<=(140737488355328:Nat))/\((zq x_0)->((zr)->(zt x_0)/\(∃(x':Nat),x'<=zc/\zc - x' < zc - x_0/\(zs x_0=(↑x':Int)/\True)/\(zo x_0++List.map ze (zp x_0),zu)=(List.map ze (iS o x'),zf)/\zy))))/\((decide (zg x_0 < (↑zc:Int)))=false->((zz<=aL)->(∃(x:Nat),x<=zz/\((0:Int)=(↑x:Int)/\True)/\(zo x_0,zf)=(List.map ze (gA o x),zf)/\True)/\(∀x_1:Nat,((x_1<=zz)->(((decide (zg x_1 < (↑zz:Int)))=true->(zh x_1/\zg x_1 < (↑zz:Int))/\(True)/\(List.length zaa + List.length (Lib.itoa (nth (Ty.int IntKind.i64) zv x_1))<=aL)/\(List.length (zab x_1) + zk<=aL)/\(zl/\zn/\List.length (zac x_1) + List.length (zab x_1++zj)<=(140737488355328:Nat))/\((zq x_1)->((zr)->(zt x_1)/\(∃(x':Nat),x'<=zz/\zz - x' < zz - x_1/\(zs x_1=(↑x':Int)/\True)/\(zac x_1++List.map ze (zab x_1++zj),zu)=(List.map ze (gA o x'),zf)/\zy))))/\((decide (zg x_1 < (↑zz:Int)))=false->((zad<=aL)->(∃(x:Nat),x<=zad/\((0:Int)=(↑x:Int)/\True)/\(zac x_1,zf)=(List.map ze (gB o x),zf)/\True)/\(∀x_2:Nat,((x_2<=zad)->(((decide (zg x_2 < (↑zad:Int)))=true->(zh x_2/\zg x_2 < (↑zad:Int))/\(True)/\(List.length (zae x_2) + List.length zaf<=aL)/\(List.length (zae x_2++zaf) + List.length (nth aI zw x_2).1<=aL)/\(List.length (zag x_2) + zai<=aL)/\(True)/\(List.length (zag x_2++zah) + List.length (zaj x_2)<=aL)/\(List.length (zag x_2++zah++zaj x_2) + zk<=aL)/\(zl/\zn/\List.length (zak x_2) + List.length (zal x_2)<=(140737488355328:Nat))/\((zq x_2)->((zr)->(zt x_2)/\(∃(x':Nat),x'<=zad/\zad - x' < zad - x_2/\(zs x_2=(↑x':Int)/\True)/\(zak x_2++List.map ze (zal x_2),zu)=(List.map ze (gB o x'),zf)/\zy))))/\((decide (zg x_2 < (↑zad:Int)))=false->((zam<=aL)->(∃(x:Nat),x<=zam/\((0:Int)=(↑x:Int)/\True)/\(zak x_2,zf)=(List.map ze (dK o x),zf)/\True)/\(∀x_3:Nat,((x_3<=zam)->(((decide (zg x_3 < (↑zam:Int)))=true->(zh x_3/\zg x_3 < (↑zam:Int))/\((((nth aH zx x_3).2.1 == (1:Int))=true->(True)/\(List.length zan + List.length (zao x_3)<=aL)/\(List.length (zan++zao x_3) + zai<=aL)/\(True)/\(List.length (zan++zao x_3++zah) + List.length (zap x_3)<=aL)/\(List.length (zaq x_3) + zk<=aL)/\(zl/\zn/\zas x_3 + List.length (zaq x_3++zj)<=(140737488355328:Nat))/\((zq x_3)->((zr)->(zt x_3)/\(∃(x':Nat),x'<=zam/\zam - x' < zam - x_3/\(zs x_3=(↑x':Int)/\True)/\(zar x_3++List.map ze (zaq x_3++zj),zu)=(List.map ze (dK o x'),zf)/\zy))))/\(((nth aH zx x_3).2.1 == (1:Int))=false->((((nth aH zx x_3).2.1 == (2:Int))=true->(True)/\(List.length (zat x_3) + List.length zau<=aL)/\(True)/\(List.length (zat x_3++zau) + List.length (zao x_3)<=aL)/\(List.length (zat x_3++zau++zao x_3) + zai<=aL)/\(True)/\(List.length (zav x_3) + List.length (zap x_3)<=aL)/\(List.length (zav x_3++zap x_3) + zai<=aL)/\(List.length (zav x_3++zap x_3++zah) + List.length (zaw x_3)<=aL)/\(List.length (zax x_3) + zk<=aL)/\(zl/\zn/\zas x_3 + List.length (zax x_3++zj)<=(140737488355328:Nat))/\((zq x_3)->((zr)->(zt x_3)/\(∃(x':Nat),x'<=zam/\zam - x' < zam - x_3/\(zs x_3=(↑x':Int)/\True)/\(zar x_3++List.map ze (zax x_3++zj),zu)=(List.map ze (dK o x'),zf)/\zy))))/\(((nth aH zx x_3).2.1 == (2:Int))=false->(True)/\(List.length (zat x_3) + List.length zay<=aL)/\(True)/\(List.length (zat x_3++zay) + List.length (zao x_3)<=aL)/\(List.length (zat x_3++zay++zao x_3) + zai<=aL)/\(True)/\(List.length (zaz x_3) + List.length (zap x_3)<=aL)/\(List.length (zaz x_3++zap x_3) + zai<=aL)/\(List.length (zaz x_3++zap x_3++zah) + List.length (zaw x_3)<=aL)/\(List.length (zba x_3) + zk<=aL)/\(zl/\zn/\zas x_3 + List.length (zba x_3++zj)<=(140737488355328:Nat))/\((zq x_3)->((zr)->(zt x_3)/\(∃(x':Nat),x'<=zam/\zam - x' < zam - x_3/\(zs x_3=(↑x':Int)/\True)/\(zar x_3++List.map ze (zba x_3++zj),zu)=(List.map ze (dK o x'),zf)/\zy))))))))/\((decide (zg x_3 < (↑zam:Int)))=false->(zl/\zn)/\(((decide ((↑(zas x_3):Int) > (1200:Int)))=true->(([],aY.no (2:Int))=zb))/\((decide ((↑(zas x_3):Int) > (1200:Int)))=false->(zl/\zn)/\((bytesOf (zar x_3),aY.nil)=zb)))))))))))))))))))))))))) (by kernel_rfl) ?_
 dsimp -iota -proj -eta only
 refine ⟨trivial,iB (fun h0=>(by rw [vF (fun e=>by rw [bf.2 e] at h0;cases h0)])) (fun h0 h1=>⟨(⟨0,by omega,⟨rfl,trivial⟩,rfl,trivial⟩),fun x_0 q_0=>iL (fun h2=>⟨?a,?b,?c,?d,fun h3 h4=>⟨?e,(⟨x_0 + 1,by omega,by omega,⟨by omega,trivial⟩,jV (DP (by omega)),(by trivial)⟩)⟩⟩) (fun h2 h3=>⟨(⟨0,by omega,⟨rfl,trivial⟩,sa (by rw [DS,show x_0=o.1.length by omega]),trivial⟩),fun x_1 q_1=>iL (fun h4=>⟨?f,trivial,?g,?h,?i,fun h5 h6=>⟨?j,(⟨x_1 + 1,by omega,by omega,⟨by omega,trivial⟩,jV (DQ (by omega)),(by trivial)⟩)⟩⟩) (fun h4 h5=>⟨(⟨0,by omega,⟨rfl,trivial⟩,sa (by rw [DT,show x_1=o.2.1.length by omega]),trivial⟩),fun x_2 q_2=>iL (fun h6=>⟨?k,trivial,?l,?m,?n,trivial,?o,?p,?q,fun h7 h8=>⟨?r,(⟨x_2 + 1,by omega,by omega,⟨by omega,trivial⟩,jV (DR (by omega)),(by trivial)⟩)⟩⟩) (fun h6 h7=>⟨(⟨0,by omega,⟨rfl,trivial⟩,sa (by rw [DU,show x_2=o.2.2.1.length by omega]),trivial⟩),fun x_3 q_3=>iL (fun h8=>⟨?s,iQ (fun h9=>⟨trivial,?t,?u,trivial,?v,?w,?x,fun h10 h11=>⟨?y,(⟨x_3 + 1,by omega,by omega,⟨by omega,trivial⟩,jV (B9 (by omega) h9),(by trivial)⟩)⟩⟩) (fun h9=>iQ (fun h10=>⟨trivial,?z,trivial,?a0,?a1,trivial,?a2,?a3,?a4,?a5,?a6,fun h11 h12=>⟨?a7,(⟨x_3 + 1,by omega,by omega,⟨by omega,trivial⟩,jV (Ca (by omega) h9 h10),(by trivial)⟩)⟩⟩) (fun h10=>⟨trivial,?a8,trivial,?a9,?aa,trivial,?ab,?ac,?ad,?ae,?af,fun h11 h12=>⟨?ag,(⟨x_3 + 1,by omega,by omega,⟨by omega,trivial⟩,jV (Cb (by omega) h9 h10),(by trivial)⟩)⟩⟩))⟩) (fun h8=>⟨?ah,iL (fun h9=>(by rw [tJ (bf.1 h0) (show x_3=_ by omega) (by simp only [List.length_map] at h9;omega)])) (fun h9=>⟨?ai,(by rw [oH (bf.1 h0) (show x_3=_ by omega) (by simp only [List.length_map] at h9;omega)];exact congrArg (·,aY.nil) (B0 _))⟩)⟩)⟩)⟩)⟩)⟩)⟩
 case a|f|k|s=>omega
 case b|c=>have a:=vD (ie (bf.1 h0)) (i:=x_0) (by omega);simp only [List.length_append,List.length_cons,List.length_nil,List.length_map,aL];omega
 case d|i|q|x|a6|af=>exact ⟨rfl,rfl,by first | (have a:=yd (ie (bf.1 h0)) (i:=x_3) (by omega);simp only [List.length_append,List.length_cons,List.length_nil,List.length_map,aL];omega) | (have a:=yc (ie (bf.1 h0)) (i:=x_2) (by omega);simp only [List.length_append,List.length_cons,List.length_nil,List.length_map,aL];omega) | (have a:=vE (ie (bf.1 h0)) (i:=x_1) (by omega);simp only [List.length_append,List.length_cons,List.length_nil,List.length_map,aL];omega) | (have a:=vD (ie (bf.1 h0)) (i:=x_0) (by omega);simp only [List.length_append,List.length_cons,List.length_nil,List.length_map,aL];omega)⟩
 case e|j|r|y|a7|ag=>simp only [aM,aL] at *;omega
 case g|h=>have a:=vE (ie (bf.1 h0)) (i:=x_1) (by omega);simp only [List.length_append,List.length_cons,List.length_nil,List.length_map,aL];omega
 case l|m|n|o|p=>have a:=yc (ie (bf.1 h0)) (i:=x_2) (by omega);simp only [List.length_append,List.length_cons,List.length_nil,List.length_map,aL];omega
 case t|u|v|w|z|a0|a1|a2|a3|a4|a5|a8|a9|aa|ab|ac|ad|ae=>have a:=yd (ie (bf.1 h0)) (i:=x_3) (by omega);simp only [List.length_append,List.length_cons,List.length_nil,List.length_map,aL];omega
 case ah|ai=>trivial
theorem Tryz.F8:bB Tryz.prog Tryz.B.eT Tryz.X 28 [aA] [.str, .err] (fun _=>True) (fun x y=>y=(fun o=>eD o) x):=
 bO (B:=(kV Tryz.B [41,64,91,85,104,110,123,129])) (X:=Tryz.X) (bM.hint (l:=[41,64,91,85,104,110,123,129]) Tryz.CM) Tryz.func28 (by kernel_rfl) (fun x=>yM x) (fun x hw hp=>F7 x hw)
end Go.Proofs.YtgokjhhcfemnhacGreatDoor

namespace Go.Proofs.YtgokjhhcfemnhacGreatDoor
open Go.Vg Go.Mrl
noncomputable def Tryz.yN:List (FuncId × (Bool × bA)):=[(71,(true,aR [.int .i64] [.str] (fun _=>True) (fun n=>Lib.itoa n))),
 (125,(true,aR [.str] [.int .i64, .err] (fun s=>s.length<=281474976710656) (fun s=>ch s))),
 (130,(true,aR [.str, .str] [.str, .bool] (fun _=>True) (fun x=>(Lib.trimPrefix x.1 x.2,Lib.hasPrefix x.1 x.2)))),
 (103,(true,aR [.str, .str] [.str] (fun _=>True) (fun x=>Lib.trimSuffix x.1 x.2))),
 (102,(true,aR [.str, .str] [.slice .str] (fun x=>x.1.length < 4294967281/\x.2.length=1) (fun x=>parts (Gy x.2) x.1))),
 (28,(true,aR [aA] [.str, .err] (fun _=>True) (fun o=>eD o))),
 (111,(false,bW Tryz.iZ [.obj 0, .d .str, .obj 5] (fun a x=>a.1.length<=1000000/\x.2.1.length<=1000000/\x.2.2.1.length<=1000000/\x.2.2.2.1.length<=1000000/\x.2.2.2.2.1.length<=1000000) Tryz.sx))]
theorem Tryz.CN:bM Tryz.prog Tryz.B Tryz.X Tryz.yN:=
 aX (aE Tryz.oQ) (aX (aE Tryz.su) (aX (aE Tryz.lV) (aX (aE Tryz.kL) (aX (aE Tryz.sw) (aX (aE Tryz.F8) (aX (Tryz.F3) (bY Tryz.bZ)))))))
def yO (s:List UInt8):cp:=[(200000,fun st=>{X:=Nat × D aA × Bool,inv:=fun x=>fu (parts 10 (Lib.trimSuffix s [10])) x.1 x.2.1 x.2.2,bC:=fun x=>List.length (parts 10 (Lib.trimSuffix s [10])) - x.1,bk:=fun x=>[(19,sI x.1)],bn:=[0,2,3,4,5,17,18],aN:=Tryz.iZ,refs:=[(4,0),(5,5)],pd:=fun x=>D3 x.2})]
theorem Er (s:List UInt8) (hw:dN [.str] s):(cg Tryz.B Tryz.yN Tryz.f77 (yO s) [.str] [aA, .err] (fun x y=>y=(fun s=>ig s) x) s).holds:=by
 refine holds_of (p:=
  let za:=([],[],[],[],())
  let zb:=ig s
  let zc:=Lib.trimSuffix s [(10:UInt8)]
  let zd:=parts (10:UInt8) zc
  let ze:=@List.nil (List UInt8) = @List.nil (List UInt8)
  let zf:=@List.nil Int = @List.nil Int
  let zg:=@List.nil (List UInt8 × Int × Bool × Unit) = @List.nil (List UInt8 × Int × Bool × Unit)
  let zh:=@List.nil (Int × Int × Int × List UInt8 × Bool × Unit) = @List.nil (Int × Int × Int × List UInt8 × Bool × Unit)
  let zi:=List UInt8
  let zj:=Nat × (List zi × List Int × List (zi × Int × Bool × Unit) × List (Int × Int × Int × zi × Bool × Unit) × Unit) × Bool
  let zk:=(ze/\zf/\zg/\zh/\True)/\zh/\zg/\zf/\ze/\True
  let zl:=!false
  let zm:=(zl && (zl && (zl && (zl && (zl && true)))))=true
  let zn:=fun (x_0:Nat × (List (List UInt8) × List Int × List (List UInt8 × Int × Bool × Unit) × List (Int × Int × Int × List UInt8 × Bool × Unit) × Unit) × Bool)=>(↑x_0.1:Int) < (↑(List.length zd):Int)
  let zo:=fun (x_0:Nat × (List (List UInt8) × List Int × List (List UInt8 × Int × Bool × Unit) × List (Int × Int × Int × List UInt8 × Bool × Unit) × Unit) × Bool)=>x_0.2.1.2.2.1
  let zp:=fun (x_0:Nat × (List (List UInt8) × List Int × List (List UInt8 × Int × Bool × Unit) × List (Int × Int × Int × List UInt8 × Bool × Unit) × Unit) × Bool)=>x_0.2.1.2.2.2.1
  let zq:=fun (x_0:Nat × (List (List UInt8) × List Int × List (List UInt8 × Int × Bool × Unit) × List (Int × Int × Int × List UInt8 × Bool × Unit) × Unit) × Bool)=>cO (FC ((),x_0.2.1.1,x_0.2.1.2.1,zo x_0,zp x_0,(x_0.2.2,()),())) x_0.2.2 (nth Ty.str zd x_0.1)
  let zr:=fun (x_0:Nat × (List (List UInt8) × List Int × List (List UInt8 × Int × Bool × Unit) × List (Int × Int × Int × List UInt8 × Bool × Unit) × Unit) × Bool)=>(zq x_0).1.2.2.2.1
  let zs:=(za,aY.no (4:Int))=zb
  ((List.length s<=aL)->(((decide ((↑(List.length s):Int) > (1200:Int)))=true->((za,aY.no (2:Int))=zb))/\((decide ((↑(List.length s):Int) > (1200:Int)))=false->(True)/\(List.length zc < (4294967281:Nat)/\List.length [(10:UInt8)]=(1:Nat))/\((List.length zd<=aL)->(((ze/\zf/\zg/\zh/\∃(x':zj),fu zd (Prod.fst x') (Prod.snd x').1 (Prod.snd x').2/\True/\((0:Int)=(↑(Prod.fst x'):Int)/\True)/\zk/\zm/\((),[],[],[],[],(false,()),())=D3 (Prod.snd x')))/\((∀x_0:Nat × (List (List UInt8) × List Int × List (List UInt8 × Int × Bool × Unit) × List (Int × Int × Int × List UInt8 × Bool × Unit) × Unit) × Bool,((fu zd x_0.1 x_0.2.1 x_0.2.2)->(((decide (zn x_0))=true->((0:Int)<=(↑x_0.1:Int)/\zn x_0)/\(x_0.2.1.1=x_0.2.1.1)/\(x_0.2.1.2.1=x_0.2.1.2.1)/\(zo x_0=zo x_0)/\(zp x_0=zp x_0)/\(List.length (nth Ty.str zd x_0.1)<=(1000000:Nat)/\List.length x_0.2.1.1<=(1000000:Nat)/\List.length x_0.2.1.2.1<=(1000000:Nat)/\List.length (zo x_0)<=(1000000:Nat)/\List.length (zp x_0)<=(1000000:Nat))/\((True)->((aM (↑x_0.1:Int))->((aM (1:Int))->(aM ((↑x_0.1:Int) + (1:Int)))/\((zq x_0).1.1=(zq x_0).1.1/\(zq x_0).1.2.1=(zq x_0).1.2.1/\(zq x_0).1.2.2.1=(zq x_0).1.2.2.1/\zr x_0=zr x_0/\∃(x':zj),fu zd (Prod.fst x') (Prod.snd x').1 (Prod.snd x').2/\List.length zd - Prod.fst x' < List.length zd - x_0.1/\((↑x_0.1:Int) + (1:Int)=(↑(Prod.fst x'):Int)/\True)/\zk/\zm/\((),(zq x_0).1.1,(zq x_0).1.2.1,(zq x_0).1.2.2.1,zr x_0,((zq x_0).2,()),())=D3 (Prod.snd x'))))))/\((decide (zn x_0))=false->(True)/\(((x_0.2.2)=true->(zs))/\((x_0.2.2)=false->(((!aY.isNil (eD x_0.2.1).2)=true->(zs))/\((!aY.isNil (eD x_0.2.1).2)=false->(((!(eD x_0.2.1).1 == s)=true->(zs))/\((!(eD x_0.2.1).1 == s)=false->((x_0.2.1,aY.nil)=zb)))))))))))))))))) (by kernel_rfl) ?_
 dsimp -iota -proj -eta only
 refine fun h0=>iL (fun h1=>(Cp (by omega))) (fun h1=>⟨trivial,(by have:=G7 s [10];exact ⟨by omega,rfl⟩),fun h2=>⟨(⟨rfl,rfl,rfl,rfl,(0,bL aA,false),fu.zero _,trivial,⟨rfl,trivial⟩,⟨⟨rfl,rfl,rfl,rfl,trivial⟩,rfl,rfl,rfl,rfl,trivial⟩,rfl,rfl⟩),fun x_0 q_0=>iL (fun h3=>⟨(by omega),rfl,rfl,rfl,rfl,?a,fun h4 h5 h6=>⟨(by simp only [aM,aL] at *;omega),(by exact ⟨rfl,rfl,rfl,rfl,(x_0.1 + 1,cO x_0.2.1 x_0.2.2 (nth .str (parts 10 (Lib.trimSuffix s [10])) x_0.1)),q_0.next (by omega),by simp only;omega,⟨by simp only;omega,trivial⟩,(by trivial),rfl,rfl⟩)⟩⟩) (fun h3=>⟨trivial,⟨fun h4=>(qc q_0 (by omega) (by omega) (.inl h4)),fun h4=>iB (fun h5=>(qc q_0 (by omega) (by omega) (.inr (.inl h5)))) (fun h5=>⟨fun h6 => ?b,fun h6 => ?c⟩)⟩⟩)⟩⟩)
 case a=>
  have hf:=D5 s (by omega);have a0:=q_0.le;have a1:=q_0.l1;have a2:=q_0.l2;have a3:=q_0.l3;have a4:=q_0.l4
  exact ⟨Nat.le_trans (Cq (by omega) _) (by decide),by omega,by omega,by omega,by omega⟩
 case b=>
  simp only [bl,reduceCtorEq] at h6
  exact qc q_0 (by omega) (by omega) (.inr (.inr h6))
 case c=>
  simp only [bl,reduceCtorEq] at h6
  exact FF (by omega) ‹aY.isNil _=true› h6
theorem Tryz.Es:bB Tryz.prog Tryz.B.eT Tryz.X 77 [.str] [aA, .err] (fun _=>True) (fun x y=>y=(fun s=>ig s) x):=
 bO (X:=Tryz.X) Tryz.CN Tryz.func77 (by kernel_rfl) (fun x=>yO x) (fun x hw hp=>Er x hw)
end Go.Proofs.YtgokjhhcfemnhacGreatDoor

namespace Go.Proofs.YtgokjhhcfemnhacGreatDoor
open Go.Vg Go.Mrl
noncomputable def Tryz.Et:List (FuncId × (Bool × bA)):=[(47,(false,bW Tryz.aU [.obj 0, .d .str] (fun _ _=>True) Tryz.mC)),
 (77,(true,aR [.str] [aA, .err] (fun _=>True) (fun s=>ig s))),
 (78,(true,aR [.slice .str, .str] [.bool] (fun _=>True) (fun x=>x.1.any (· == x.2))))]
theorem Tryz.F9:bM Tryz.prog Tryz.B Tryz.X Tryz.Et:=
 aX (Tryz.yE) (aX (aE Tryz.Es) (aX (aE Tryz.qj) (bY Tryz.bZ)))
def Tryz.Eu (s:List UInt8) (f:bp):cp:=[
 (0,fun st=>{X:=Nat × List (List UInt8) × List (D aA),inv:=fun y=>fh (aJ f) s y.1 y.2.1 y.2.2,bC:=fun y=>7 - y.1,bk:=fun y=>[(9,sI y.1),(7, .s (.one (.app .str y.2.1 (bI st 7)))),(8, .s (.one (.app aA y.2.2 (bI st 8))))],aC:=fun y=>[(bI st 7, .tok .str y.2.1),(bI st 8, .tok aA y.2.2)],bn:=[0],eH:=[bI st 7,bI st 8]}),
 (2,fun st=>{X:=Nat,inv:=fun k=>k<=List.length (bS (.slice .str) st 50),bC:=fun k=>List.length (bS (.slice .str) st 50) - k,bk:=fun k=>[(52,sI k),(7, .s (.one (.app .str (cB (bS (.slice .str) st 7) (List.take k (bS (.slice .str) st 50))) (bI st 7))))],aC:=fun k=>[(bI st 7, .tok .str (cB (bS (.slice .str) st 7) (List.take k (bS (.slice .str) st 50))))],bn:=[0,4,5,6,8,9,10,12,13,18,19,20,21,24,25,26,27,28,29,30,31,32,33,34,35,36,37,38,39,40,41,42,43,44,45,46,47,48,49,50,51],eH:=[bI st 7]})]
noncomputable def Tryz.qJ:List (Alt Tryz.aU [.obj 0, .d .str]):=[{bu:=Tryz.aU,res:=[.d (.slice .str), .d (.slice aA), .d .err],out:=fun _ x=>x,ret:=fun a x=>((aF (aJ x) a.1).1,(aF (aJ x) a.1).2.1,bd (aF (aJ x) a.1).2.2,())}]
theorem Aq (s:List UInt8) (f:bp) (hw:kO [.obj 0, .d .str] (s,())) (hp:(fun _ x=>x.2.1.1.length<=6) (s,()) f):(fp (kV Tryz.B [17]) Tryz.Et Tryz.f31 (Tryz.Eu s f) Tryz.aU [.obj 0, .d .str] Tryz.qJ (s,()) f).holds:=by
 refine holds_of (p:=
  let za:=List UInt8
  let zb:=Nat × List za × List (List za × List Int × List (za × Int × Bool × Unit) × List (Int × Int × Int × za × Bool × Unit) × Unit)
  let zc:=aJ f
  let zd:=fun (x_0:Nat × List (List UInt8) × List (List (List UInt8) × List Int × List (List UInt8 × Int × Bool × Unit) × List (Int × Int × Int × List UInt8 × Bool × Unit) × Unit))=>(↑x_0.1:Int) < (↑(List.length x_0.2.1):Int)
  let ze:=fun (x_0:Nat × List (List UInt8) × List (List (List UInt8) × List Int × List (List UInt8 × Int × Bool × Unit) × List (Int × Int × Int × List UInt8 × Bool × Unit) × Unit))=>aJ f (nth Ty.str x_0.2.1 x_0.1)
  let zf:=aF zc s
  let zg:=(zf.1,zf.2.1,bd zf.2.2,())
  let zh:=fun (x_0:Nat × List (List UInt8) × List (List (List UInt8) × List Int × List (List UInt8 × Int × Bool × Unit) × List (Int × Int × Int × List UInt8 × Bool × Unit) × Unit))=>(b8 (ze x_0).1).1.1
  let zi:=fun (x_0:Nat × List (List UInt8) × List (List (List UInt8) × List Int × List (List UInt8 × Int × Bool × Unit) × List (Int × Int × Int × List UInt8 × Bool × Unit) × Unit))=>List.length (zh x_0)
  let zj:=fun (x_0:Nat × List (List UInt8) × List (List (List UInt8) × List Int × List (List UInt8 × Int × Bool × Unit) × List (Int × Int × Int × List UInt8 × Bool × Unit) × Unit)) (x_1:Nat)=>cB x_0.2.1 (List.take x_1 (zh x_0))
  let zk:=aM (1:Int)
  let zl:=fun (x_1:Nat)=>(↑x_1:Int) + (1:Int)
  let zm:=@List.nil (List UInt8) = @List.nil (List UInt8)
  let zn:=C.ct (1:Nat)=C.ct (1:Nat)/\f.1.1=f.1.1/\True
  let zo:=f.2.1=f.2.1
  let zp:=fun (x_0:Nat × List (List UInt8) × List (List (List UInt8) × List Int × List (List UInt8 × Int × Bool × Unit) × List (Int × Int × Int × List UInt8 × Bool × Unit) × Unit))=>x_0.2.2++[(b8 (ze x_0).1).1]
  let zq:=@List.nil (List (List UInt8) × List Int × List (List UInt8 × Int × Bool × Unit) × List (Int × Int × Int × List UInt8 × Bool × Unit) × Unit) = @List.nil (List (List UInt8) × List Int × List (List UInt8 × Int × Bool × Unit) × List (Int × Int × Int × List UInt8 × Bool × Unit) × Unit)
  let zr:=fun (x_0:Nat × List (List UInt8) × List (List (List UInt8) × List Int × List (List UInt8 × Int × Bool × Unit) × List (Int × Int × Int × List UInt8 × Bool × Unit) × Unit))=>(zh x_0=zh x_0/\(b8 (ze x_0).1).1.2.1=(b8 (ze x_0).1).1.2.1/\(b8 (ze x_0).1).1.2.2.1=(b8 (ze x_0).1).1.2.2.1/\(b8 (ze x_0).1).1.2.2.2.1=(b8 (ze x_0).1).1.2.2.2.1/\True)/\@List.nil (Int × Int × Int × List UInt8 × Bool × Unit) = @List.nil (Int × Int × Int × List UInt8 × Bool × Unit)/\@List.nil (List UInt8 × Int × Bool × Unit) = @List.nil (List UInt8 × Int × Bool × Unit)/\@List.nil Int = @List.nil Int/\zm/\zn/\zo/\zp x_0=zp x_0/\zq/\zm/\True
  (∃(x:zb),fh zc s (Prod.fst x) (Prod.snd x).1 (Prod.snd x).2/\((0:Int)=(↑(Prod.fst x):Int)/\[s]=(Prod.snd x).1/\@List.nil (List (List UInt8) × List Int × List (List UInt8 × Int × Bool × Unit) × List (Int × Int × Int × List UInt8 × Bool × Unit) × Unit)=(Prod.snd x).2/\True)/\[s]=(Prod.snd x).1/\@List.nil (List (List UInt8) × List Int × List (List UInt8 × Int × Bool × Unit) × List (Int × Int × Int × List UInt8 × Bool × Unit) × Unit)=(Prod.snd x).2/\True)/\(∀x_0:Nat × List (List UInt8) × List (List (List UInt8) × List Int × List (List UInt8 × Int × Bool × Unit) × List (Int × Int × Int × List UInt8 × Bool × Unit) × Unit),((fh zc s x_0.1 x_0.2.1 x_0.2.2)->((List.length x_0.2.1<=aL)->(((decide (zd x_0))=true->((0:Int)<=(↑x_0.1:Int)/\zd x_0)/\(True)/\((True)->(((!aY.isNil (bd (ze x_0).2.2))=true->(True/\f=f/\([],[],bd (ze x_0).2.2,())=zg))/\((!aY.isNil (bd (ze x_0).2.2))=false->(True)/\(((!aY.isNil (bd (b8 (ze x_0).1).2))=true->(True/\f=f/\([],[],bd (b8 (ze x_0).1).2,())=zg))/\((!aY.isNil (bd (b8 (ze x_0).1).2))=false->(x_0.2.2=x_0.2.2/\List.length x_0.2.2 + List.length [(b8 (ze x_0).1).1]<=(1000000000:Nat))/\((zi x_0<=aL)->(∃(x:Nat),x<=zi x_0/\((0:Int)=(↑x:Int)/\x_0.2.1=cB x_0.2.1 (List.take x (zh x_0))/\True)/\x_0.2.1=cB x_0.2.1 (List.take x (zh x_0))/\True)/\(∀x_1:Nat,((x_1<=zi x_0)->(((decide ((↑x_1:Int) < (↑(zi x_0):Int)))=true->((0:Int)<=(↑x_1:Int)/\(↑x_1:Int) < (↑(zi x_0):Int))/\(True)/\(((!List.any (zj x_0 x_1) fun (x:za)=>x == nth Ty.str (zh x_0) x_1)=true->(zj x_0 x_1=zj x_0 x_1/\List.length (zj x_0 x_1) + List.length [nth Ty.str (zh x_0) x_1]<=(1000000000:Nat))/\((aM (↑x_1:Int))->((zk)->(aM (zl x_1))/\(∃(x':Nat),x'<=zi x_0/\zi x_0 - x' < zi x_0 - x_1/\(zl x_1=(↑x':Int)/\zj x_0 x_1++[nth Ty.str (zh x_0) x_1]=cB x_0.2.1 (List.take x' (zh x_0))/\True)/\zj x_0 x_1++[nth Ty.str (zh x_0) x_1]=cB x_0.2.1 (List.take x' (zh x_0))/\zr x_0))))/\((!List.any (zj x_0 x_1) fun (x:za)=>x == nth Ty.str (zh x_0) x_1)=false->((aM (↑x_1:Int))->((zk)->(aM (zl x_1))/\(∃(x':Nat),x'<=zi x_0/\zi x_0 - x' < zi x_0 - x_1/\(zl x_1=(↑x':Int)/\zj x_0 x_1=cB x_0.2.1 (List.take x' (zh x_0))/\True)/\zj x_0 x_1=cB x_0.2.1 (List.take x' (zh x_0))/\zr x_0))))))/\((decide ((↑x_1:Int) < (↑(zi x_0):Int)))=false->((aM (↑x_0.1:Int))->((zk)->(aM ((↑x_0.1:Int) + (1:Int)))/\(∃(x':zb),fh zc s (Prod.fst x') (Prod.snd x').1 (Prod.snd x').2/\(7:Nat) - Prod.fst x' < (7:Nat) - x_0.1/\((↑x_0.1:Int) + (1:Int)=(↑(Prod.fst x'):Int)/\zj x_0 x_1=(Prod.snd x').1/\zp x_0=(Prod.snd x').2/\True)/\zj x_0 x_1=(Prod.snd x').1/\zp x_0=(Prod.snd x').2/\zq/\zm/\zn/\zo/\True))))))))))))))/\((decide (zd x_0))=false->(True/\f=f/\(x_0.2.1,x_0.2.2,aY.nil,())=zg))))))) (by kernel_rfl) ?_
 dsimp -iota -proj -eta only
 refine ⟨(⟨(0,[s],[]),fh.zero _ _,⟨rfl,rfl,rfl,trivial⟩,(by trivial)⟩),fun x_0 q_0 h0=>iL (fun h1=>⟨?a,trivial,fun h2=>iB (fun h3=>(by rw [q_0.FH (fB hp) (by omega) (fun e=>by rw [bf.2 e] at h3;cases h3)];exact ⟨trivial,rfl,rfl⟩)) (fun h3=>⟨trivial,iB (fun h4=>(by rw [q_0.G8 (by omega) (bf.1 h3) (fun e=>by rw [bf.2 e] at h4;cases h4)];exact ⟨trivial,rfl,rfl⟩)) (fun h4=>⟨⟨rfl,q_0.IE⟩,fun h5=>⟨(⟨0,Nat.zero_le _,⟨rfl,rfl,trivial⟩,rfl,trivial⟩),fun x_1 q_1=>iL (fun h6=>⟨?b,trivial,iB (fun h7=>⟨⟨rfl,q_0.H2 (fB hp) (uE (bf.1 h3) (bf.1 h4)) _⟩,fun h8 h9=>⟨?c,(⟨x_1 + 1,by omega,by omega,⟨by omega,Ba (by omega) (by assumption),trivial⟩,Ba (by omega) (by assumption),(by trivial)⟩)⟩⟩) (fun h7 h8 h9=>⟨?d,(⟨x_1 + 1,by omega,by omega,⟨by omega,Bb (by omega) (by assumption),trivial⟩,Bb (by omega) (by assumption),(by trivial)⟩)⟩)⟩) (fun h6 h7 h8=>⟨?e,(by exact ⟨(x_0.1 + 1,_,_),q_0.next (fB hp) (by omega) (uE (bf.1 h3) (bf.1 h4)),by have:=q_0.room (fB hp) (by omega) (uE (bf.1 h3) (bf.1 h4));simp only;omega,⟨by simp only;omega,Bc (by omega),rfl,trivial⟩,Bc (by omega),rfl,(by trivial)⟩)⟩)⟩⟩)⟩)⟩) (fun h1=>(by rw [q_0.done (by omega)];exact ⟨trivial,rfl,rfl⟩))⟩
 case a|b=>omega
 case c|d|e=>simp only [aM,aL] at *;omega
theorem Tryz.rn:cP Tryz.prog Tryz.B.eT Tryz.X 31 false (bW Tryz.aU [.obj 0, .d .str] (fun _ x=>x.2.1.1.length<=6) Tryz.qJ):=
 cQ (B:=(kV Tryz.B [17])) (X:=Tryz.X) (bM.hint (l:=[17]) Tryz.F9) Tryz.func31 (by kernel_rfl) (fun (a:CD [.obj 0, .d .str]) (x:PD Tryz.aU)=>Tryz.Eu a.1 x) (fun (a:CD [.obj 0, .d .str]) (x:PD Tryz.aU) hw hp=>Aq a.1 x hw hp)
end Go.Proofs.YtgokjhhcfemnhacGreatDoor

namespace Go.Proofs.YtgokjhhcfemnhacGreatDoor
open Go.Vg Go.Mrl
theorem Ga (n:Int) (hw:dN [.int .i64] n) (hp:(fun n=>0<=n/\n<=1000000) n):(cg Tryz.B [] Tryz.f132 [] [.int .i64] [.int .i64] (fun x y=>y=(fun n=>bE n) x) n).holds:=by
 refine holds_of (p:=
  let za:=aM (16:Int)
  let zb:=aM (n + (16:Int))
  let zc:=n + (16:Int) - (1:Int)
  ((aM n)->((za)->(zb)/\((zb)->((aM (1:Int))->(aM zc)/\((16:Int)≠(0:Int))/\(∀x_0:Int,((x_0=Int.tdiv zc (16:Int))->((aM zc)->((za)->(aM x_0)/\(∀x_1:Int,((x_1=x_0 * (16:Int))->((aM x_0)->((za)->(aM x_1)/\(x_1=bE n)))))))))))))) (by kernel_rfl) ?_
 dsimp -iota -proj -eta only
 refine fun h0 h1=>⟨?a,fun h2 h3=>⟨?b,(by omega),fun x_0 q_0 h4 h5=>⟨?c,fun x_1 q_1 h6 h7=>⟨?d,?e⟩⟩⟩⟩
 case a|b=>simp only [aM] at *;omega
 case c|d|e=>subst_vars;rw [Int.tdiv_eq_ediv_of_nonneg (by omega)];(try unfold bE);(try simp only [aM]);omega
theorem Tryz.Gb:bB Tryz.prog Tryz.B.eT Tryz.X 132 [.int .i64] [.int .i64] (fun n=>0<=n/\n<=1000000) (fun x y=>y=(fun n=>bE n) x):=
 bO (X:=Tryz.X) (bY Tryz.bZ) Tryz.func132 (by kernel_rfl) (fun _=>[]) (fun x hw hp=>Ga x hw hp)
theorem Gc (a:Int × Int × Unit) (b:Int × Int × Unit) (hw:dN [aP,aP] (a,b)) (hp:(fun x=>gV x.1/\gV x.2) (a,b)):(cg Tryz.B [] Tryz.f151 [] [aP,aP] [.bool] (fun x y=>y=(fun x=>c7 x.1 x.2) x) (a,b)).holds:=by
 refine holds_of (p:=
  let za:=true=c7 a b
  let zb:=a.1 + a.2.1
  let zc:=b.1 + b.2.1
  (((decide (a.2.1<=(0:Int)))=true->(za))/\((decide (a.2.1<=(0:Int)))=false->(((decide (b.2.1<=(0:Int)))=true->(za))/\((decide (b.2.1<=(0:Int)))=false->((aM a.1)->((aM a.2.1)->(aM zb)/\(((decide (zb<=b.1))=true->(za))/\((decide (zb<=b.1))=false->((aM b.1)->((aM b.2.1)->(aM zc)/\(decide (zc<=a.1)=c7 a b)))))))))))) (by kernel_rfl) ?_
 dsimp -iota -proj -eta only
 dsimp only at hp
 simp only [gV] at hp
 refine iE (fun h0 => ?a) (fun h0=>iE (fun h1 => ?b) (fun h1 h2 h3=>⟨?c,iE (fun h4 => ?d) (fun h4 h5 h6=>⟨?e,?f⟩)⟩))
 case a|b|d|f=>rw [Bool.eq_iff_iff];simp only [c7,Bool.or_eq_true,decide_eq_true_eq,true_iff];omega
 case c|e=>simp only [aM] at *;omega
theorem Tryz.yP:bB Tryz.prog Tryz.B.eT Tryz.X 151 [aP,aP] [.bool] (fun x=>gV x.1/\gV x.2) (fun x y=>y=(fun x=>c7 x.1 x.2) x):=
 bO (X:=Tryz.X) (bY Tryz.bZ) Tryz.func151 (by kernel_rfl) (fun _=>[]) (fun x hw hp=>Gc x.1 x.2 hw hp)
noncomputable def Tryz.vZ:List (FuncId × (Bool × bA)):=[(151,(true,aR [aP,aP] [.bool] (fun x=>gV x.1/\gV x.2) (fun x=>c7 x.1 x.2)))]
theorem Tryz.Ar:bM Tryz.prog Tryz.B Tryz.X Tryz.vZ:=
 aX (aE Tryz.yP) (bY Tryz.bZ)
noncomputable def Tryz.yQ:List (FuncId × (Bool × bA)):=[(150,(false,eR Tryz.B Tryz.vZ Tryz.f150 []))]
theorem Tryz.CO:bM Tryz.prog Tryz.B Tryz.X Tryz.yQ:=
 aX (eJ Tryz.Ar Tryz.func150 (by kernel_rfl) []) (bY Tryz.bZ)
def v7:cp:=[(0,fun st=>{X:=Nat,inv:=fun i=>i<=(bS (.slice aP) st 0).length/\∀j,j < i->c7 (HT aP st (Gu st 1 0)) (nth aP (bS (.slice aP) st 0) j)=true,bC:=fun i=>(bS (.slice aP) st 0).length - i,bk:=fun i=>[(8,sI i)],bn:=[0,1,7]})]
noncomputable def Tryz.yR:List (FuncId × (Bool × bA)):=[(168,(false,eR Tryz.B Tryz.yQ Tryz.f168 v7))]
theorem Tryz.CP:bM Tryz.prog Tryz.B Tryz.X Tryz.yR:=
 aX (eJ Tryz.CO Tryz.func168 (by kernel_rfl) v7) (bY Tryz.bZ)
noncomputable def Tryz.yS:List (FuncId × (Bool × bA)):=[(149,(false,eR Tryz.B Tryz.yR Tryz.f149 []))]
theorem Tryz.CQ:bM Tryz.prog Tryz.B Tryz.X Tryz.yS:=
 aX (eJ Tryz.CP Tryz.func149 (by kernel_rfl) []) (bY Tryz.bZ)
theorem Hn (r:Int × Int × Unit) (l:List (D aP)) (hw:dN [aP, .slice aP] (r,l)) (hp:(fun x=>gV x.1/\∀y∈x.2,gV y) (r,l)):(cg Tryz.B Tryz.yS Tryz.f133 [] [aP, .slice aP] [.bool] (fun x y=>y=(fun x=>dE x.1 x.2) x) (r,l)).holds:=by
 refine holds_of (p:=
  let za:=List.length l
  ((za<=aL)->(∃(x:Nat),(x<=za/\∀(j:Nat),j < x->c7 r (nth aP l j)=true)/\((0:Int)=(↑x:Int)/\True)/\True)/\(∀x_0:Nat,((x_0<=za/\∀(j:Nat),j < x_0->c7 r (nth aP l j)=true)->(((decide ((↑x_0:Int) < (↑za:Int)))=true->((0:Int)<=(↑x_0:Int)/\(↑x_0:Int) < (↑za:Int))/\(gV r/\gV (nth aP l x_0))/\(((!c7 r (nth aP l x_0))=true->((!decide ((↑x_0:Int)>=(0:Int)))=dE r l))/\((!c7 r (nth aP l x_0))=false->((aM (↑x_0:Int))->((aM (1:Int))->(aM ((↑x_0:Int) + (1:Int)))/\(∃(x':Nat),(x'<=za/\∀(j:Nat),j < x'->c7 r (nth aP l j)=true)/\za - x' < za - x_0/\((↑x_0:Int) + (1:Int)=(↑x':Int)/\True)/\(r.1=r.1/\r.2.1=r.2.1/\True)/\True))))))/\((decide ((↑x_0:Int) < (↑za:Int)))=false->((!decide ((-1:Int)>=(0:Int)))=dE r l))))))) (by kernel_rfl) ?_
 dsimp -iota -proj -eta only
 dsimp only at hp
 refine fun h0=>⟨?a,fun x_0 q_0=>iL (fun h1=>⟨(by omega),⟨hp.1,hp.2 _ (dY (by omega))⟩,iB (fun h2=>(by rw [q7 (j:=x_0) (by omega) h2];simp)) (fun h2 h3 h4=>⟨(by simp only [aM,aL] at *;omega),(by exact ⟨x_0 + 1,⟨by omega,fun j hj=>by by_cases e:j=x_0;(subst e;exact h2);exact q_0.2 j (by omega)⟩,by omega,⟨by omega,trivial⟩,(by trivial)⟩)⟩)⟩) (fun h1=>(by rw [tC fun j hj=>q_0.2 j (by omega)];simp))⟩
 case a=>refine ⟨0,?_⟩;(repeat' (first | exact trivial | rfl | omega | assumption | apply And.intro))
theorem Tryz.Ho:bB Tryz.prog Tryz.B.eT Tryz.X 133 [aP, .slice aP] [.bool] (fun x=>gV x.1/\∀y∈x.2,gV y) (fun x y=>y=(fun x=>dE x.1 x.2) x):=
 bO (X:=Tryz.X) Tryz.CQ Tryz.func133 (by kernel_rfl) (fun _=>[]) (fun x hw hp=>Hn x.1 x.2 hw hp)
noncomputable def Tryz.yT:List (FuncId × (Bool × bA)):=[(76,(true,aR [.str] [.err] (fun _=>True) (fun s=>bd (aK s)))),
 (99,(true,aR [.str] [.int .i64] (fun _=>True) (fun s=>aK s))),
 (21,(true,aR [.err] [.int .i64] (fun _=>True) (fun e=>dA e))),
 (132,(true,aR [.int .i64] [.int .i64] (fun n=>0<=n/\n<=1000000) (fun n=>bE n))),
 (151,(true,aR [aP,aP] [.bool] (fun x=>gV x.1/\gV x.2) (fun x=>c7 x.1 x.2))),
 (133,(true,aR [aP, .slice aP] [.bool] (fun x=>gV x.1/\∀y∈x.2,gV y) (fun x=>dE x.1 x.2)))]
theorem Tryz.CS:bM Tryz.prog Tryz.B Tryz.X Tryz.yT:=
 aX (aE Tryz.fe) (aX (aE Tryz.c8) (aX (aE Tryz.er) (aX (aE Tryz.Gb) (aX (aE Tryz.yP) (aX (aE Tryz.Ho) (bY Tryz.bZ))))))
def yU (s:List Int) (l:List (D aP)):cp:=[
 (0,fun st=>{X:=Nat,inv:=fun i=>i<=s.length/\∀j,j < i->1<=(nth (.int .i64) s j:Int)/\(nth (.int .i64) s j:Int)<=40,bC:=fun i=>s.length - i,bk:=fun i=>[(26,sI i)],bn:=[0,1,24,25]}),
 (2,fun st=>{X:=Nat,inv:=fun i=>i<=l.length/\∀j,j < i->gW (nth aP l j),bC:=fun i=>l.length - i,bk:=fun i=>[(40,sI i)],bn:=[0,1,38,39]}),
 (4,fun st=>{X:=Nat × List (D aP) × List Int,inv:=fun x=>x.1<=s.length/\cV x.2.1 (s.drop x.1) x.2.2=cV l s []/\(∀y∈x.2.1,gW y)/\x.2.1.length=l.length + x.1/\x.2.2.length=x.1,bC:=fun x=>s.length - x.1,bk:=fun x=>[(68,sI x.1),(10, .s (.one (.app aP x.2.1 (bI st 10)))),(11, .s (.one (.app (.int .i64) x.2.2 (bI st 11))))],aC:=fun x=>[(bI st 10, .tok aP x.2.1),(bI st 11, .tok (.int .i64) x.2.2)],bn:=[66,67],eH:=[bI st 10,bI st 11]}),
 (6,fun st=>{X:=Nat,inv:=fun j=>j<=32/\cI (bS (.slice aP) st 10) (BO (.int .i64) st (bI st 14) 1) (40 - j) (16 * (j:Int))=cI (bS (.slice aP) st 10) (BO (.int .i64) st (bI st 14) 1) 40 0,bC:=fun j=>40 - j,bk:=fun j=>[],aC:=fun j=>[(bI st 14, .cells 213 [.d (.int .i64) (16 * (j:Int)), .d (.int .i64) (BO (.int .i64) st (bI st 14) 1)])],bn:=[4,5,10,11,13,14,66,67,68,69,70,71,72,73,74],eH:=[bI st 14]})]
theorem Gd (s:List Int) (l:List (D aP)) (hw:dN [.slice (.int .i64), .slice aP] (s,l)):(cg (kV Tryz.B [65]) Tryz.yT Tryz.f113 (yU s l) [.slice (.int .i64), .slice aP] [.slice (.int .i64), .err] (fun x y=>y=(fun x=>bz x) x) (s,l)).holds:=by
 refine holds_of (p:=
  let za:=List.length s
  let zb:=za<=aL
  let zc:=(↑za:Int)
  let zd:=bz (s,l)
  let ze:=([],aY.no (2:Int))=zd
  let zf:=List.length l
  let zg:=Ty.int IntKind.i64
  let zh:=fun (x_0:Nat)=>(↑x_0:Int)
  let zi:=([],aY.no (1:Int))=zd
  let zj:=aM (1:Int)
  let zk:=@List.nil Int = @List.nil Int/\True
  let zl:=Int × Int × Unit
  let zm:=Nat × List zl × List Int
  let zn:=cV l s (@List.nil Int)
  let zo:=fun (x_2:Nat × List (Int × Int × Unit) × List Int)=>bE (nth zg s x_2.1)
  let zp:=fun (x_2:Nat × List (Int × Int × Unit) × List Int)=>cI x_2.2.1 (zo x_2) (40:Nat) (0:Int)
  let zq:=fun (x_3:Nat)=>(16:Int) * zh x_3
  ((zb)->(((decide (zc > (6:Int)))=true->(ze))/\((decide (zc > (6:Int)))=false->((zf<=aL)->(((decide ((↑zf:Int) > (20:Int)))=true->(ze))/\((decide ((↑zf:Int) > (20:Int)))=false->((zb)->(∃(x:Nat),(x<=za/\∀(j:Nat),j < x->(1:Int)<=nth zg s j/\nth zg s j<=(40:Int))/\((0:Int)=(↑x:Int)/\True)/\True)/\(∀x_0:Nat,((x_0<=za/\∀(j:Nat),j < x_0->(1:Int)<=nth zg s j/\nth zg s j<=(40:Int))->(((decide (zh x_0 < zc))=true->((0:Int)<=zh x_0/\zh x_0 < zc)/\(((decide (nth zg s x_0 < (1:Int)))=true->(zi))/\((decide (nth zg s x_0 < (1:Int)))=false->(((decide (nth zg s x_0 > (40:Int)))=true->(zi))/\((decide (nth zg s x_0 > (40:Int)))=false->((aM (zh x_0))->((zj)->(aM (zh x_0 + (1:Int)))/\(∃(x':Nat),(x'<=za/\∀(j:Nat),j < x'->(1:Int)<=nth zg s j/\nth zg s j<=(40:Int))/\za - x' < za - x_0/\(zh x_0 + (1:Int)=(↑x':Int)/\True)/\zk))))))))/\((decide (zh x_0 < zc))=false->((zf<=aL)->(∃(x:Nat),(x<=zf/\∀(j:Nat),j < x->gW (nth aP l j))/\((0:Int)=(↑x:Int)/\True)/\True)/\(∀x_1:Nat,((x_1<=zf/\∀(j:Nat),j < x_1->gW (nth aP l j))->(((decide (zh x_1 < (↑zf:Int)))=true->((0:Int)<=zh x_1/\zh x_1 < (↑zf:Int))/\(((decide ((nth aP l x_1).1 < (0:Int)))=true->(zi))/\((decide ((nth aP l x_1).1 < (0:Int)))=false->(((decide ((nth aP l x_1).1 > (256:Int)))=true->(zi))/\((decide ((nth aP l x_1).1 > (256:Int)))=false->(((decide ((nth aP l x_1).2.1 < (0:Int)))=true->(zi))/\((decide ((nth aP l x_1).2.1 < (0:Int)))=false->(((decide ((nth aP l x_1).2.1 > (256:Int)))=true->(zi))/\((decide ((nth aP l x_1).2.1 > (256:Int)))=false->((aM (zh x_1))->((zj)->(aM (zh x_1 + (1:Int)))/\(∃(x':Nat),(x'<=zf/\∀(j:Nat),j < x'->gW (nth aP l j))/\zf - x' < zf - x_1/\(zh x_1 + (1:Int)=(↑x':Int)/\True)/\zk))))))))))))/\((decide (zh x_1 < (↑zf:Int)))=false->(zf<=(1000000000:Nat))/\((zb)->(∃(x:zm),(Prod.fst x<=za/\cV (Prod.snd x).1 (List.drop (Prod.fst x) s) (Prod.snd x).2=zn/\(∀(y:zl),y∈(Prod.snd x).1->gW y)/\List.length (Prod.snd x).1=zf + Prod.fst x/\List.length (Prod.snd x).2=Prod.fst x)/\((0:Int)=(↑(Prod.fst x):Int)/\l=(Prod.snd x).1/\@List.nil Int=(Prod.snd x).2/\True)/\l=(Prod.snd x).1/\@List.nil Int=(Prod.snd x).2/\True)/\(∀x_2:Nat × List (Int × Int × Unit) × List Int,((x_2.1<=za/\cV x_2.2.1 (List.drop x_2.1 s) x_2.2.2=zn/\(∀(y:zl),y∈x_2.2.1->gW y)/\List.length x_2.2.1=zf + x_2.1/\List.length x_2.2.2=x_2.1)->(((decide ((↑x_2.1:Int) < zc))=true->((0:Int)<=(↑x_2.1:Int)/\(↑x_2.1:Int) < zc)/\((0:Int)<=nth zg s x_2.1/\nth zg s x_2.1<=(1000000:Int))/\(∃(x:Nat),(x<=(32:Nat)/\cI x_2.2.1 (zo x_2) ((40:Nat) - x) ((16:Int) * (↑x:Int))=zp x_2)/\True/\((0:Int)=(16:Int) * (↑x:Int)/\zo x_2=zo x_2/\True)/\True)/\(∀x_3:Nat,((x_3<=(32:Nat)/\cI x_2.2.1 (zo x_2) ((40:Nat) - x_3) (zq x_3)=zp x_2)->(gV (zq x_3,zo x_2,())/\∀(y:zl),y∈x_2.2.1->gV y)/\(((!dE (zq x_3,zo x_2,()) x_2.2.1)=true->((aM (zq x_3))->((aM (16:Int))->(aM (zq x_3 + (16:Int)))/\(∃(x':Nat),(x'<=(32:Nat)/\cI x_2.2.1 (zo x_2) ((40:Nat) - x') ((16:Int) * (↑x':Int))=zp x_2)/\(40:Nat) - x' < (40:Nat) - x_3/\True/\(zq x_3 + (16:Int)=(16:Int) * (↑x':Int)/\zo x_2=zo x_2/\True)/\x_2.2.1=x_2.2.1/\x_2.2.2=x_2.2.2/\zk))))/\((!dE (zq x_3,zo x_2,()) x_2.2.1)=false->((aM (zq x_3))->((aM (zo x_2))->(aM (zq x_3 + zo x_2))/\(((decide (zq x_3 + zo x_2 > (256:Int)))=true->(([],aY.no (8:Int))=zd))/\((decide (zq x_3 + zo x_2 > (256:Int)))=false->(x_2.2.1=x_2.2.1/\List.length x_2.2.1 + List.length [(zq x_3,zo x_2,())]<=(1000000000:Nat))/\(x_2.2.2=x_2.2.2/\List.length x_2.2.2 + List.length [zq x_3]<=(1000000000:Nat))/\((aM (↑x_2.1:Int))->((zj)->(aM ((↑x_2.1:Int) + (1:Int)))/\(∃(x':zm),(Prod.fst x'<=za/\cV (Prod.snd x').1 (List.drop (Prod.fst x') s) (Prod.snd x').2=zn/\(∀(y:zl),y∈(Prod.snd x').1->gW y)/\List.length (Prod.snd x').1=zf + Prod.fst x'/\List.length (Prod.snd x').2=Prod.fst x')/\za - Prod.fst x' < za - x_2.1/\((↑x_2.1:Int) + (1:Int)=(↑(Prod.fst x'):Int)/\x_2.2.1++[(zq x_3,zo x_2,())]=(Prod.snd x').1/\x_2.2.2++[zq x_3]=(Prod.snd x').2/\True)/\x_2.2.1++[(zq x_3,zo x_2,())]=(Prod.snd x').1/\x_2.2.2++[zq x_3]=(Prod.snd x').2/\zk))))))))))))/\((decide ((↑x_2.1:Int) < zc))=false->((x_2.2.2,aY.nil)=zd))))))))))))))))))))))) (by kernel_rfl) ?_
 dsimp -iota -proj -eta only
 refine fun h0=>iL (fun h1 => ?a) (fun h1 h2=>iL (fun h3 => ?b) (fun h3 h4=>⟨?c,fun x_0 q_0=>iL (fun h5=>⟨?d,iL (fun h6 => ?e) (fun h6=>iL (fun h7 => ?f) (fun h7 h8 h9=>⟨?g,(by (try dsimp only [D] at *);exact ⟨x_0 + 1,⟨by omega,fun j hj=>by by_cases e:j=x_0;(subst e;(try dsimp only [D]);omega);exact q_0.2 j (by omega)⟩,by omega,⟨by omega,trivial⟩,(by trivial)⟩)⟩))⟩) (fun h5 h6=>⟨?h,fun x_1 q_1=>iL (fun h7=>⟨?i,iL (fun h8 => ?j) (fun h8=>iL (fun h9 => ?k) (fun h9=>iL (fun h10 => ?l) (fun h10=>iL (fun h11 => ?m) (fun h11 h12 h13=>⟨?n,(by (try dsimp only [D] at *);exact ⟨x_1 + 1,⟨by omega,fun j hj=>by by_cases e:j=x_1;(subst e;unfold gW;(try dsimp only [D]);omega);exact q_1.2 j (by omega)⟩,by omega,⟨by omega,trivial⟩,(by trivial)⟩)⟩))))⟩) (fun h7=>⟨?o,fun h8=>⟨(⟨(0,l,[]),⟨Nat.zero_le _,rfl,(fun y (hy:y∈l)=>by obtain ⟨i,hi,e⟩:=jN (t:=aP) hy;rw [<-e];exact q_1.2 i (by omega)),rfl,rfl⟩,(by trivial),(by trivial)⟩),fun x_2 q_2=>iL (fun h9=>⟨?p,(by have:=q_0.2 x_2.1 (by omega);(try dsimp only [D] at *);omega),?q,fun x_3 q_3=>⟨?r,iB (fun h10 h11 h12=>⟨?s,?t⟩) (fun h10 h11 h12=>⟨?u,iL (fun h13 => ?v) (fun h13=>⟨?w,?x,fun h14 h15=>⟨?y,?z⟩⟩)⟩)⟩⟩) (fun h9=>(by rw [pR (by omega) (fun j hj=>q_0.2 j (by omega)) (fun j hj=>q_1.2 j (by omega)),<-q_2.2.1,zW (by omega)]))⟩⟩)⟩)⟩))
 case a|b=>rw [q8 (by omega)]
 case c|h|q=>refine ⟨0,?_⟩;(repeat' (first | exact trivial | rfl | omega | assumption | apply And.intro))
 case d|i|o|p=>omega
 case e|f=>(try dsimp only [D] at *);rw [q9 (by omega) (i:=x_0) (by omega) (by (try dsimp only [D]);omega)]
 case g|n|s|y=>simp only [aM,aL] at *;omega
 case j|k|l|m=>(try dsimp only [D] at *);rw [pQ (by omega) (i:=x_1) (by omega) (by unfold gW;(try dsimp only [D]);omega)]
 case r=>
  have hs:=q_0.2 x_2.1 (by omega);have hr:=fq hs.1 hs.2
  exact ⟨by refine ⟨?_,?_,?_,?_⟩ <;> simp only <;> omega,fun y hy=>(q_2.2.2.1 y hy).gV⟩
 case t=>
  have hf:dE (16 * (x_3:Int),bE (nth (.int .i64) s x_2.1),()) x_2.2.1=false:=by assumption
  have hn:=DC q_2.2.2.1 hf
  exact ⟨x_3 + 1,⟨by omega,by rw [<-q_3.2,show 40 - x_3=(40 - (x_3 + 1)) + 1 by omega,vj hf,show 16 * ((x_3 + 1:Nat):Int)=16 * (x_3:Int) + 16 by omega]⟩,by omega,trivial,⟨by omega,rfl,trivial⟩,(by trivial)⟩
 case u=>
  have hs:=q_0.2 x_2.1 (by omega);have hr:=fq hs.1 hs.2;have hf:dE (16 * (x_3:Int),bE (nth (.int .i64) s x_2.1),()) x_2.2.1=true:=by assumption
  have hb:=q_3.2.symm.trans (km hf)
  simp only [aM];omega
 case v=>
  have hs:=q_0.2 x_2.1 (by omega);have hr:=fq hs.1 hs.2;have hf:dE (16 * (x_3:Int),bE (nth (.int .i64) s x_2.1),()) x_2.2.1=true:=by assumption
  have hb:=q_3.2.symm.trans (km hf)
  rw [pR (by omega) (fun j hj=>q_0.2 j (by omega)) (fun j hj=>q_1.2 j (by omega)),<-q_2.2.1,lM (by omega),if_pos (by rw [hb];omega)]
 case w|x=>simp only [List.length_singleton,true_and];omega
 case z=>
  have hs:=q_0.2 x_2.1 (by omega);have hr:=fq hs.1 hs.2;have hf:dE (16 * (x_3:Int),bE (nth (.int .i64) s x_2.1),()) x_2.2.1=true:=by assumption
  have hb:=q_3.2.symm.trans (km hf)
  exact ⟨(x_2.1 + 1,_,_),⟨by omega,by rw [<-q_2.2.1,lM (k:=x_2.1) (by omega),if_neg (by rw [hb];omega),hb],Fl q_2.2.2.1 (by refine ⟨?_,?_,?_,?_⟩ <;> simp only <;> omega),by simp only [List.length_append,List.length_singleton];omega,by simp only [List.length_append,List.length_singleton];omega⟩,by simp only;omega,⟨by simp only;omega,rfl,rfl,trivial⟩,(by trivial)⟩
theorem Tryz.Ge:bB Tryz.prog Tryz.B.eT Tryz.X 113 [.slice (.int .i64), .slice aP] [.slice (.int .i64), .err] (fun _=>True) (fun x y=>y=(fun x=>bz x) x):=
 bO (B:=(kV Tryz.B [65])) (X:=Tryz.X) (bM.hint (l:=[65]) Tryz.CS) Tryz.func113 (by kernel_rfl) (fun x=>yU x.1 x.2) (fun x hw hp=>Gd x.1 x.2 hw)
end Go.Proofs.YtgokjhhcfemnhacGreatDoor

namespace Go.Proofs.YtgokjhhcfemnhacGreatDoor
open Go.Vg Go.Mrl
def yV (o:D aA):cp:=[
 (0,fun st=>{X:=Nat,inv:=fun i=>i<=o.1.length/\∀j,j < i->(nth .str o.1 j).length<=20,bC:=fun i=>o.1.length - i,bk:=fun i=>[(3,sI i)],bn:=[1]}),
 (2,fun st=>{X:=Nat,inv:=fun i=>i<=o.2.2.1.length/\∀j,j < i->(nth aI o.2.2.1 j).1.length<=20,bC:=fun i=>o.2.2.1.length - i,bk:=fun i=>[(4,sI i)],bn:=[1]}),
 (4,fun st=>{X:=Nat,inv:=fun i=>i<=o.2.2.2.1.length/\∀j,j < i->(nth aH o.2.2.2.1 j).2.2.2.1.length<=20,bC:=fun i=>o.2.2.2.1.length - i,bk:=fun i=>[(5,sI i)],bn:=[1]})]
theorem uI (o:D aA) (hw:dN [aA] o):(cg Tryz.B [] Tryz.f27 (yV o) [aA] [.bool] (fun o y=>y=true->fQ o) o).holds:=by
 refine holds_of (p:=
  let za:=List.length o.1
  let zb:=false=true->fQ o
  let zc:=List.length o.2.1
  let zd:=o.2.2.1
  let ze:=List.length zd
  let zf:=o.2.2.2.1
  let zg:=List.length zf
  let zh:=fun (x_0:Nat)=>(↑x_0:Int)
  let zi:=fun (x_0:Nat)=>(0:Int)<=zh x_0
  let zj:=aM (1:Int)
  let zk:=fun (x_0:Nat)=>zh x_0 + (1:Int)
  let zl:=(o.1=o.1/\o.2.1=o.2.1/\zd=zd/\zf=zf/\True)/\True
  let zm:=fun (x_2:Nat)=>List.length (nth aH zf x_2).2.2.2.1
  ((za<=aL)->(((decide ((↑za:Int) > (6:Int)))=true->(zb))/\((decide ((↑za:Int) > (6:Int)))=false->((zc<=aL)->(((decide ((↑zc:Int) > (50:Int)))=true->(zb))/\((decide ((↑zc:Int) > (50:Int)))=false->((ze<=aL)->(((decide ((↑ze:Int) > (10:Int)))=true->(zb))/\((decide ((↑ze:Int) > (10:Int)))=false->((zg<=aL)->(((decide ((↑zg:Int) > (10:Int)))=true->(zb))/\((decide ((↑zg:Int) > (10:Int)))=false->(∃(x:Nat),(x<=za/\∀(j:Nat),j < x->List.length (nth Ty.str o.1 j)<=(20:Nat))/\((0:Int)=(↑x:Int)/\True)/\True)/\(∀x_0:Nat,((x_0<=za/\∀(j:Nat),j < x_0->List.length (nth Ty.str o.1 j)<=(20:Nat))->((za<=aL)->(((decide (zh x_0 < (↑za:Int)))=true->(zi x_0/\zh x_0 < (↑za:Int))/\((List.length (nth Ty.str o.1 x_0)<=aL)->(((decide ((↑(List.length (nth Ty.str o.1 x_0)):Int) > (20:Int)))=true->(zb))/\((decide ((↑(List.length (nth Ty.str o.1 x_0)):Int) > (20:Int)))=false->((aM (zh x_0))->((zj)->(aM (zk x_0))/\(∃(x':Nat),(x'<=za/\∀(j:Nat),j < x'->List.length (nth Ty.str o.1 j)<=(20:Nat))/\za - x' < za - x_0/\(zk x_0=(↑x':Int)/\True)/\zl)))))))/\((decide (zh x_0 < (↑za:Int)))=false->(∃(x:Nat),(x<=ze/\∀(j:Nat),j < x->List.length (nth aI zd j).1<=(20:Nat))/\((0:Int)=(↑x:Int)/\True)/\True)/\(∀x_1:Nat,((x_1<=ze/\∀(j:Nat),j < x_1->List.length (nth aI zd j).1<=(20:Nat))->((ze<=aL)->(((decide (zh x_1 < (↑ze:Int)))=true->(zi x_1/\zh x_1 < (↑ze:Int))/\((List.length (nth aI zd x_1).1<=aL)->(((decide ((↑(List.length (nth aI zd x_1).1):Int) > (20:Int)))=true->(zb))/\((decide ((↑(List.length (nth aI zd x_1).1):Int) > (20:Int)))=false->((aM (zh x_1))->((zj)->(aM (zk x_1))/\(∃(x':Nat),(x'<=ze/\∀(j:Nat),j < x'->List.length (nth aI zd j).1<=(20:Nat))/\ze - x' < ze - x_1/\(zk x_1=(↑x':Int)/\True)/\zl)))))))/\((decide (zh x_1 < (↑ze:Int)))=false->(∃(x:Nat),(x<=zg/\∀(j:Nat),j < x->List.length (nth aH zf j).2.2.2.1<=(20:Nat))/\((0:Int)=(↑x:Int)/\True)/\True)/\(∀x_2:Nat,((x_2<=zg/\∀(j:Nat),j < x_2->List.length (nth aH zf j).2.2.2.1<=(20:Nat))->((zg<=aL)->(((decide (zh x_2 < (↑zg:Int)))=true->(zi x_2/\zh x_2 < (↑zg:Int))/\((zm x_2<=aL)->(((decide ((↑(zm x_2):Int) > (20:Int)))=true->(zb))/\((decide ((↑(zm x_2):Int) > (20:Int)))=false->((aM (zh x_2))->((zj)->(aM (zk x_2))/\(∃(x':Nat),(x'<=zg/\∀(j:Nat),j < x'->List.length (nth aH zf j).2.2.2.1<=(20:Nat))/\zg - x' < zg - x_2/\(zk x_2=(↑x':Int)/\True)/\zl)))))))/\((decide (zh x_2 < (↑zg:Int)))=false->(true=true->fQ o))))))))))))))))))))))))))))) (by kernel_rfl) ?_
 dsimp -iota -proj -eta only
 refine fun h0=>iL (fun h1 => ?a) (fun h1 h2=>iL (fun h3 => ?b) (fun h3 h4=>iL (fun h5 => ?c) (fun h5 h6=>iL (fun h7 => ?d) (fun h7=>⟨?e,fun x_0 q_0 h8=>iL (fun h9=>⟨?f,fun h10=>iL (fun h11 => ?g) (fun h11 h12 h13=>⟨?h,(⟨x_0 + 1,⟨by omega,kj q_0.2 (by omega)⟩,by omega,⟨by omega,trivial⟩,(by trivial)⟩)⟩)⟩) (fun h9=>⟨?i,fun x_1 q_1 h10=>iL (fun h11=>⟨?j,fun h12=>iL (fun h13 => ?k) (fun h13 h14 h15=>⟨?l,(⟨x_1 + 1,⟨by omega,kj q_1.2 (by omega)⟩,by omega,⟨by omega,trivial⟩,(by trivial)⟩)⟩)⟩) (fun h11=>⟨?m,fun x_2 q_2 h12=>iL (fun h13=>⟨?n,fun h14=>iL (fun h15 => ?o) (fun h15 h16 h17=>⟨?p,(⟨x_2 + 1,⟨by omega,kj q_2.2 (by omega)⟩,by omega,⟨by omega,trivial⟩,(by trivial)⟩)⟩)⟩) (fun h13=>(fun _=>⟨by omega,by omega,by omega,by omega,fun i hi=>q_0.2 i (by omega),fun i hi=>q_1.2 i (by omega),fun i hi=>q_2.2 i (by omega)⟩))⟩)⟩)⟩))))
 case a|b|c|d|g|k|o=>simp_all
 case e|i|m=>refine ⟨0,?_⟩;(repeat' (first | exact trivial | rfl | omega | assumption | apply And.intro))
 case f|j|n=>omega
 case h|l|p=>simp only [aM,aL] at *;omega
theorem Tryz.nI:bB Tryz.prog Tryz.B.eT Tryz.X 27 [aA] [.bool] (fun _=>True) (fun o y=>y=true->fQ o):=
 bO (X:=Tryz.X) (bY Tryz.bZ) Tryz.func27 (by kernel_rfl) (fun x=>yV x) (fun x hw hp=>uI x hw)
noncomputable def Tryz.v8:List (FuncId × (Bool × bA)):=[(27,(true,eY [aA] [.bool] (fun _=>True) (fun o y=>y=true->fQ o)))]
theorem Tryz.As:bM Tryz.prog Tryz.B Tryz.X Tryz.v8:=
 aX (cU Tryz.nI) (bY Tryz.bZ)
def wa (l:List (D aA)):cp:=[
 (0,fun st=>{X:=Nat,inv:=fun i=>i<=l.length/\∀j,j < i->fQ (nth aA l j),bC:=fun i=>l.length - i,bk:=fun i=>[(3,sI i)],bn:=[0]})]
theorem tV (l:List (D aA)) (hw:dN [.slice aA] l):(cg Tryz.B Tryz.v8 Tryz.f82 (wa l) [.slice aA] [.bool] (fun l y=>y=true->nx l) l).holds:=by
 refine holds_of (p:=
  let za:=List.length l
  let zb:=false=true->nx l
  ((za<=aL)->(((decide ((↑za:Int) > (8:Int)))=true->(zb))/\((decide ((↑za:Int) > (8:Int)))=false->(∃(x:Nat),(x<=za/\∀(j:Nat),j < x->fQ (nth aA l j))/\((0:Int)=(↑x:Int)/\True)/\True)/\(∀x_0:Nat,((x_0<=za/\∀(j:Nat),j < x_0->fQ (nth aA l j))->((za<=aL)->(((decide ((↑x_0:Int) < (↑za:Int)))=true->((0:Int)<=(↑x_0:Int)/\(↑x_0:Int) < (↑za:Int))/\(True)/\(∀x_1:Bool,((x_1=true->fQ (nth aA l x_0))->(((!x_1)=true->(zb))/\((!x_1)=false->((aM (↑x_0:Int))->((aM (1:Int))->(aM ((↑x_0:Int) + (1:Int)))/\(∃(x':Nat),(x'<=za/\∀(j:Nat),j < x'->fQ (nth aA l j))/\za - x' < za - x_0/\((↑x_0:Int) + (1:Int)=(↑x':Int)/\True)/\True))))))))/\((decide ((↑x_0:Int) < (↑za:Int)))=false->(true=true->nx l)))))))))) (by kernel_rfl) ?_
 dsimp -iota -proj -eta only
 refine fun h0=>iL (fun h1 => ?a) (fun h1=>⟨?b,fun x_0 q_0 h2=>iL (fun h3=>⟨(by omega),trivial,fun x_1 q_1=>iB (fun h4 => ?c) (fun h4 h5 h6=>⟨(by simp only [aM,aL] at *;omega),(⟨x_0 + 1,⟨by omega,kj q_0.2 (by simp_all)⟩,by omega,⟨by omega,trivial⟩,(by trivial)⟩)⟩)⟩) (fun h3=>(fun _=>⟨by omega,fun i hi=>q_0.2 i (by omega)⟩))⟩)
 case a|c=>simp_all
 case b=>refine ⟨0,?_⟩;(repeat' (first | exact trivial | rfl | omega | assumption | apply And.intro))
theorem Tryz.tW:bB Tryz.prog Tryz.B.eT Tryz.X 82 [.slice aA] [.bool] (fun _=>True) (fun l y=>y=true->nx l):=
 bO (X:=Tryz.X) Tryz.As Tryz.func82 (by kernel_rfl) (fun x=>wa x) (fun x hw hp=>tV x hw)
def yW (l:List (D aA)) (s:List UInt8):cp:=[
 (0,fun st=>{X:=Nat × Int × Int,inv:=fun x=>x.1<=l.length/\dB l s x.1 0 x.2.1 x.2.2,bC:=fun x=>l.length - x.1,bk:=fun x=>[(14,sI x.1),(6,sI x.2.1),(7,sI x.2.2)],bn:=[1,12,13]}),
 (2,fun st=>{X:=Nat × Int × Int,inv:=fun x=>x.1<=(nth aA l (bS (.int .i64) st 14).toNat).2.2.1.length/\dB l s (bS (.int .i64) st 14).toNat x.1 x.2.1 x.2.2,bC:=fun x=>(nth aA l (bS (.int .i64) st 14).toNat).2.2.1.length - x.1,bk:=fun x=>[(22,sI x.1),(6,sI x.2.1),(7,sI x.2.2)],bn:=[1,8,9,12,13,14,15,16,17,18,19,20,21]})]
theorem Gf (l:List (D aA)) (s:List UInt8) (hw:dN [.slice aA, .str] (l,s)):(cg Tryz.B [] Tryz.f39 (yW l s) [.slice aA, .str] [.int .i64, .int .i64] (fun x y=>y=(fun x=>bo x) x) (l,s)).holds:=by
 refine holds_of (p:=
  let za:=List.length l
  let zb:=Nat × Int × Int
  let zc:=fun (x_0:Nat × Int × Int)=>(↑x_0.1:Int)
  let zd:=fun (x_0:Nat × Int × Int)=>(nth aA l x_0.1).2.2.1
  let ze:=fun (x_0:Nat × Int × Int)=>List.length (zd x_0)
  let zf:=aM (1:Int)
  let zg:=fun (x_1:Nat × Int × Int)=>zc x_1 + (1:Int)
  let zh:=fun (x_0:Nat × Int × Int)=>(nth aA l x_0.1).2.2.2.1
  let zi:=fun (x_0:Nat × Int × Int)=>((nth aA l x_0.1).1=(nth aA l x_0.1).1/\(nth aA l x_0.1).2.1=(nth aA l x_0.1).2.1/\zd x_0=zd x_0/\zh x_0=zh x_0/\True)/\@List.nil (Int × Int × Int × List UInt8 × Bool × Unit) = @List.nil (Int × Int × Int × List UInt8 × Bool × Unit)/\@List.nil (List UInt8 × Int × Bool × Unit) = @List.nil (List UInt8 × Int × Bool × Unit)/\@List.nil Int = @List.nil Int/\@List.nil (List UInt8) = @List.nil (List UInt8)/\True
  let zj:=fun (x_1:Nat × Int × Int) (x_0:Nat × Int × Int)=>((aM (zc x_1))->((zf)->(aM (zg x_1))/\(∃(x':zb),(Prod.fst x'<=ze x_0/\dB l s x_0.1 (Prod.fst x') (Prod.snd x').1 (Prod.snd x').2)/\ze x_0 - Prod.fst x' < ze x_0 - x_1.1/\(zg x_1=(↑(Prod.fst x'):Int)/\x_1.2.1=(Prod.snd x').1/\x_1.2.2=(Prod.snd x').2/\True)/\zi x_0)))
  let zk:=bo (l,s)
  ((za<=aL)->(∃(x:zb),(Prod.fst x<=za/\dB l s (Prod.fst x) (0:Nat) (Prod.snd x).1 (Prod.snd x).2)/\((0:Int)=(↑(Prod.fst x):Int)/\(-1:Int)=(Prod.snd x).1/\(-1:Int)=(Prod.snd x).2/\True)/\True)/\(∀x_0:Nat × Int × Int,((x_0.1<=za/\dB l s x_0.1 (0:Nat) x_0.2.1 x_0.2.2)->(((decide (zc x_0 < (↑za:Int)))=true->((0:Int)<=zc x_0/\zc x_0 < (↑za:Int))/\((ze x_0<=aL)->(∃(x:zb),(Prod.fst x<=ze x_0/\dB l s x_0.1 (Prod.fst x) (Prod.snd x).1 (Prod.snd x).2)/\((0:Int)=(↑(Prod.fst x):Int)/\x_0.2.1=(Prod.snd x).1/\x_0.2.2=(Prod.snd x).2/\True)/\True)/\(∀x_1:Nat × Int × Int,((x_1.1<=ze x_0/\dB l s x_0.1 x_1.1 x_1.2.1 x_1.2.2)->(((decide (zc x_1 < (↑(ze x_0):Int)))=true->((0:Int)<=zc x_1/\zc x_1 < (↑(ze x_0):Int))/\(((!(nth aI (zd x_0) x_1.1).1 == s)=true->(zj x_1 x_0))/\((!(nth aI (zd x_0) x_1.1).1 == s)=false->(((!(nth aI (zd x_0) x_1.1).2.2.1)=true->((zc x_0,zc x_1)=zk))/\((!(nth aI (zd x_0) x_1.1).2.2.1)=false->(((decide (x_1.2.1 < (0:Int)))=true->((aM (zc x_1))->((zf)->(aM (zg x_1))/\(∃(x':zb),(Prod.fst x'<=ze x_0/\dB l s x_0.1 (Prod.fst x') (Prod.snd x').1 (Prod.snd x').2)/\ze x_0 - Prod.fst x' < ze x_0 - x_1.1/\(zg x_1=(↑(Prod.fst x'):Int)/\zc x_0=(Prod.snd x').1/\zc x_1=(Prod.snd x').2/\True)/\zi x_0))))/\((decide (x_1.2.1 < (0:Int)))=false->(zj x_1 x_0))))))))/\((decide (zc x_1 < (↑(ze x_0):Int)))=false->((aM (zc x_0))->((zf)->(aM (zg x_0))/\(∃(x':zb),(Prod.fst x'<=za/\dB l s (Prod.fst x') (0:Nat) (Prod.snd x').1 (Prod.snd x').2)/\za - Prod.fst x' < za - x_0.1/\(zg x_0=(↑(Prod.fst x'):Int)/\x_1.2.1=(Prod.snd x').1/\x_1.2.2=(Prod.snd x').2/\True)/\True)))))))))/\((decide (zc x_0 < (↑za:Int)))=false->(x_0.2=zk))))))) (by kernel_rfl) ?_
 dsimp -iota -proj -eta only
 refine fun h0=>⟨(⟨(0,-1,-1),⟨by omega,dB.start l s⟩,⟨rfl,rfl,rfl,trivial⟩,trivial⟩),fun x_0 q_0=>iL (fun h1=>⟨?a,fun h2=>⟨(⟨(0,x_0.2),⟨by omega,q_0.2⟩,⟨rfl,rfl,rfl,trivial⟩,trivial⟩),fun x_1 q_1=>iL (fun h3=>⟨?b,⟨fun h4 h5 h6=>⟨?c,?d⟩,fun h4=>iB (fun h5 => ?e) (fun h5=>iL (fun h6 h7 h8=>⟨?f,?g⟩) (fun h6 h7 h8=>⟨?h,?i⟩))⟩⟩) (fun h3 h4 h5=>⟨(by simp only [aM,aL] at *;omega),(by exact ⟨(x_0.1 + 1,x_1.2),⟨by omega,q_1.2.row (by omega)⟩,by simp only;omega,⟨by simp only;omega,rfl,rfl,trivial⟩,(by trivial)⟩)⟩)⟩⟩) (fun h1=>((q_0.2.done (by omega)).symm))⟩
 case a|b=>omega
 case c|f|h=>
  simp only [bl,reduceCtorEq] at h4
  simp only [aM,aL] at *;omega
 case d=>
  simp only [bl,reduceCtorEq] at h4
  exact ⟨(x_1.1 + 1,x_1.2),⟨by omega,q_1.2.skip (by assumption)⟩,by simp only;omega,⟨by simp only;omega,rfl,rfl,trivial⟩,(by trivial)⟩
 case e=>
  simp only [bl,reduceCtorEq] at h4
  exact (q_1.2.HV (by omega) (by omega) (by assumption) (by assumption)).symm
 case g=>
  simp only [bl,reduceCtorEq] at h4
  exact ⟨(x_1.1 + 1,_,_),⟨by omega,q_1.2.uq (by omega) (by omega) (by assumption) (by simp_all) (by omega)⟩,by simp only;omega,⟨by simp only;omega,rfl,rfl,trivial⟩,(by trivial)⟩
 case i=>
  simp only [bl,reduceCtorEq] at h4
  exact ⟨(x_1.1 + 1,x_1.2),⟨by omega,q_1.2.more (by simp_all) (by omega)⟩,by simp only;omega,⟨by simp only;omega,rfl,rfl,trivial⟩,(by trivial)⟩
theorem Tryz.yX:bB Tryz.prog Tryz.B.eT Tryz.X 39 [.slice aA, .str] [.int .i64, .int .i64] (fun _=>True) (fun x y=>y=(fun x=>bo x) x):=
 bO (X:=Tryz.X) (bY Tryz.bZ) Tryz.func39 (by kernel_rfl) (fun x=>yW x.1 x.2) (fun x hw hp=>Gf x.1 x.2 hw)
noncomputable def Tryz.yY:List (FuncId × (Bool × bA)):=[(76,(true,aR [.str] [.err] (fun _=>True) (fun s=>bd (aK s)))),
 (99,(true,aR [.str] [.int .i64] (fun _=>True) (fun s=>aK s))),
 (21,(true,aR [.err] [.int .i64] (fun _=>True) (fun e=>dA e))),
 (27,(true,eY [aA] [.bool] (fun _=>True) (fun o y=>y=true->fQ o))),
 (82,(true,eY [.slice aA] [.bool] (fun _=>True) (fun l y=>y=true->nx l))),
 (39,(true,aR [.slice aA, .str] [.int .i64, .int .i64] (fun _=>True) (fun x=>bo x)))]
theorem Tryz.CT:bM Tryz.prog Tryz.B Tryz.X Tryz.yY:=
 aX (aE Tryz.fe) (aX (aE Tryz.c8) (aX (aE Tryz.er) (aX (cU Tryz.nI) (aX (cU Tryz.tW) (aX (aE Tryz.yX) (bY Tryz.bZ))))))
end Go.Proofs.YtgokjhhcfemnhacGreatDoor

namespace Go.Proofs.YtgokjhhcfemnhacGreatDoor
open Go.Vg Go.Mrl
def yZ (a:List Int) (b:List Int):cp:=[(0,fun st=>{X:=Nat,inv:=fun i=>i<=a.length/\∀j,j < i->nth (.int .i64) a j=nth (.int .i64) b j,bC:=fun i=>a.length - i,bk:=fun i=>[(5,sI i)],bn:=[0,1]})]
theorem uJ (a:List Int) (b:List Int) (hw:dN [.slice (.int .i64), .slice (.int .i64)] (a,b)):(cg Tryz.B [] Tryz.f37 (yZ a b) [.slice (.int .i64), .slice (.int .i64)] [.bool] (fun x y=>y=(fun x=>gO x.1 x.2) x) (a,b)).holds:=by
 refine holds_of (p:=
  let za:=List.length a
  let zb:=(↑(List.length b):Int)
  let zc:=false=gO a b
  let zd:=Ty.int IntKind.i64
  ((za<=aL)->((List.length b<=aL)->((((↑za:Int) != zb)=true->(zc))/\(((↑za:Int) != zb)=false->(∃(x:Nat),(x<=za/\∀(j:Nat),j < x->nth zd a j=nth zd b j)/\((0:Int)=(↑x:Int)/\True)/\True)/\(∀x_0:Nat,((x_0<=za/\∀(j:Nat),j < x_0->nth zd a j=nth zd b j)->((za<=aL)->(((decide ((↑x_0:Int) < (↑za:Int)))=true->((0:Int)<=(↑x_0:Int)/\(↑x_0:Int) < (↑za:Int))/\((0:Int)<=(↑x_0:Int)/\(↑x_0:Int) < zb)/\(((nth zd a x_0 != nth zd b x_0)=true->(zc))/\((nth zd a x_0 != nth zd b x_0)=false->((aM (↑x_0:Int))->((aM (1:Int))->(aM ((↑x_0:Int) + (1:Int)))/\(∃(x':Nat),(x'<=za/\∀(j:Nat),j < x'->nth zd a j=nth zd b j)/\za - x' < za - x_0/\((↑x_0:Int) + (1:Int)=(↑x':Int)/\True)/\True))))))/\((decide ((↑x_0:Int) < (↑za:Int)))=false->(true=gO a b))))))))))) (by kernel_rfl) ?_
 dsimp -iota -proj -eta only
 refine fun h0 h1=>iN (fun h2=>(DD (by assumption))) (fun h2=>⟨(⟨0,⟨by omega,fun j hj=>by omega⟩,⟨rfl,trivial⟩,trivial⟩),fun x_0 q_0 h3=>iL (fun h4=>⟨?a,?b,iN (fun h5=>(Fm (i:=x_0) (by assumption))) (fun h5 h6 h7=>⟨(by simp only [aM,aL] at *;omega),(⟨x_0 + 1,⟨by omega,DE q_0.2 (by assumption)⟩,by omega,⟨by omega,trivial⟩,(by trivial)⟩)⟩)⟩) (fun h4=>(B4 (by assumption) (fun i hi=>q_0.2 i (by omega))))⟩)
 case a|b=>omega
theorem Tryz.uK:bB Tryz.prog Tryz.B.eT Tryz.X 37 [.slice (.int .i64), .slice (.int .i64)] [.bool] (fun _=>True) (fun x y=>y=(fun x=>gO x.1 x.2) x):=
 bO (X:=Tryz.X) (bY Tryz.bZ) Tryz.func37 (by kernel_rfl) (fun x=>yZ x.1 x.2) (fun x hw hp=>uJ x.1 x.2 hw)
end Go.Proofs.YtgokjhhcfemnhacGreatDoor

namespace Go.Proofs.YtgokjhhcfemnhacGreatDoor
open Go.Vg Go.Mrl
theorem Ev (l:List (D aA)) (b:List Int) (t:D aH) (hw:dN [.slice aA, .slice (.int .i64),aH] (l,b,t)) (hp:(fun x=>eg x.1/\x.2.1.length=x.1.length/\jA x.2.1) (l,b,t)):(cg Tryz.B Tryz.yY Tryz.f116 [] [.slice aA, .slice (.int .i64),aH] [.int .i64, .err] (fun x y=>y=(fun x=>bQ x.1 x.2.1 x.2.2) x) (l,b,t)).holds:=by
 refine holds_of (p:=
  let za:=bo (l,t.2.2.2.1)
  let zb:=(0:Int)<=za.1
  let zc:=(nth aA l (Int.toNat za.1)).2.2.1
  let zd:=nth (Ty.int IntKind.i64) b (Int.toNat za.1)
  let ze:=(nth aI zc (Int.toNat za.2)).2.1
  let zf:=bQ l b t
  (True)/\(((decide (za.1>=(0:Int)))=true->(zb/\za.1 < (↑(List.length b):Int))/\(zb/\za.1 < (↑(List.length l):Int))/\((0:Int)<=za.2/\za.2 < (↑(List.length zc):Int))/\((aM zd)->((aM ze)->(aM (zd + ze))/\((zd + ze,aY.nil)=zf))))/\((decide (za.1>=(0:Int)))=false->(((t.2.2.2.2.1)=true->(((0:Int),aY.nil)=zf))/\((t.2.2.2.2.1)=false->(((0:Int),aY.no (6:Int))=zf)))))) (by kernel_rfl) ?_
 dsimp -iota -proj -eta only
 dsimp only at hp
 refine ⟨trivial,iE (fun h0=>⟨?a,?b,?c,fun h1 h2=>⟨?d,((oB (by omega)).symm)⟩⟩) (fun h0=>⟨fun h1=>((mR (by omega) h1).symm),fun h1=>((lO (by omega) h1).symm)⟩)⟩
 case a|b|c=>
  have hf:=fY (l:=l) (s:=t.2.2.2.1) (by omega)
  omega
 case d=>
  have hf:=fY (l:=l) (s:=t.2.2.2.1) (by omega)
  have hb:=jO (n:=l.length) (i:=(bo (l,t.2.2.2.1)).1) hp.2.2 hp.2.1 (by omega) hf.1;have hs:=DL (s:=t.2.2.2.1) hp.1 (by omega)
  unfold Small at hs;dsimp only [D] at *;simp only [aM];omega
theorem Tryz.Ew:bB Tryz.prog Tryz.B.eT Tryz.X 116 [.slice aA, .slice (.int .i64),aH] [.int .i64, .err] (fun x=>eg x.1/\x.2.1.length=x.1.length/\jA x.2.1) (fun x y=>y=(fun x=>bQ x.1 x.2.1 x.2.2) x):=
 bO (X:=Tryz.X) Tryz.CT Tryz.func116 (by kernel_rfl) (fun _=>[]) (fun x hw hp=>Ev x.1 x.2.1 x.2.2 hw hp)
noncomputable def Tryz.wb:List (FuncId × (Bool × bA)):=[(116,(true,aR [.slice aA, .slice (.int .i64),aH] [.int .i64, .err] (fun x=>eg x.1/\x.2.1.length=x.1.length/\jA x.2.1) (fun x=>bQ x.1 x.2.1 x.2.2)))]
theorem Tryz.At:bM Tryz.prog Tryz.B Tryz.X Tryz.wb:=
 aX (aE Tryz.Ew) (bY Tryz.bZ)
theorem H8 (l:List (D aA)) (b:List Int) (i:Int) (t:D aH) (hw:dN [.slice aA, .slice (.int .i64), .int .i64,aH] (l,b,i,t)) (hp:(fun x=>eg x.1/\x.2.1.length=x.1.length/\jA x.2.1/\0<=x.2.2.1/\x.2.2.1 < x.1.length/\Small x.2.2.2.1/\Word x.2.2.2.2.2.1) (l,b,i,t)):(cg Tryz.B Tryz.wb Tryz.f81 [] [.slice aA, .slice (.int .i64), .int .i64,aH] [.int .i64, .err] (fun x y=>y=(fun x=>cA x.1 x.2.1 x.2.2.1 x.2.2.2) x) (l,b,i,t)).holds:=by
 refine holds_of (p:=
  let za:=(0:Int)<=i/\i < (↑(List.length b):Int)
  let zb:=nth (Ty.int IntKind.i64) b (Int.toNat i)
  let zc:=t.2.2.1
  let zd:=zb + zc
  let ze:=bQ l b t
  let zf:=cA l b i t
  let zg:=ze.1 + zc
  let zh:=t.2.1 == (3:Int)
  let zi:=zb + t.1
  let zj:=aM zi
  let zk:=zg - zi
  let zl:=((0:Int),aY.no (7:Int))=zf
  let zm:=(-2147483648:Int)
  let zn:=zd - zi
  (za)/\((aM zb)->((aM zc)->(aM zd)/\(((t.2.1 != (1:Int))=true->(eg l/\List.length b=List.length l/\jA b)/\(((!aY.isNil ze.2)=true->(((0:Int),ze.2)=zf))/\((!aY.isNil ze.2)=false->((aM ze.1)->((aM zc)->(aM zg)/\(((zh)=true->(za)/\((aM zb)->((aM t.1)->(zj)/\((aM zg)->((zj)->(aM zk)/\(((decide (zk < (-500:Int)))=true->(zl))/\((decide (zk < (-500:Int)))=false->(((decide (zk > (500:Int)))=true->(zl))/\((decide (zk > (500:Int)))=false->(((decide (zk < zm))=true->(zl))/\((decide (zk < zm))=false->(((decide (zk > (2147483647:Int)))=true->(zl))/\((decide (zk > (2147483647:Int)))=false->((zk,aY.nil)=zf))))))))))))))/\((zh)=false->(((decide (zg < zm))=true->(zl))/\((decide (zg < zm))=false->(((decide (zg > (2147483647:Int)))=true->(zl))/\((decide (zg > (2147483647:Int)))=false->((zg,aY.nil)=zf))))))))))))/\((t.2.1 != (1:Int))=false->(((zh)=true->(za)/\((aM zb)->((aM t.1)->(zj)/\((aM zd)->((zj)->(aM zn)/\(((decide (zn < (-500:Int)))=true->(zl))/\((decide (zn < (-500:Int)))=false->(((decide (zn > (500:Int)))=true->(zl))/\((decide (zn > (500:Int)))=false->(((decide (zn < zm))=true->(zl))/\((decide (zn < zm))=false->(((decide (zn > (2147483647:Int)))=true->(zl))/\((decide (zn > (2147483647:Int)))=false->((zn,aY.nil)=zf))))))))))))))/\((zh)=false->(((decide (zd < zm))=true->(zl))/\((decide (zd < zm))=false->(((decide (zd > (2147483647:Int)))=true->(zl))/\((decide (zd > (2147483647:Int)))=false->((zd,aY.nil)=zf)))))))))))) (by kernel_rfl) ?_
 dsimp -iota -proj -eta only
 dsimp only at hp
 refine ⟨?a,fun h0 h1=>⟨?b,iN (fun h2=>⟨(by simp_all),iB (fun h3=>((uA (by assumption) (by assumption)).symm)) (fun h3 h4 h5=>⟨?c,iQ (fun h6=>⟨?d,fun h7 h8=>⟨?e,fun h9 h10=>⟨?f,iL (fun h11 => ?g) (fun h11=>iL (fun h12 => ?h) (fun h12=>iL (fun h13 => ?i) (fun h13=>iL (fun h14 => ?j) (fun h14=>(by rw [ln (by assumption) (by assumption),G5 (by assumption) rfl (by dsimp only [D] at *;omega)])))))⟩⟩⟩) (fun h6=>iL (fun h7 => ?k) (fun h7=>iL (fun h8 => ?l) (fun h8=>(by rw [ln (by assumption) (by assumption),uB (by assumption) rfl (by dsimp only [D] at *;omega)]))))⟩)⟩) (fun h2=>iQ (fun h3=>⟨?m,fun h4 h5=>⟨?n,fun h6 h7=>⟨?o,iL (fun h8 => ?p) (fun h8=>iL (fun h9 => ?q) (fun h9=>iL (fun h10 => ?r) (fun h10=>iL (fun h11 => ?s) (fun h11 => ?t))))⟩⟩⟩) (fun h3=>iL (fun h4 => ?u) (fun h4=>iL (fun h5 => ?v) (fun h5=>(by rw [r6 (by assumption),uB (by simp_all) rfl (by dsimp only [D] at *;omega)])))))⟩⟩
 case a|d|i|j|m|r|s=>omega
 case b|c|e|f|n|o=>
  have hb:=jO hp.2.2.1 hp.2.1 hp.2.2.2.1 hp.2.2.2.2.1;have ht:=pS t hp.1 hp.2.1 hp.2.2.1;have hs:=hp.2.2.2.2.2;unfold Small Word at hs;dsimp only [D] at *
  simp only [aM];omega
 case g|h=>rw [ln (by assumption) (by assumption),Fu (by assumption) (by dsimp only [D] at *;omega)]
 case k|l=>
  have hb:=jO hp.2.2.1 hp.2.1 hp.2.2.2.1 hp.2.2.2.2.1;have ht:=pS t hp.1 hp.2.1 hp.2.2.1;have hs:=hp.2.2.2.2.2;unfold Small Word at hs;dsimp only [D] at *
  first | omega | (rw [ln (by assumption) (by assumption),xR (by assumption) (by omega)])
 case p|q|t=>dsimp only [D] at *;omega
 case u|v=>
  have hb:=jO hp.2.2.1 hp.2.1 hp.2.2.2.1 hp.2.2.2.2.1;have ht:=pS t hp.1 hp.2.1 hp.2.2.1;have hs:=hp.2.2.2.2.2;unfold Small Word at hs;dsimp only [D] at *
  first | omega | (rw [r6 (by assumption),xR (by simp_all) (by omega)])
theorem Tryz.H9:bB Tryz.prog Tryz.B.eT Tryz.X 81 [.slice aA, .slice (.int .i64), .int .i64,aH] [.int .i64, .err] (fun x=>eg x.1/\x.2.1.length=x.1.length/\jA x.2.1/\0<=x.2.2.1/\x.2.2.1 < x.1.length/\Small x.2.2.2.1/\Word x.2.2.2.2.2.1) (fun x y=>y=(fun x=>cA x.1 x.2.1 x.2.2.1 x.2.2.2) x):=
 bO (X:=Tryz.X) Tryz.At Tryz.func81 (by kernel_rfl) (fun _=>[]) (fun x hw hp=>H8 x.1 x.2.1 x.2.2.1 x.2.2.2 hw hp)
noncomputable def Tryz.wc:List (FuncId × (Bool × bA)):=[(81,(true,aR [.slice aA, .slice (.int .i64), .int .i64,aH] [.int .i64, .err] (fun x=>eg x.1/\x.2.1.length=x.1.length/\jA x.2.1/\0<=x.2.2.1/\x.2.2.1 < x.1.length/\Small x.2.2.2.1/\Word x.2.2.2.2.2.1) (fun x=>cA x.1 x.2.1 x.2.2.1 x.2.2.2)))]
theorem Tryz.Au:bM Tryz.prog Tryz.B Tryz.X Tryz.wc:=
 aX (aE Tryz.H9) (bY Tryz.bZ)
def Ey (l:List (D aA)) (b:List Int):cp:=[
 (0,fun st=>{X:=Nat,inv:=fun i=>i<=b.length/\∀j,j < i->0<=(nth (.int .i64) b j:Int)/\(nth (.int .i64) b j:Int)<=256,bC:=fun i=>b.length - i,bk:=fun i=>[(23,sI i)],bn:=[0,1,21,22]}),
 (2,fun st=>{X:=Nat × List (D bt),inv:=fun x=>x.1<=l.length/\gX l b (l.drop x.1) x.1 x.2=gX l b l 0 []/\x.2.length<=10 * x.1,bC:=fun x=>l.length - x.1,bk:=fun x=>[(37,sI x.1),(8, .s (.one (.app bt x.2 (bI st 8))))],aC:=fun x=>[(bI st 8, .tok bt x.2)],bn:=[0,1,35,36],eH:=[bI st 8]}),
 (4,fun st=>{X:=Nat × List (D bt),inv:=fun x=>x.1<=(nth aA l (bS (.int .i64) st 37).toNat).2.2.2.1.length/\iz (gX l b (l.drop ((bS (.int .i64) st 37).toNat + 1)) ((bS (.int .i64) st 37).toNat + 1)) (ic l b (bS (.int .i64) st 37).toNat ((nth aA l (bS (.int .i64) st 37).toNat).2.2.2.1.drop x.1) x.2)=gX l b l 0 []/\x.2.length<=10 * (bS (.int .i64) st 37).toNat + x.1,bC:=fun x=>(nth aA l (bS (.int .i64) st 37).toNat).2.2.2.1.length - x.1,bk:=fun x=>[(45,sI x.1),(8, .s (.one (.app bt x.2 (bI st 8))))],aC:=fun x=>[(bI st 8, .tok bt x.2)],bn:=[0,1,9,10,35,36,37,38,39,40,41,42,43,44],eH:=[bI st 8]})]
theorem Ia (l:List (D aA)) (b:List Int) (hw:dN [.slice aA, .slice (.int .i64)] (l,b)) (hp:(fun x=>eg x.1) (l,b)):(cg Tryz.B Tryz.wc Tryz.f35 (Ey l b) [.slice aA, .slice (.int .i64)] [.slice bt, .err] (fun x y=>y=(fun x=>dx x) x) (l,b)).holds:=by
 refine holds_of (p:=
  let za:=List.length b
  let zb:=List.length l
  let zc:=dx (l,b)
  let zd:=Ty.int IntKind.i64
  let ze:=([],aY.no (1:Int))=zc
  let zf:=aM (1:Int)
  let zg:=@List.nil (Int × Int × Int × Unit) = @List.nil (Int × Int × Int × Unit)/\True
  let zh:=Nat × List (Int × Int × Int × Unit)
  let zi:=gX l b l (0:Nat) (@List.nil Pt)
  let zj:=fun (x_1:Nat × List (Int × Int × Int × Unit))=>(10:Nat) * x_1.1
  let zk:=fun (x_1:Nat × List (Int × Int × Int × Unit))=>(↑x_1.1:Int)
  let zl:=fun (x_1:Nat × List (Int × Int × Int × Unit))=>zk x_1 < (↑zb:Int)
  let zm:=fun (x_1:Nat × List (Int × Int × Int × Unit))=>(0:Int)<=zk x_1
  let zn:=fun (x_1:Nat × List (Int × Int × Int × Unit))=>(nth aA l x_1.1).2.2.2.1
  let zo:=fun (x_1:Nat × List (Int × Int × Int × Unit))=>List.length (zn x_1)
  let zp:=fun (x_1:Nat × List (Int × Int × Int × Unit))=>gX l b (List.drop (x_1.1 + (1:Nat)) l) (x_1.1 + (1:Nat))
  let zq:=fun (x_1 x_2:Nat × List (Int × Int × Int × Unit))=>(cA l b (zk x_1) (nth aH (zn x_1) x_2.1)).2
  let zr:=fun (x_1 x_2:Nat × List (Int × Int × Int × Unit))=>[(zk x_1,(nth aH (zn x_1) x_2.1).1,(cA l b (zk x_1) (nth aH (zn x_1) x_2.1)).1,())]
  ((za<=aL)->((zb<=aL)->((((↑za:Int) != (↑zb:Int))=true->(([],aY.no (3:Int))=zc))/\(((↑za:Int) != (↑zb:Int))=false->((za<=aL)->(∃(x:Nat),(x<=za/\∀(j:Nat),j < x->(0:Int)<=nth zd b j/\nth zd b j<=(256:Int))/\((0:Int)=(↑x:Int)/\True)/\True)/\(∀x_0:Nat,((x_0<=za/\∀(j:Nat),j < x_0->(0:Int)<=nth zd b j/\nth zd b j<=(256:Int))->(((decide ((↑x_0:Int) < (↑za:Int)))=true->((0:Int)<=(↑x_0:Int)/\(↑x_0:Int) < (↑za:Int))/\(((decide (nth zd b x_0 < (0:Int)))=true->(ze))/\((decide (nth zd b x_0 < (0:Int)))=false->(((decide (nth zd b x_0 > (256:Int)))=true->(ze))/\((decide (nth zd b x_0 > (256:Int)))=false->((aM (↑x_0:Int))->((zf)->(aM ((↑x_0:Int) + (1:Int)))/\(∃(x':Nat),(x'<=za/\∀(j:Nat),j < x'->(0:Int)<=nth zd b j/\nth zd b j<=(256:Int))/\za - x' < za - x_0/\((↑x_0:Int) + (1:Int)=(↑x':Int)/\True)/\zg))))))))/\((decide ((↑x_0:Int) < (↑za:Int)))=false->((zb<=aL)->(∃(x:zh),(Prod.fst x<=zb/\gX l b (List.drop (Prod.fst x) l) (Prod.fst x) (Prod.snd x)=zi/\List.length (Prod.snd x)<=(10:Nat) * Prod.fst x)/\((0:Int)=(↑(Prod.fst x):Int)/\@List.nil (Int × Int × Int × Unit)=Prod.snd x/\True)/\@List.nil (Int × Int × Int × Unit)=Prod.snd x/\True)/\(∀x_1:Nat × List (Int × Int × Int × Unit),((x_1.1<=zb/\gX l b (List.drop x_1.1 l) x_1.1 x_1.2=zi/\List.length x_1.2<=zj x_1)->(((decide (zl x_1))=true->(zm x_1/\zl x_1)/\((zo x_1<=aL)->(∃(x:zh),(Prod.fst x<=zo x_1/\iz (zp x_1) (ic l b x_1.1 (List.drop (Prod.fst x) (zn x_1)) (Prod.snd x))=zi/\List.length (Prod.snd x)<=zj x_1 + Prod.fst x)/\((0:Int)=(↑(Prod.fst x):Int)/\x_1.2=Prod.snd x/\True)/\x_1.2=Prod.snd x/\True)/\(∀x_2:Nat × List (Int × Int × Int × Unit),((x_2.1<=zo x_1/\iz (zp x_1) (ic l b x_1.1 (List.drop x_2.1 (zn x_1)) x_2.2)=zi/\List.length x_2.2<=zj x_1 + x_2.1)->(((decide (zk x_2 < (↑(zo x_1):Int)))=true->(zm x_2/\zk x_2 < (↑(zo x_1):Int))/\(eg l/\za=zb/\jA b/\zm x_1/\zl x_1/\Small (nth aH (zn x_1) x_2.1).1/\Word (nth aH (zn x_1) x_2.1).2.2.1)/\(((!aY.isNil (zq x_1 x_2))=true->(([],zq x_1 x_2)=zc))/\((!aY.isNil (zq x_1 x_2))=false->(x_2.2=x_2.2/\List.length x_2.2 + List.length (zr x_1 x_2)<=(1000000000:Nat))/\((aM (zk x_2))->((zf)->(aM (zk x_2 + (1:Int)))/\(∃(x':zh),(Prod.fst x'<=zo x_1/\iz (zp x_1) (ic l b x_1.1 (List.drop (Prod.fst x') (zn x_1)) (Prod.snd x'))=zi/\List.length (Prod.snd x')<=zj x_1 + Prod.fst x')/\zo x_1 - Prod.fst x' < zo x_1 - x_2.1/\(zk x_2 + (1:Int)=(↑(Prod.fst x'):Int)/\x_2.2++zr x_1 x_2=Prod.snd x'/\True)/\x_2.2++zr x_1 x_2=Prod.snd x'/\((nth aA l x_1.1).1=(nth aA l x_1.1).1/\(nth aA l x_1.1).2.1=(nth aA l x_1.1).2.1/\(nth aA l x_1.1).2.2.1=(nth aA l x_1.1).2.2.1/\zn x_1=zn x_1/\True)/\@List.nil (Int × Int × Int × List UInt8 × Bool × Unit) = @List.nil (Int × Int × Int × List UInt8 × Bool × Unit)/\@List.nil (List UInt8 × Int × Bool × Unit) = @List.nil (List UInt8 × Int × Bool × Unit)/\@List.nil Int = @List.nil Int/\@List.nil (List UInt8) = @List.nil (List UInt8)/\zg))))))/\((decide (zk x_2 < (↑(zo x_1):Int)))=false->((aM (zk x_1))->((zf)->(aM (zk x_1 + (1:Int)))/\(∃(x':zh),(Prod.fst x'<=zb/\gX l b (List.drop (Prod.fst x') l) (Prod.fst x') (Prod.snd x')=zi/\List.length (Prod.snd x')<=(10:Nat) * Prod.fst x')/\zb - Prod.fst x' < zb - x_1.1/\(zk x_1 + (1:Int)=(↑(Prod.fst x'):Int)/\x_2.2=Prod.snd x'/\True)/\x_2.2=Prod.snd x'/\zg)))))))))/\((decide (zl x_1))=false->((x_1.2,aY.nil)=zc)))))))))))))))) (by kernel_rfl) ?_
 dsimp -iota -proj -eta only
 dsimp only at hp
 refine fun h0 h1=>iN (fun h2=>((Ft (by omega)).symm)) (fun h2 h3=>⟨(⟨0,⟨by omega,fun j hj=>by omega⟩,⟨rfl,trivial⟩,trivial⟩),fun x_0 q_0=>iL (fun h4=>⟨?a,iL (fun h5 => ?b) (fun h5=>iL (fun h6 => ?c) (fun h6 h7 h8=>⟨?d,(⟨x_0 + 1,⟨by omega,kj q_0.2 (by dsimp only [D] at *;omega)⟩,by omega,⟨by omega,trivial⟩,(by trivial)⟩)⟩))⟩) (fun h4 h5=>⟨(⟨(0,[]),⟨by omega,rfl,by simp⟩,(by trivial),(by trivial)⟩),fun x_1 q_1=>iL (fun h6=>⟨?e,fun h7=>⟨(by exact ⟨(0,x_1.2),⟨by omega,by rw [<-DJ (by omega)];exact q_1.2.1,by simp only;omega⟩,(by trivial),(by trivial)⟩),fun x_2 q_2=>iL (fun h8=>⟨?f,?g,iB (fun h9 => ?h) (fun h9=>⟨?i,fun h10 h11=>⟨?j,?k⟩⟩)⟩) (fun h8 h9 h10=>⟨?l,?m⟩)⟩⟩) (fun h6 => ?n)⟩)⟩)
 case a|e|f=>omega
 case b|c=>exact (DK (i:=x_0) (by omega) (by omega) (by dsimp only [D] at *;omega)).symm
 case d|j|l=>simp only [aM,aL] at *;omega
 case g=>
  have hlen:b.length=l.length:=(by omega);have hib:jA b:=fun j hj=>q_0.2 j (by omega)
  have hm:=hp.2 x_1.1 (by omega);have htk:=hm.2.2 x_2.1 (by omega);have hb:=jO (i:=(x_1.1:Int)) hib hlen (by omega) (by omega);unfold Small Word at htk;rw [Int.toNat_natCast] at hb
  exact ⟨hp,hlen,hib,by omega,by omega,htk.1,htk.2⟩
 case h=>
  have hlen:b.length=l.length:=(by omega);have hib:jA b:=fun j hj=>q_0.2 j (by omega)
  rw [uz hlen hib,<-q_2.2.1,G3 (by omega) (by assumption)]
 case i=>
  have hlen:b.length=l.length:=(by omega);have hib:jA b:=fun j hj=>q_0.2 j (by omega)
  have hm:=hp.2 x_1.1 (by omega);have htk:=hm.2.2 x_2.1 (by omega);have hb:=jO (i:=(x_1.1:Int)) hib hlen (by omega) (by omega);unfold Small Word at htk;rw [Int.toNat_natCast] at hb
  have:=hm.1;have:=hp.1
  exact ⟨rfl,by simp only [List.length_singleton,aL];omega⟩
 case k=>
  have ho:(cA l b x_1.1 (nth aH (nth aA l x_1.1).2.2.2.1 x_2.1)).2.isNil=true:=by assumption
  exact ⟨(x_2.1 + 1,_),⟨by omega,by rw [<-q_2.2.1,HW (k:=x_2.1) (by omega) ho],by simp only [List.length_append,List.length_singleton];omega⟩,by simp only;omega,⟨by simp only;omega,rfl,trivial⟩,(by trivial)⟩
 case m=>
  have hm:=hp.2 x_1.1 (by omega)
  exact ⟨(x_1.1 + 1,x_2.2),⟨by omega,by rw [<-q_2.2.1,G4 (by omega)],by have:=hm.1;simp only;omega⟩,by simp only;omega,⟨by simp only;omega,rfl,trivial⟩,(by trivial)⟩
 case n=>
  have hlen:b.length=l.length:=(by omega);have hib:jA b:=fun j hj=>q_0.2 j (by omega)
  rw [uz hlen hib,<-q_1.2.1,G2 (by omega)]
theorem Tryz.Ib:bB Tryz.prog Tryz.B.eT Tryz.X 35 [.slice aA, .slice (.int .i64)] [.slice bt, .err] (fun x=>eg x.1) (fun x y=>y=(fun x=>dx x) x):=
 bO (X:=Tryz.X) Tryz.Au Tryz.func35 (by kernel_rfl) (fun x=>Ey x.1 x.2) (fun x hw hp=>Ia x.1 x.2 hw hp)
end Go.Proofs.YtgokjhhcfemnhacGreatDoor

namespace Go.Proofs.YtgokjhhcfemnhacGreatDoor
open Go.Vg Go.Mrl
def Ez (w:List (List Int)) (l:List (D bt)):cp:=[
 (200000,fun st=>{X:=Nat,inv:=fun i=>i<=w.length,bC:=fun i=>w.length - i,bk:=fun i=>[(13,sI i)],aN:=[.ext 0 fR],refs:=[(6,0)],pd:=fun i=>(w.take i,()),bn:=[1,4,5,11,12]}),
 (2,fun st=>{X:=Nat,inv:=fun k=>k<=l.length/\∀j,j < k->mo w (nth bt l j),bC:=fun k=>l.length - k,bk:=fun k=>[(25,sI k)],aC:=fun k=>[(bI st 6, .ext 0 fR (cK w (l.take k)))],bn:=[6,23,24],eH:=[bI st 6]})]
theorem Ic (w:List (List Int)) (l:List (D bt)) (hw:dN [fR, .slice bt] (w,l)) (hp:(fun x=>x.1.length<=100000/\∀i,i < x.1.length->(nth cq x.1 i).length<=100000000) (w,l)):(cg (kV Tryz.B [6]) [] Tryz.f36 (Ez w l) [fR, .slice bt] [fR, .err] (fun x y=>y=(fun x=>dw x) x) (w,l)).holds:=by
 refine holds_of (p:=
  let za:=List.length w
  let zb:=@List.nil (List Int) = @List.nil (List Int)/\True
  let zc:=(!false && true)=true
  let zd:=fun (x_0:Nat)=>[nth (Ty.slice (Ty.int IntKind.i64)) w x_0]
  let ze:=fun (x_0:Nat)=>(↑x_0:Int) + (1:Int)
  let zf:=List.length l
  let zg:=fun (x_1:Nat)=>(nth bt l x_1).1
  let zh:=([],aY.no (1:Int))=dw (w,l)
  let zi:=fun (x_1:Nat)=>cK w (List.take x_1 l)
  let zj:=fun (x_1:Nat)=>(nth bt l x_1).2.1
  let zk:=fun (x_1:Nat)=>(0:Int)<=zg x_1/\zg x_1 < (↑(List.length (zi x_1)):Int)
  let zl:=fun (x_1:Nat)=>Int.toNat (zg x_1) < List.length (zi x_1)
  let zm:=fun (x_1:Nat)=>nth cq (zi x_1) (Int.toNat (zg x_1))
  ((za<=aL)->(((∃(x':Nat),x'<=za/\True/\((0:Int)=(↑x':Int)/\True)/\zb/\zc/\([],())=(List.take x' w,())))/\((∀x_0:Nat,((x_0<=za)->(((decide ((↑x_0:Int) < (↑za:Int)))=true->((0:Int)<=(↑x_0:Int)/\(↑x_0:Int) < (↑za:Int))/\(List.length (nth (Ty.slice (Ty.int IntKind.i64)) w x_0)<=(1000000000:Nat))/\((0:Nat) < List.length (zd x_0)/\List.length (List.take x_0 w) + List.length (zd x_0)<=(1000000000:Nat))/\((aM (↑x_0:Int))->((aM (1:Int))->(aM (ze x_0))/\(∃(x':Nat),x'<=za/\za - x' < za - x_0/\(ze x_0=(↑x':Int)/\True)/\zb/\zc/\(List.take x_0 w++zd x_0,())=(List.take x' w,())))))/\((decide ((↑x_0:Int) < (↑za:Int)))=false->((zf<=aL)->(∃(x:Nat),(x<=zf/\∀(j:Nat),j < x->mo w (nth bt l j))/\((0:Int)=(↑x:Int)/\True)/\List.take x_0 w=cK w (List.take x l)/\True)/\(∀x_1:Nat,((x_1<=zf/\∀(j:Nat),j < x_1->mo w (nth bt l j))->(((decide ((↑x_1:Int) < (↑zf:Int)))=true->((0:Int)<=(↑x_1:Int)/\(↑x_1:Int) < (↑zf:Int))/\(((decide (zg x_1 < (0:Int)))=true->(zh))/\((decide (zg x_1 < (0:Int)))=false->((List.length (zi x_1)<=aL)->(((decide (zg x_1>=(↑(List.length (zi x_1)):Int)))=true->(zh))/\((decide (zg x_1>=(↑(List.length (zi x_1)):Int)))=false->(((decide (zj x_1 < (0:Int)))=true->(zh))/\((decide (zj x_1 < (0:Int)))=false->(zk x_1)/\(zl x_1)/\(zl x_1)/\((List.length (zm x_1)<=aL)->(((decide (zj x_1>=(↑(List.length (zm x_1)):Int)))=true->(zh))/\((decide (zj x_1>=(↑(List.length (zm x_1)):Int)))=false->(zk x_1)/\(zl x_1)/\(zl x_1/\(0:Int)<=zj x_1/\zj x_1 < (↑(List.length (zm x_1)):Int))/\(zl x_1/\Int.toNat (zj x_1) < List.length (zm x_1))/\((aM (↑x_1:Int))->((aM (1:Int))->(aM (ze x_1))/\(∃(x':Nat),(x'<=zf/\∀(j:Nat),j < x'->mo w (nth bt l j))/\zf - x' < zf - x_1/\(ze x_1=(↑x':Int)/\True)/\List.set (zi x_1) (Int.toNat (zg x_1)) (List.set (zm x_1) (Int.toNat (zj x_1)) (nth bt l x_1).2.2.1)=cK w (List.take x' l)/\zb))))))))))))))/\((decide ((↑x_1:Int) < (↑zf:Int)))=false->((zi x_1,aY.nil)=dw (w,l))))))))))))))) (by kernel_rfl) ?_
 dsimp -iota -proj -eta only
 dsimp only at hp
 refine fun h0=>⟨(⟨0,by omega,trivial,⟨rfl,trivial⟩,⟨rfl,trivial⟩,rfl,rfl⟩),fun x_0 q_0=>iL (fun h1=>⟨?a,(by have:=hp.2 x_0 (by omega);show List.length (nth cq w x_0)<=1000000000;omega),(by have:=hp.1;simp only [List.length_singleton,List.length_take,aL];omega),fun h2 h3=>⟨?b,(⟨x_0 + 1,by omega,by omega,⟨by omega,trivial⟩,⟨rfl,trivial⟩,rfl,by rw [iX (t:=cq) (by omega)]⟩)⟩⟩) (fun h1 h2=>⟨(by exact ⟨0,⟨by omega,fun j hj=>by omega⟩,⟨rfl,trivial⟩,by rw [List.take_of_length_le (by omega)];rfl,trivial⟩),fun x_1 q_1=>iL (fun h3=>⟨?c,iL (fun h4 => ?d) (fun h4 h5=>iE (fun h6 => ?e) (fun h6=>iL (fun h7 => ?f) (fun h7=>⟨?g,?h,?i,fun h8=>iE (fun h9 => ?j) (fun h9=>⟨?k,?l,?m,?n,fun h10 h11=>⟨?o,?p⟩⟩)⟩)))⟩) (fun h3=>(by rw [nz fun i hi=>q_1.2 i (by omega),List.take_of_length_le (by omega)]))⟩)⟩
 case a|c=>omega
 case b|o=>simp only [aM,aL] at *;omega
 case d|e|f|j=>
  have hr:=mq (l.take x_1) w (nth bt l x_1).1.toNat;have hll:=kn (l.take x_1) w
  exact (Fo (i:=x_1) (by omega) (by unfold mo;dsimp only [D] at *;omega)).symm
 case g|h|i|k|l|m|n=>
  have hr:=mq (l.take x_1) w (nth bt l x_1).1.toNat;have hll:=kn (l.take x_1) w
  first | omega | (dsimp only [D] at *;omega)
 case p=>
  have hr:=mq (l.take x_1) w (nth bt l x_1).1.toNat;have hll:=kn (l.take x_1) w
  exact ⟨x_1 + 1,⟨by omega,kj q_1.2 (by unfold mo;dsimp only [D] at *;omega)⟩,by omega,⟨by omega,trivial⟩,DH (by omega),(by trivial)⟩
theorem Tryz.Ie:bB Tryz.prog Tryz.B.eT Tryz.X 36 [fR, .slice bt] [fR, .err] (fun x=>x.1.length<=100000/\∀i,i < x.1.length->(nth cq x.1 i).length<=100000000) (fun x y=>y=(fun x=>dw x) x):=
 bO (B:=(kV Tryz.B [6])) (X:=Tryz.X) (bM.hint (l:=[6]) (bY Tryz.bZ)) Tryz.func36 (by kernel_rfl) (fun x=>Ez x.1 x.2) (fun x hw hp=>Ic x.1 x.2 hw hp)
end Go.Proofs.YtgokjhhcfemnhacGreatDoor

namespace Go.Proofs.YtgokjhhcfemnhacGreatDoor
open Go.Vg Go.Mrl
def y5 (l:List (D aA)):cp:=[
 (0,fun st=>{X:=Nat,inv:=fun i=>i<=l.length,bC:=fun i=>l.length - i,bk:=fun i=>[(8,sI i),(3, .s (.one (.app (.int .i64) (br (l.take i)) (bI st 3))))],aC:=fun i=>[(bI st 3, .tok (.int .i64) (br (l.take i)))],bn:=[2,6,7],eH:=[bI st 3]})]
theorem EA (l:List (D aA)) (hw:dN [.slice aA] l) (hp:(fun l=>l.length<=1000) l):(cg Tryz.B [] Tryz.f114 (y5 l) [.slice aA] [.slice (.int .i64)] (fun x y=>y=(fun l=>br l) x) l).holds:=by
 refine holds_of (p:=
  let za:=List.length l
  let zb:=fun (x_0:Nat)=>List.length (nth aA l x_0).2.1
  let zc:=fun (x_0:Nat)=>br (List.take x_0 l)
  let zd:=fun (x_0:Nat)=>zc x_0++[(↑(zb x_0):Int)]
  ((za<=aL)->(∃(x:Nat),x<=za/\((0:Int)=(↑x:Int)/\@List.nil Int=br (List.take x l)/\True)/\@List.nil Int=br (List.take x l)/\True)/\(∀x_0:Nat,((x_0<=za)->(((decide ((↑x_0:Int) < (↑za:Int)))=true->((0:Int)<=(↑x_0:Int)/\(↑x_0:Int) < (↑za:Int))/\((zb x_0<=aL)->(zc x_0=zc x_0/\List.length (zc x_0) + List.length [(↑(zb x_0):Int)]<=(1000000000:Nat))/\((aM (↑x_0:Int))->((aM (1:Int))->(aM ((↑x_0:Int) + (1:Int)))/\(∃(x':Nat),x'<=za/\za - x' < za - x_0/\((↑x_0:Int) + (1:Int)=(↑x':Int)/\zd x_0=br (List.take x' l)/\True)/\zd x_0=br (List.take x' l)/\@List.nil Int = @List.nil Int/\True)))))/\((decide ((↑x_0:Int) < (↑za:Int)))=false->(zc x_0=br l))))))) (by kernel_rfl) ?_
 dsimp -iota -proj -eta only
 exact fun h0=>⟨(⟨0,by omega,⟨rfl,rfl,trivial⟩,rfl,trivial⟩),fun x_0 q_0=>iL (fun h1=>⟨(by omega),fun h2=>⟨(by exact ⟨rfl,by rw [kY,List.length_take];simp only [List.length_singleton];omega⟩),fun h3 h4=>⟨(by simp only [aM,aL] at *;omega),(⟨x_0 + 1,by omega,by omega,⟨by omega,(rj (by omega)).symm,trivial⟩,(rj (by omega)).symm,(by trivial)⟩)⟩⟩⟩) (fun h1=>(by rw [List.take_of_length_le (by omega)]))⟩
theorem Tryz.EB:bB Tryz.prog Tryz.B.eT Tryz.X 114 [.slice aA] [.slice (.int .i64)] (fun l=>l.length<=1000) (fun x y=>y=(fun l=>br l) x):=
 bO (X:=Tryz.X) (bY Tryz.bZ) Tryz.func114 (by kernel_rfl) (fun x=>y5 x) (fun x hw hp=>EA x hw hp)
def y7 (l:List (D aA)):cp:=[
 (0,fun st=>{X:=Nat,inv:=fun i=>i<=l.length,bC:=fun i=>l.length - i,bk:=fun i=>[(8,sI i),(3, .s (.one (.app cq (bm (l.take i)) (bI st 3))))],aC:=fun i=>[(bI st 3, .tok cq (bm (l.take i)))],bn:=[2,6,7],eH:=[bI st 3]})]
theorem EC (l:List (D aA)) (hw:dN [.slice aA] l) (hp:(fun l=>l.length<=1000) l):(cg Tryz.B [] Tryz.f115 (y7 l) [.slice aA] [fR] (fun x y=>y=(fun l=>bm l) x) l).holds:=by
 refine holds_of (p:=
  let za:=List.length l
  let zb:=fun (x_0:Nat)=>bm (List.take x_0 l)
  let zc:=fun (x_0:Nat)=>zb x_0++[(nth aA l x_0).2.1]
  ((za<=aL)->(∃(x:Nat),x<=za/\((0:Int)=(↑x:Int)/\@List.nil (List Int)=bm (List.take x l)/\True)/\@List.nil (List Int)=bm (List.take x l)/\True)/\(∀x_0:Nat,((x_0<=za)->(((decide ((↑x_0:Int) < (↑za:Int)))=true->((0:Int)<=(↑x_0:Int)/\(↑x_0:Int) < (↑za:Int))/\(zb x_0=zb x_0/\List.length (zb x_0) + List.length [(nth aA l x_0).2.1]<=(1000000000:Nat))/\((aM (↑x_0:Int))->((aM (1:Int))->(aM ((↑x_0:Int) + (1:Int)))/\(∃(x':Nat),x'<=za/\za - x' < za - x_0/\((↑x_0:Int) + (1:Int)=(↑x':Int)/\zc x_0=bm (List.take x' l)/\True)/\zc x_0=bm (List.take x' l)/\@List.nil (List Int) = @List.nil (List Int)/\True))))/\((decide ((↑x_0:Int) < (↑za:Int)))=false->(zb x_0=bm l))))))) (by kernel_rfl) ?_
 dsimp -iota -proj -eta only
 exact fun h0=>⟨(⟨0,by omega,⟨rfl,rfl,trivial⟩,rfl,trivial⟩),fun x_0 q_0=>iL (fun h1=>⟨(by omega),(by exact ⟨rfl,by rw [gR,List.length_take];simp only [List.length_singleton];omega⟩),fun h2 h3=>⟨(by simp only [aM,aL] at *;omega),(⟨x_0 + 1,by omega,by omega,⟨by omega,(rk (by omega)).symm,trivial⟩,(rk (by omega)).symm,(by trivial)⟩)⟩⟩) (fun h1=>(by rw [List.take_of_length_le (by omega)]))⟩
theorem Tryz.ED:bB Tryz.prog Tryz.B.eT Tryz.X 115 [.slice aA] [fR] (fun l=>l.length<=1000) (fun x y=>y=(fun l=>bm l) x):=
 bO (X:=Tryz.X) (bY Tryz.bZ) Tryz.func115 (by kernel_rfl) (fun x=>y7 x) (fun x hw hp=>EC x hw hp)
noncomputable def Tryz.EE:List (FuncId × (Bool × bA)):=[(115,(true,aR [.slice aA] [fR] (fun l=>l.length<=1000) (fun l=>bm l))),
 (36,(true,aR [fR, .slice bt] [fR, .err] (fun x=>x.1.length<=100000/\∀i,i < x.1.length->(nth cq x.1 i).length<=100000000) (fun x=>dw x)))]
theorem Tryz.Gg:bM Tryz.prog Tryz.B Tryz.X Tryz.EE:=
 aX (aE Tryz.ED) (aX (aE Tryz.Ie) (bY Tryz.bZ))
noncomputable def EF (ns:List (List UInt8)) (bs:List Int) (os:List (D aA)) (ps:List (D bt)):cp:=[
 (0,fun st=>{X:=Nat,inv:=fun i=>i<=os.length,bC:=fun i=>os.length - i,bk:=fun i=>[(39,sI i),(12, .s (.one (.app ba (cw ns bs (dw (bm os,ps)).1 i) (bI st 12))))],aC:=fun i=>[(bI st 12, .tok ba (cw ns bs (dw (bm os,ps)).1 i))],bn:=[0,1,8,9,10,38],eH:=[bI st 12]})]
theorem Ig (ns:List (List UInt8)) (bs:List Int) (os:List (D aA)) (ps:List (D bt)) (hw:dN [.slice .str, .slice (.int .i64), .slice aA, .slice bt] (ns,bs,os,ps)) (hp:(fun x=>x.2.2.1.length<=1000/\∀i,i < x.2.2.1.length->(nth aA x.2.2.1 i).2.1.length<=1000) (ns,bs,os,ps)):(cg Tryz.B Tryz.EE Tryz.f80 (EF ns bs os ps) [.slice .str, .slice (.int .i64), .slice aA, .slice bt] [.slice ba, .err] (fun x y=>y=(fun x=>gb x.1 x.2.1 x.2.2.1 x.2.2.2) x) (ns,bs,os,ps)).holds:=by
 refine holds_of (p:=
  let za:=List.length os
  let zb:=za<=aL
  let zc:=(↑(List.length ns):Int)
  let zd:=(↑za:Int)
  let ze:=gb ns bs os ps
  let zf:=([],aY.no (3:Int))=ze
  let zg:=(↑(List.length bs):Int)
  let zh:=bm os
  let zi:=dw (zh,ps)
  let zj:=(dw (zh,ps)).1
  let zk:=fun (x_0:Nat)=>(↑x_0:Int)
  let zl:=fun (x_0:Nat)=>(0:Int)<=zk x_0
  let zm:=fun (x_0:Nat)=>cw ns bs zj x_0
  let zn:=fun (x_0:Nat)=>[(nth Ty.str ns x_0,nth (Ty.int IntKind.i64) bs x_0,nth (Ty.slice (Ty.int IntKind.i64)) zi.1 x_0,())]
  ((List.length ns<=aL)->((zb)->(((zc != zd)=true->(zf))/\((zc != zd)=false->((List.length bs<=aL)->((zb)->(((zg != zd)=true->(zf))/\((zg != zd)=false->(za<=(1000:Nat))/\(List.length zh<=(100000:Nat)/\∀(i:Nat),i < List.length zh->List.length (nth cq zh i)<=(100000000:Nat))/\(((!aY.isNil zi.2)=true->(([],zi.2)=ze))/\((!aY.isNil zi.2)=false->((zb)->(∃(x:Nat),x<=za/\((0:Int)=(↑x:Int)/\@List.nil (List UInt8 × Int × List Int × Unit)=cw ns bs zj x/\True)/\@List.nil (List UInt8 × Int × List Int × Unit)=cw ns bs zj x/\True)/\(∀x_0:Nat,((x_0<=za)->(((decide (zk x_0 < zd))=true->(zl x_0/\zk x_0 < zc)/\(zl x_0/\zk x_0 < zg)/\(zl x_0/\zk x_0 < (↑(List.length zi.1):Int))/\(zm x_0=zm x_0/\List.length (zm x_0) + List.length (zn x_0)<=(1000000000:Nat))/\((aM (zk x_0))->((aM (1:Int))->(aM (zk x_0 + (1:Int)))/\(∃(x':Nat),x'<=za/\za - x' < za - x_0/\(zk x_0 + (1:Int)=(↑x':Int)/\zm x_0++zn x_0=cw ns bs zj x'/\True)/\zm x_0++zn x_0=cw ns bs zj x'/\@List.nil (List UInt8 × Int × List Int × Unit) = @List.nil (List UInt8 × Int × List Int × Unit)/\True))))/\((decide (zk x_0 < zd))=false->((zm x_0,aY.nil)=ze))))))))))))))))) (by kernel_rfl) ?_
 dsimp -iota -proj -eta only
 dsimp only at hp
 refine fun h0 h1=>iN (fun h2=>((tS (.inl (by omega))).symm)) (fun h2 h3 h4=>iN (fun h5=>((tS (.inr (by omega))).symm)) (fun h5=>⟨?a,(Hc hp),iB (fun h6=>((FL (by omega) (by omega) h6).symm)) (fun h6 h7=>⟨(⟨0,by omega,⟨rfl,rfl,trivial⟩,rfl,trivial⟩),fun x_0 q_0=>iL (fun h8=>⟨?b,?c,(by rw [Fs (by assumption),gR];omega),(by exact ⟨rfl,by rw [la];simp only [List.length_singleton];omega⟩),fun h9 h10=>⟨(by simp only [aM,aL] at *;omega),(⟨x_0 + 1,by omega,by omega,⟨by omega,(rm _ _ _ _).symm,trivial⟩,(rm _ _ _ _).symm,(by trivial)⟩)⟩⟩) (fun h8=>(by rw [uF (by omega) (by omega) (by assumption),show x_0=os.length by omega]))⟩)⟩))
 case a|b|c=>omega
theorem Tryz.Ih:bB Tryz.prog Tryz.B.eT Tryz.X 80 [.slice .str, .slice (.int .i64), .slice aA, .slice bt] [.slice ba, .err] (fun x=>x.2.2.1.length<=1000/\∀i,i < x.2.2.1.length->(nth aA x.2.2.1 i).2.1.length<=1000) (fun x y=>y=(fun x=>gb x.1 x.2.1 x.2.2.1 x.2.2.2) x):=
 bO (X:=Tryz.X) Tryz.Gg Tryz.func80 (by kernel_rfl) (fun x=>EF x.1 x.2.1 x.2.2.1 x.2.2.2) (fun x hw hp=>Ig x.1 x.2.1 x.2.2.1 x.2.2.2 hw hp)
def GG (l:List (D ba)) (a:Int):cp:=[
 (0,fun st=>{X:=Nat,inv:=fun i=>i<=l.length/\fv (l.drop i) a=fv l a,bC:=fun i=>l.length - i,bk:=fun i=>[(10,sI i)],bn:=[1,8,9]})]
theorem Ii (l:List (D ba)) (a:Int) (hw:dN [.slice ba, .int .i64] (l,a)) (hp:(fun x=>yn x.1) (l,a)):(cg Tryz.B [] Tryz.f43 (GG l a) [.slice ba, .int .i64] [.int .i64, .bool] (fun x y=>y=(fun x=>fv x.1 x.2) x) (l,a)).holds:=by
 refine holds_of (p:=
  let za:=List.length l
  let zb:=fv l a
  let zc:=fun (x_0:Nat)=>(nth ba l x_0).2.1
  let zd:=fun (x_0:Nat)=>List.length (nth ba l x_0).2.2.1
  let ze:=fun (x_0:Nat)=>((aM (↑x_0:Int))->((aM (1:Int))->(aM ((↑x_0:Int) + (1:Int)))/\(∃(x':Nat),(x'<=za/\fv (List.drop x' l) a=zb)/\za - x' < za - x_0/\((↑x_0:Int) + (1:Int)=(↑x':Int)/\True)/\True)))
  ((za<=aL)->(∃(x:Nat),(x<=za/\fv (List.drop x l) a=zb)/\((0:Int)=(↑x:Int)/\True)/\True)/\(∀x_0:Nat,((x_0<=za/\fv (List.drop x_0 l) a=zb)->(((decide ((↑x_0:Int) < (↑za:Int)))=true->((0:Int)<=(↑x_0:Int)/\(↑x_0:Int) < (↑za:Int))/\(((decide (a>=zc x_0))=true->((zd x_0<=aL)->((aM (zc x_0))->((aM (↑(zd x_0):Int))->(aM (zc x_0 + (↑(zd x_0):Int)))/\(((decide (a < zc x_0 + (↑(zd x_0):Int)))=true->((aM a)->((aM (zc x_0))->(aM (a - zc x_0))/\((0:Int)<=a - zc x_0/\a - zc x_0 < (↑(zd x_0):Int))/\((nth (Ty.int IntKind.i64) (nth ba l x_0).2.2.1 (Int.toNat (a - zc x_0)),true)=zb))))/\((decide (a < zc x_0 + (↑(zd x_0):Int)))=false->(ze x_0)))))))/\((decide (a>=zc x_0))=false->(ze x_0))))/\((decide ((↑x_0:Int) < (↑za:Int)))=false->(((0:Int),false)=zb))))))) (by kernel_rfl) ?_
 dsimp -iota -proj -eta only
 dsimp only at hp
 have ho:=hp
 refine fun h0=>⟨(⟨0,⟨by omega,rfl⟩,⟨rfl,trivial⟩,trivial⟩),fun x_0 q_0=>iL (fun h1=>⟨?a,iE (fun h2 h3 h4 h5=>⟨(by have h:=ho x_0 (by omega);dsimp only [D] at *;simp only [aM];omega),iL (fun h6 h7 h8=>⟨?b,?c,((FN (by omega) q_0.2 (by assumption) (by assumption)).symm)⟩) (fun h6 h7 h8=>⟨?d,?e⟩)⟩) (fun h2 h3 h4=>⟨?f,?g⟩)⟩) (fun h1=>((Hb (by omega) q_0.2).symm))⟩
 case a|c=>omega
 case b|d|f=>simp only [aM,aL] at *;omega
 case e|g=>exact ⟨x_0 + 1,⟨by omega,FO (by omega) q_0.2 (by omega)⟩,by omega,⟨by omega,trivial⟩,(by trivial)⟩
theorem Tryz.Ij:bB Tryz.prog Tryz.B.eT Tryz.X 43 [.slice ba, .int .i64] [.int .i64, .bool] (fun x=>yn x.1) (fun x y=>y=(fun x=>fv x.1 x.2) x):=
 bO (X:=Tryz.X) (bY Tryz.bZ) Tryz.func43 (by kernel_rfl) (fun x=>GG x.1 x.2) (fun x hw hp=>Ii x.1 x.2 hw hp)
noncomputable def Tryz.we:List (FuncId × (Bool × bA)):=[(31,(false,bW Tryz.aU [.obj 0, .d .str] (fun _ x=>x.2.1.1.length<=6) Tryz.qJ)),
 (114,(true,aR [.slice aA] [.slice (.int .i64)] (fun l=>l.length<=1000) (fun l=>br l))),
 (113,(true,aR [.slice (.int .i64), .slice aP] [.slice (.int .i64), .err] (fun _=>True) (fun x=>bz x))),
 (35,(true,aR [.slice aA, .slice (.int .i64)] [.slice bt, .err] (fun x=>eg x.1) (fun x=>dx x)))]
theorem Tryz.Av:bM Tryz.prog Tryz.B Tryz.X Tryz.we:=
 aX (Tryz.rn) (aX (aE Tryz.EB) (aX (aE Tryz.Ge) (aX (aE Tryz.Ib) (bY Tryz.bZ))))
noncomputable def Tryz.oS:List (Alt Tryz.aU [.obj 0, .d .str]):=[{bu:=Tryz.aU,res:=[.d (.slice .str), .d (.slice aA), .d (.slice (.int .i64)), .d (.slice bt), .d .err],out:=fun _ x=>x,ret:=fun a x=>((bg (aJ x) a.1).1,(bg (aJ x) a.1).2.1,(bg (aJ x) a.1).2.2.1,(bg (aJ x) a.1).2.2.2.1,bd (bg (aJ x) a.1).2.2.2.2,())}]
theorem EG (s:List UInt8) (f:bp) (hw:kO [.obj 0, .d .str] (s,())) (hp:(fun _ x=>x.2.1.1.length<=6) (s,()) f):(fp Tryz.B Tryz.we Tryz.f79 [] Tryz.aU [.obj 0, .d .str] Tryz.oS (s,()) f).holds:=by
 refine holds_of (p:=
  let za:=aF (aJ f) s
  let zb:=bd za.2.2
  let zc:=f=f
  let zd:=bg (aJ f) s
  let ze:=(zd.1,zd.2.1,zd.2.2.1,zd.2.2.2.1,bd zd.2.2.2.2,())
  let zf:=za.2.1
  let zg:=bz (br zf,[])
  let zh:=dx (zf,zg.1)
  (List.length f.2.1.1<=(6:Nat))/\((True)->(((!aY.isNil zb)=true->(True/\zc/\([],[],[],[],zb,())=ze))/\((!aY.isNil zb)=false->(List.length zf<=(1000:Nat))/\(True)/\(((!aY.isNil zg.2)=true->(True/\zc/\([],[],[],[],zg.2,())=ze))/\((!aY.isNil zg.2)=false->(eg zf)/\(((!aY.isNil zh.2)=true->(True/\zc/\([],[],[],[],zh.2,())=ze))/\((!aY.isNil zh.2)=false->(True/\zc/\(za.1,zf,zg.1,zh.1,aY.nil,())=ze))))))))) (by kernel_rfl) ?_
 dsimp -iota -proj -eta only
 exact ⟨(by trivial),fun h0=>iB (fun h1=>⟨trivial,rfl,by rw [qf (mA h1)]⟩) (fun h1=>⟨(Nat.le_trans (D9 (fB hp) (bf.1 (by assumption))) (by decide)),trivial,iB (fun h2=>⟨trivial,rfl,by rw [qg (bf.1 (by assumption)) h2,oN (tP _)]⟩) (fun h2=>⟨(Cw (fB hp) (bf.1 (by assumption))),iB (fun h3=>⟨trivial,rfl,by rw [tQ (bf.1 (by assumption)) (by assumption) h3,FQ]⟩) (fun h3=>(by exact ⟨trivial,rfl,by rw [rl (bf.1 (by assumption)) (by assumption) (by assumption)];rfl⟩))⟩)⟩)⟩
theorem Tryz.EH:cP Tryz.prog Tryz.B.eT Tryz.X 79 false (bW Tryz.aU [.obj 0, .d .str] (fun _ x=>x.2.1.1.length<=6) Tryz.oS):=
 cQ (X:=Tryz.X) Tryz.Av Tryz.func79 (by kernel_rfl) (fun (a:CD [.obj 0, .d .str]) (x:PD Tryz.aU)=>[]) (fun (a:CD [.obj 0, .d .str]) (x:PD Tryz.aU) hw hp=>EG a.1 x hw hp)
noncomputable def Tryz.Bm:List (FuncId × (Bool × bA)):=[(79,(false,bW Tryz.aU [.obj 0, .d .str] (fun _ x=>x.2.1.1.length<=6) Tryz.oS)),
 (80,(true,aR [.slice .str, .slice (.int .i64), .slice aA, .slice bt] [.slice ba, .err] (fun x=>x.2.2.1.length<=1000/\∀i,i < x.2.2.1.length->(nth aA x.2.2.1 i).2.1.length<=1000) (fun x=>gb x.1 x.2.1 x.2.2.1 x.2.2.2)))]
theorem Tryz.EI:bM Tryz.prog Tryz.B Tryz.X Tryz.Bm:=
 aX (Tryz.EH) (aX (aE Tryz.Ih) (bY Tryz.bZ))
noncomputable def Tryz.oT:List (Alt Tryz.aU [.obj 0, .d .str]):=[{bu:=Tryz.aU,res:=[.d (.slice ba), .d .err],out:=fun _ x=>x,ret:=fun a x=>((cJ (aJ x) a.1).1,bd (cJ (aJ x) a.1).2,())}]
theorem Hp (s:List UInt8) (f:bp) (hw:kO [.obj 0, .d .str] (s,())) (hp:(fun _ x=>x.2.1.1.length<=6) (s,()) f):(fp Tryz.B Tryz.Bm Tryz.f34 [] Tryz.aU [.obj 0, .d .str] Tryz.oT (s,()) f).holds:=by
 refine holds_of (p:=
  let za:=bg (aJ f) s
  let zb:=bd za.2.2.2.2
  let zc:=cJ (aJ f) s
  let zd:=(zc.1,bd zc.2,())
  let ze:=List.length za.2.1
  let zf:=gb za.1 za.2.2.1 za.2.1 za.2.2.2.1
  (List.length f.2.1.1<=(6:Nat))/\((True)->(((!aY.isNil zb)=true->(True/\f=f/\([],zb,())=zd))/\((!aY.isNil zb)=false->(ze<=(1000:Nat)/\∀(i:Nat),i < ze->List.length (nth aA za.2.1 i).2.1<=(1000:Nat))/\(True/\f=f/\(zf.1,zf.2,())=zd))))) (by kernel_rfl) ?_
 dsimp -iota -proj -eta only
 exact ⟨(by trivial),fun h0=>iB (fun h1=>⟨trivial,rfl,by rw [yl (mA h1)]⟩) (fun h1=>⟨(yp (fB hp) (bf.1 (by assumption))),⟨trivial,rfl,FP (bf.1 (by assumption))⟩⟩)⟩
theorem Tryz.Bn:cP Tryz.prog Tryz.B.eT Tryz.X 34 false (bW Tryz.aU [.obj 0, .d .str] (fun _ x=>x.2.1.1.length<=6) Tryz.oT):=
 cQ (X:=Tryz.X) Tryz.EI Tryz.func34 (by kernel_rfl) (fun (a:CD [.obj 0, .d .str]) (x:PD Tryz.aU)=>[]) (fun (a:CD [.obj 0, .d .str]) (x:PD Tryz.aU) hw hp=>Hp a.1 x hw hp)
end Go.Proofs.YtgokjhhcfemnhacGreatDoor

namespace Go.Proofs.YtgokjhhcfemnhacGreatDoor
open Go.Vg Go.Mrl
end Go.Proofs.YtgokjhhcfemnhacGreatDoor

namespace Go.Proofs.YtgokjhhcfemnhacGreatDoor
open Go.Vg Go.Mrl
noncomputable def Tryz.y8:List (FuncId × (Bool × bA)):=[(76,(true,aR [.str] [.err] (fun _=>True) (fun s=>bd (aK s)))),
 (99,(true,aR [.str] [.int .i64] (fun _=>True) (fun s=>aK s))),
 (21,(true,aR [.err] [.int .i64] (fun _=>True) (fun e=>dA e))),
 (29,(false,bW [] [] (fun _ _=>True) Tryz.nH)),
 (30,(false,bW Tryz.aU [.obj 0, .d .str, .d .str] (fun _ x=>x.2.1.1.length<=6/\0<=x.1.1/\x.1.1<=1000000) Tryz.lg)),
 (34,(false,bW Tryz.aU [.obj 0, .d .str] (fun _ x=>x.2.1.1.length<=6) Tryz.oT)),
 (37,(true,aR [.slice (.int .i64), .slice (.int .i64)] [.bool] (fun _=>True) (fun x=>gO x.1 x.2)))]
theorem Tryz.CU:bM Tryz.prog Tryz.B Tryz.X Tryz.y8:=
 aX (aE Tryz.fe) (aX (aE Tryz.c8) (aX (aE Tryz.er) (aX (Tryz.uH) (aX (Tryz.vR) (aX (Tryz.Bn) (aX (aE Tryz.uK) (bY Tryz.bZ)))))))
theorem Gh  (hw:dN [] ()):(cg Tryz.B Tryz.y8 Tryz.f26 [] [] [.bool] (fun x y=>y=(fun _=>true) x) ()).holds:=by
 refine holds_of (p:=
  let za:=(0:Int)<=(0:Int)
  let zb:=!aY.isNil (bd (0:Int))
  let zc:=false=true
  let zd:=(0:Int) + (1:Int)
  let ze:=cz b9 (@List.nil FE) [(97:UInt8)] ([(110:UInt8),101,101,100,32,98,10,119,111,114,100,32,48,10,119,104,111,108,101,32,48,32,48,32,120,10],zd,()) (0:Int)
  let zf:=(zd + (1:Int),())
  let zg:=fI b9 (@List.nil FE) [(97:UInt8)] (0:Int)
  let zh:=cz b9 ze [(98:UInt8)] ([(119:UInt8),111,114,100,32,55,10,115,121,109,98,111,108,32,120,32,48,10],zf) zg
  let zi:=cJ (aJ (zf,(zh,fI b9 ze [(98:UInt8)] zg,()),())) [(97:UInt8)]
  let zj:=(↑(List.length zi.1):Int)
  (True)/\((True)->(List.length (@List.nil FE)<=(6:Nat)/\za/\(0:Int)<=(1000000:Int))/\((True)->(((zb)=true->(zc))/\((zb)=false->(List.length ze<=(6:Nat)/\(0:Int)<=zd/\zd<=(1000000:Int))/\((True)->(((zb)=true->(zc))/\((zb)=false->(List.length zh<=(6:Nat))/\((True)->(((aY.isNil (bd zi.2))=true->((List.length zi.1<=aL)->(((zj == (2:Int))=true->(za/\(0:Int) < zj)/\(True)/\(gO (nth ba zi.1 (0:Nat)).2.2.1 [(16:Int)]=true))/\((zj == (2:Int))=false->(zc)))))/\((aY.isNil (bd zi.2))=false->(zc)))))))))))) (by kernel_rfl) ?_
 dsimp -iota -proj -eta only
 refine ⟨trivial,fun h0=>⟨?a,fun h1=>⟨fun h2=>absurd (show false=true from h2) (by decide),fun h2=>⟨?b,fun h3=>⟨fun h4=>absurd (show false=true from h4) (by decide),fun h4=>⟨?c,fun h5=>⟨fun h6 h7=>iQ (fun h8=>⟨(by omega),trivial,(by exact (show gO (nth ba (cJ (aJ Eb) [97]).1 0).2.2.1 [16]=true by rw [sk];rfl))⟩) (fun h8=>(by exact absurd (show ((cJ (aJ Eb) [97]).1.length:Int)=2 by rw [sk];rfl) h8)),fun h6=>(by exact Bool.noConfusion ((show (bd (cJ (aJ Eb) [97]).2).isNil=true by rw [sk];rfl).symm.trans h6))⟩⟩⟩⟩⟩⟩⟩
 case a|b|c=>trivial
theorem Tryz.Gi:bB Tryz.prog Tryz.B.eT Tryz.X 26 [] [.bool] (fun _=>True) (fun x y=>y=(fun _=>true) x):=
 bO (X:=Tryz.X) Tryz.CU Tryz.func26 (by kernel_rfl) (fun _=>[]) (fun x hw hp=>Gh  hw)
end Go.Proofs.YtgokjhhcfemnhacGreatDoor

namespace Go.Proofs.YtgokjhhcfemnhacGreatDoor
open Go.Vg Go.Mrl
def wg (e:D du):cp:=[
 (0,fun st=>{X:=Nat,inv:=fun i=>i<=e.2.1.length/\∀j,j < i->(nth eZ e.2.1 j).1.length<=20,bC:=fun i=>e.2.1.length - i,bk:=fun i=>[(3,sI i)],bn:=[1]})]
theorem wB (e:D du) (hw:dN [du] e):(cg Tryz.B [] Tryz.f56 (wg e) [du] [.bool] (fun e y=>y=true->jq e) e).holds:=by
 refine holds_of (p:=
  let za:=false=true->jq e
  let zb:=e.2.1
  let zc:=List.length zb
  let zd:=e.2.2.1
  let ze:=fun (x_0:Nat)=>List.length (nth eZ zb x_0).1
  ((List.length e.1<=aL)->(((decide ((↑(List.length e.1):Int) > (20:Int)))=true->(za))/\((decide ((↑(List.length e.1):Int) > (20:Int)))=false->((zc<=aL)->(((decide ((↑zc:Int) > (8:Int)))=true->(za))/\((decide ((↑zc:Int) > (8:Int)))=false->((List.length zd<=aL)->(((decide ((↑(List.length zd):Int) > (40:Int)))=true->(za))/\((decide ((↑(List.length zd):Int) > (40:Int)))=false->(∃(x:Nat),(x<=zc/\∀(j:Nat),j < x->List.length (nth eZ zb j).1<=(20:Nat))/\((0:Int)=(↑x:Int)/\True)/\True)/\(∀x_0:Nat,((x_0<=zc/\∀(j:Nat),j < x_0->List.length (nth eZ zb j).1<=(20:Nat))->((zc<=aL)->(((decide ((↑x_0:Int) < (↑zc:Int)))=true->((0:Int)<=(↑x_0:Int)/\(↑x_0:Int) < (↑zc:Int))/\((ze x_0<=aL)->(((decide ((↑(ze x_0):Int) > (20:Int)))=true->(za))/\((decide ((↑(ze x_0):Int) > (20:Int)))=false->((aM (↑x_0:Int))->((aM (1:Int))->(aM ((↑x_0:Int) + (1:Int)))/\(∃(x':Nat),(x'<=zc/\∀(j:Nat),j < x'->List.length (nth eZ zb j).1<=(20:Nat))/\zc - x' < zc - x_0/\((↑x_0:Int) + (1:Int)=(↑x':Int)/\True)/\(e.1=e.1/\zb=zb/\zd=zd/\True)/\True)))))))/\((decide ((↑x_0:Int) < (↑zc:Int)))=false->(true=true->jq e)))))))))))))))) (by kernel_rfl) ?_
 dsimp -iota -proj -eta only
 refine fun h0=>iL (fun h1 => ?a) (fun h1 h2=>iL (fun h3 => ?b) (fun h3 h4=>iL (fun h5 => ?c) (fun h5=>⟨?d,fun x_0 q_0 h6=>iL (fun h7=>⟨(by omega),fun h8=>iL (fun h9 => ?e) (fun h9 h10 h11=>⟨(by simp only [aM,aL] at *;omega),(⟨x_0 + 1,⟨by omega,kj q_0.2 (by omega)⟩,by omega,⟨by omega,trivial⟩,(by trivial)⟩)⟩)⟩) (fun h7=>(fun _=>⟨by omega,by omega,by omega,fun i hi=>q_0.2 i (by omega)⟩))⟩)))
 case a|b|c|e=>simp_all
 case d=>refine ⟨0,?_⟩;(repeat' (first | exact trivial | rfl | omega | assumption | apply And.intro))
theorem Tryz.kM:bB Tryz.prog Tryz.B.eT Tryz.X 56 [du] [.bool] (fun _=>True) (fun e y=>y=true->jq e):=
 bO (X:=Tryz.X) (bY Tryz.bZ) Tryz.func56 (by kernel_rfl) (fun x=>wg x) (fun x hw hp=>wB x hw)
noncomputable def Tryz.y9:List (FuncId × (Bool × bA)):=[(56,(true,eY [du] [.bool] (fun _=>True) (fun e y=>y=true->jq e)))]
theorem Tryz.CV:bM Tryz.prog Tryz.B Tryz.X Tryz.y9:=
 aX (cU Tryz.kM) (bY Tryz.bZ)
def wh (l:List (D bP)) (m:Int):cp:=[
 (0,fun st=>{X:=Nat × Int,inv:=fun x=>x.1<=l.length/\(0<=x.2/\x.2<=20000)/\∀j,j < x.1->pW (nth bP l j),bC:=fun x=>l.length - x.1,bk:=fun x=>[(6,sI x.1),(5,sI x.2)],bn:=[0]})]
theorem zA (l:List (D bP)) (m:Int) (hw:dN [.slice bP, .int .i64] (l,m)):(cg (BY Tryz.B) Tryz.y9 Tryz.f15 (wh l m) [.slice bP, .int .i64] [.bool] (fun x y=>y=true->jP x.1 x.2) (l,m)).holds:=by
 refine holds_of (p:=
  let za:=List.length l
  let zb:=false=true->jP l m
  let zc:=fun (x_0:Nat × Int)=>(↑x_0.1:Int) < (↑za:Int)
  let zd:=fun (x_0:Nat × Int)=>(0:Int)<=(↑x_0.1:Int)/\zc x_0
  let ze:=fun (x_0:Nat × Int)=>List.length (nth bP l x_0.1).2.2.1
  let zf:=fun (x_0:Nat × Int)=>List.length (nth bP l x_0.1).2.1
  ((za<=aL)->(((decide ((↑za:Int) > m))=true->(zb))/\((decide ((↑za:Int) > m))=false->(∃(x:Nat × Int),(x.1<=za/\((0:Int)<=x.2/\x.2<=(20000:Int))/\∀(j:Nat),j < x.1->pW (nth bP l j))/\((0:Int)=(↑x.1:Int)/\(0:Int)=x.2/\True)/\True)/\(∀x_0:Nat × Int,((x_0.1<=za/\((0:Int)<=x_0.2/\x_0.2<=(20000:Int))/\∀(j:Nat),j < x_0.1->pW (nth bP l j))->((za<=aL)->(((decide (zc x_0))=true->(zd x_0)/\((ze x_0<=aL)->(∀x_1:Int,((x_1=IntKind.wrap IntKind.i64 (x_0.2 + (↑(ze x_0):Int)))->(zd x_0)/\((zf x_0<=aL)->(((decide ((↑(zf x_0):Int) > (100:Int)))=true->(zb))/\((decide ((↑(zf x_0):Int) > (100:Int)))=false->(zd x_0)/\((ze x_0<=aL)->(((decide ((↑(ze x_0):Int) > (1300:Int)))=true->(zb))/\((decide ((↑(ze x_0):Int) > (1300:Int)))=false->(((decide (x_1 > (20000:Int)))=true->(zb))/\((decide (x_1 > (20000:Int)))=false->(zd x_0)/\(True)/\(∀x_2:Bool,((x_2=true->jq (nth bP l x_0.1).2.2.2.2.2.1)->(((!x_2)=true->(zb))/\((!x_2)=false->(∀x_3:Int,((x_3=IntKind.wrap IntKind.i64 ((↑x_0.1:Int) + (1:Int)))->(∃(x':Nat × Int),(x'.1<=za/\((0:Int)<=x'.2/\x'.2<=(20000:Int))/\∀(j:Nat),j < x'.1->pW (nth bP l j))/\za - x'.1 < za - x_0.1/\(x_3=(↑x'.1:Int)/\x_1=x'.2/\True)/\True)))))))))))))))))))/\((decide (zc x_0))=false->(true=true->jP l m)))))))))) (by kernel_rfl) ?_
 dsimp -iota -proj -eta only
 refine fun h0=>iL (fun h1 => ?a) (fun h1=>⟨(by exact ⟨(0,0),⟨by omega,by simp,fun j hj=>by simp only at hj;omega⟩,⟨rfl,rfl,trivial⟩,trivial⟩),fun x_0 q_0 h2=>iL (fun h3=>⟨?b,fun h4 x_1 q_1=>⟨?c,fun h5=>iL (fun h6 => ?d) (fun h6=>⟨?e,fun h7=>iL (fun h8 => ?f) (fun h8=>iL (fun h9 => ?g) (fun h9=>⟨?h,trivial,fun x_2 q_2=>iB (fun h10 => ?i) (fun h10 x_3 q_3 => ?j)⟩))⟩)⟩⟩) (fun h3=>(fun _=>⟨by omega,fun i hi=>q_0.2.2 i (by omega)⟩))⟩)
 case a|d|f|g|i=>simp_all
 case b|c|e|h=>omega
 case j=>
  have hw2:IntKind.wrap IntKind.i64 (x_0.2 + (List.length (nth bP l x_0.1).2.2.1:Int))=x_0.2 + (List.length (nth bP l x_0.1).2.2.1:Int):=nA (by omega) (by omega)
  have hw3:IntKind.wrap IntKind.i64 ((x_0.1:Int) + 1)=(x_0.1:Int) + 1:=nA (by omega) (by have:(aL:Int)=9223372036854775807:=rfl;omega)
  exact ⟨(x_0.1 + 1,_),⟨by omega,by simp only;omega,kj q_0.2.2 ⟨by omega,by omega,by simp_all⟩⟩,by simp only;omega,⟨by simp only;omega,rfl,trivial⟩,(by trivial)⟩
theorem Tryz.qk:bB Tryz.prog Tryz.B.eT Tryz.X 15 [.slice bP, .int .i64] [.bool] (fun _=>True) (fun x y=>y=true->jP x.1 x.2):=
 bO (B:=(BY Tryz.B)) (X:=Tryz.X) (bM.wrap Tryz.CV) Tryz.func15 (by kernel_rfl) (fun x=>wh x.1 x.2) (fun x hw hp=>zA x.1 x.2 hw)
end Go.Proofs.YtgokjhhcfemnhacGreatDoor

namespace Go.Proofs.YtgokjhhcfemnhacGreatDoor
open Go.Vg Go.Mrl
noncomputable def Tryz.wi:List (FuncId × (Bool × bA)):=[(76,(true,aR [.str] [.err] (fun _=>True) (fun s=>bd (aK s)))),
 (99,(true,aR [.str] [.int .i64] (fun _=>True) (fun s=>aK s))),
 (21,(true,aR [.err] [.int .i64] (fun _=>True) (fun e=>dA e))),
 (56,(true,eY [du] [.bool] (fun _=>True) (fun e y=>y=true->jq e))),
 (15,(true,eY [.slice bP, .int .i64] [.bool] (fun _=>True) (fun x y=>y=true->jP x.1 x.2))),
 (29,(false,bW [] [] (fun _ _=>True) Tryz.nH)),
 (47,(false,bW Tryz.aU [.obj 0, .d .str] (fun _ _=>True) Tryz.mC)),
 (30,(false,bW Tryz.aU [.obj 0, .d .str, .d .str] (fun _ x=>x.2.1.1.length<=6/\0<=x.1.1/\x.1.1<=1000000) Tryz.lg)),
 (41,(false,bW Tryz.aU [.obj 0, .d .str] (fun _ _=>True) Tryz.mW))]
theorem Tryz.Aw:bM Tryz.prog Tryz.B Tryz.X Tryz.wi:=
 aX (aE Tryz.fe) (aX (aE Tryz.c8) (aX (aE Tryz.er) (aX (cU Tryz.kM) (aX (cU Tryz.qk) (aX (Tryz.uH) (aX (Tryz.yE) (aX (Tryz.vR) (aX (Tryz.CE) (bY Tryz.bZ)))))))))
def Tryz.Bo (l:List (D bP)) (f:bp):cp:=[(0,fun st=>{X:=Nat,inv:=fun i=>i<=l.length,bC:=fun i=>l.length - i,bk:=fun i=>[(4,sI i)],bn:=[0,1],aC:=fun i=>[(0, .cells 152 [.ct 1, .d (.int .i64) (aO f (l.take i)).1.1]),(1, .ext 1 (dQ b9) (aO f (l.take i)).2.1)],eH:=[0,1]})]
def Tryz.sy:List (Alt Tryz.aU [.obj 0, .d (.slice bP)]):=[{bu:=Tryz.aU,res:=[],out:=fun a x=>aO x a.1,ret:=fun _ _=>()}]
theorem Hq (l:List (D bP)) (f:bp) (hw:kO [.obj 0, .d (.slice bP)] (l,())) (hp:(fun _ x=>bN x) (l,()) f):(fp Tryz.B Tryz.wi Tryz.f40 (Tryz.Bo l f) Tryz.aU [.obj 0, .d (.slice bP)] Tryz.sy (l,()) f).holds:=by
 refine holds_of (p:=
  let za:=List.length l
  let zb:=C.ct (1:Nat)=C.ct (1:Nat)
  let zc:=fun (x_0:Nat)=>(0:Int)<=(↑x_0:Int)/\(↑x_0:Int) < (↑za:Int)
  let zd:=fun (x_0:Nat)=>aO f (List.take x_0 l)
  let ze:=aM (1:Int)
  let zf:=fun (x_0:Nat)=>(↑x_0:Int) + (1:Int)
  let zg:=fun (x_0:Nat)=>(bX (zd x_0) (nth bP l x_0).2.1 (nth bP l x_0).2.2.1).1
  let zh:=fun (x_0:Nat)=>(db (zd x_0) (nth bP l x_0).2.1).1
  (∃(x:Nat),x<=za/\((0:Int)=(↑x:Int)/\True)/\(zb/\f.1.1=(aO f (List.take x l)).1.1/\True)/\f.2.1=(aO f (List.take x l)).2.1/\True)/\(∀x_0:Nat,((x_0<=za)->((za<=aL)->(((decide ((↑x_0:Int) < (↑za:Int)))=true->(zc x_0)/\((((nth bP l x_0).1 == [(119:UInt8),114,105,116,101])=true->(zc x_0)/\(zc x_0)/\(List.length (zd x_0).2.1.1<=(6:Nat)/\(0:Int)<=(zd x_0).1.1/\(zd x_0).1.1<=(1000000:Int))/\((True)->((aM (↑x_0:Int))->((ze)->(aM (zf x_0))/\(∃(x':Nat),x'<=za/\za - x' < za - x_0/\(zf x_0=(↑x':Int)/\True)/\(zb/\(zg x_0).1.1=(aO f (List.take x' l)).1.1/\True)/\(zg x_0).2.1=(aO f (List.take x' l)).2.1/\True)))))/\(((nth bP l x_0).1 == [(119:UInt8),114,105,116,101])=false->(zc x_0)/\((((nth bP l x_0).1 == [(114:UInt8),101,109,111,118,101])=true->(zc x_0)/\(True)/\((True)->((aM (↑x_0:Int))->((ze)->(aM (zf x_0))/\(∃(x':Nat),x'<=za/\za - x' < za - x_0/\(zf x_0=(↑x':Int)/\True)/\(zb/\(zh x_0).1.1=(aO f (List.take x' l)).1.1/\True)/\(zh x_0).2.1=(aO f (List.take x' l)).2.1/\True)))))/\(((nth bP l x_0).1 == [(114:UInt8),101,109,111,118,101])=false->((aM (↑x_0:Int))->((ze)->(aM (zf x_0))/\(∃(x':Nat),x'<=za/\za - x' < za - x_0/\(zf x_0=(↑x':Int)/\True)/\(zb/\(zd x_0).1.1=(aO f (List.take x' l)).1.1/\True)/\(zd x_0).2.1=(aO f (List.take x' l)).2.1/\True))))))))/\((decide ((↑x_0:Int) < (↑za:Int)))=false->(True/\zd x_0=aO f l/\()=()))))))) (by kernel_rfl) ?_
 dsimp -iota -proj -eta only
 refine ⟨(⟨0,by omega,⟨rfl,trivial⟩,⟨rfl,rfl,trivial⟩,rfl,trivial⟩),fun x_0 q_0 h0=>iL (fun h1=>⟨?a,iQ (fun h2=>⟨?b,?c,((bN.done _ hp).pre),fun h3 h4 h5=>⟨?d,(by exact ⟨x_0 + 1,by omega,by omega,⟨by omega,trivial⟩,by rw [oD (by omega),z7 (by unfold lQ;assumption)];exact ⟨⟨rfl,rfl,trivial⟩,rfl,trivial⟩⟩)⟩⟩) (fun h2=>⟨?e,iQ (fun h3=>⟨?f,trivial,fun h4 h5 h6=>⟨?g,(by exact ⟨x_0 + 1,by omega,by omega,⟨by omega,trivial⟩,by rw [oD (by omega),x7 (by unfold lQ;assumption) (by unfold nD;assumption)];exact ⟨⟨rfl,rfl,trivial⟩,rfl,trivial⟩⟩)⟩⟩) (fun h3 h4 h5=>⟨?h,(by exact ⟨x_0 + 1,by omega,by omega,⟨by omega,trivial⟩,by rw [oD (by omega),B5 (by unfold lQ;assumption) (by unfold nD;assumption)];exact ⟨⟨rfl,rfl,trivial⟩,rfl,trivial⟩⟩)⟩)⟩)⟩) (fun h1=>(by rw [List.take_of_length_le (by omega)];exact ⟨trivial,rfl,rfl⟩))⟩
 case a|b|c|e|f=>omega
 case d|g|h=>simp only [aM,aL] at *;omega
theorem Tryz.Hr:cP Tryz.prog Tryz.B.eT Tryz.X 40 false (bW Tryz.aU [.obj 0, .d (.slice bP)] (fun _ x=>bN x) Tryz.sy):=
 cQ (X:=Tryz.X) Tryz.Aw Tryz.func40 (by kernel_rfl) (fun (a:CD [.obj 0, .d (.slice bP)]) (x:PD Tryz.aU)=>Tryz.Bo a.1 x) (fun (a:CD [.obj 0, .d (.slice bP)]) (x:PD Tryz.aU) hw hp=>Hq a.1 x hw hp)
end Go.Proofs.YtgokjhhcfemnhacGreatDoor

