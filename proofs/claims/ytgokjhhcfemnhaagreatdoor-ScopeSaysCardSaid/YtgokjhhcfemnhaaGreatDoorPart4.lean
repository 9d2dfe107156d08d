/- A part of the proof that the law ScopeSaysCard holds of the given program: facts that are used there. -/
import Derived.Test.YtgokjhhcfemnhaaGreatDoorPart3
import Derived.Test.YtgokjhhcfemnhaaGreatDoorChecked
import Derived.Lib.LaidTab
import Derived.Lib.ItoaNum
import Derived.Shelf.Strconv.Itoa3
import Derived.Shelf.Strconv.AtoiAll
import Derived.Shelf.Strings.Split
import Derived.Shelf.Small.Wraps
import Derived.Shelf.Strings.Prefix
import Derived.Shelf.LaysM
import Derived.Shelf.LaysC
import Derived.Sort.Grow
import Derived.Lib.SplitLaws
import Derived.Lib.Builder
import Derived.Lib.UnsafeStr
import Derived.Lib.Strings
import Derived.Lib.Slices
import Derived.Lib.Walk
import Derived.Laws.Externs
import Derived.Deep.Heap
import Derived.Shelf.RegionOpenPlain
set_option linter.unusedSimpArgs false
set_option linter.unusedVariables false
set_option maxRecDepth 100000
set_option maxHeartbeats 4000000
namespace Go.Proofs.YtgokjhhcfemnhaaGreatDoor
open Go.Vg
noncomputable def Tryz.B:Cx:={eT:=95,τ:=[(2,(.int .i64)),(3,(.int .i64)),(4, .bool),(5,(.int .u8)),(7,(.prod (.int .i64) (.prod (.int .i64) (.prod .bool (.prod (.int .u8) .unit))))),(9, .str),(12,(.int .u64)),(13,(.prod .str (.prod (.int .u64) .unit))),(18,(.prod .dZ .unit)),(21,(.int .i32)),(22,(.slice bB)),(26, .err),(27, .err),(36,(.slice ez)),(37,(.prod (.slice ez) .unit)),(38,(.prod (.slice ez) .unit)),(39,(.int .u64)),(40,(.slice fQ)),(41,(.slice ud)),(42,ez),(43,ez),(44,bB),(45,bB),(54,(.slice .str)),(57,(.slice aA)),(71,(.slice C6)),(77,(.slice (.int .i64))),(83,C6),(84,C6),(85,(.slice aD)),(86,(.slice aL)),(87,aA),(88,aA),(92,fQ),(93,fQ),(95,(.int .i64)),(99,(.slice xS)),(100,HB),(101,HB),(104,(.prod .dZ (.prod (.int .i64) (.prod (.slice ez) .unit)))),(105,(.prod .dZ (.prod (.int .i64) (.prod (.slice ez) .unit)))),(121,(.slice bR)),(122,B2),(123,B2),(134,aD),(135,aD),(142,ud),(143,ud),(150,(.int .u64)),(153,(.slice (.int .u8))),(159,xS),(160,xS),(170, .dZ),(171,(.prod .dZ (.prod (.int .i64) .unit))),(172,(.prod .dZ (.prod (.int .i64) .unit))),(173,(.prod .str (.prod (.int .i64) .unit))),(174,(.prod .str (.prod (.int .i64) .unit))),(176,aL),(177,aL),(178,bR),(179,bR),(193,(.slice (.slice (.int .i64)))),(197,(.slice yO)),(198,yO),(199,yO),(205,(.int .u32)),(213,(.prod .dZ (.prod (.slice (.int .u8)) .unit))),(214,(.prod .dZ (.prod (.slice (.int .u8)) .unit))),(235,(.int .i64)),(244,(.int .i64)),(253,(.int .u64)),(263,(.prod (.int .u8) (.prod (.int .u8) .unit))),(264,(.prod (.int .u8) (.prod (.int .u8) .unit))),(269,(.prod .str (.prod .str (.prod .err .unit)))),(270,(.prod .str (.prod .str (.prod .err .unit)))),(280,(.prod .str .unit)),(281,(.prod .str .unit))],si:=[(200,(600,4)),(262,(256,5)),(265,(16,264)),(271,(24,5)),(283,(20,39)),(284,(65,5)),(285,(32,5)),(286,(64,5)),(289,(0,16))],Γ:=[],N:=0,eqs:=[93,135,143,177],jj:=[25,31,59,212],kT:=[(170,(9,174))],mr:=[(214,5)]}
theorem Tryz.cn:TyOK Tryz.prog Tryz.B:=H5 (n:=16) (by kernel_rfl)
structure Tryz.Jl (w:World):Prop where
 pow:Lib.TabIs Tryz.prog w "internal/strconv.uint64pow10" .u64 Lib.pow10Tab
 max:∃m,w.cell? ⟨0,0,none⟩=some (.int .i64 m)
 JQ:∃ev,w.cell? ⟨3,0,none⟩=some ev/\(ev = .nilIface\/∃te pe,ev = .iface te pe)
 JR:∃ev,w.cell? ⟨4,0,none⟩=some ev/\(ev = .nilIface\/∃te pe,ev = .iface te pe)
theorem Tryz.Jm:Tryz.prog.globalNamed "internal/strconv.uint64pow10" = some 5:=by kernel_rfl
theorem rC {w:World} {b o:Nat} {v:Value} (h:w.cell? ⟨b,o,none⟩=some v):b < w.heap.size:=by
 unfold World.cell? at h
 by_cases hb:b < w.heap.size
 ·exact hb
 ·have h0:w.heap[b]?=none:=Array.getElem?_eq_none (by omega)
  simp [h0] at h
theorem pk {w w':World} {b o:Nat} (h:w'.heap[b]?=w.heap[b]?):w'.cell? ⟨b,o,none⟩=w.cell? ⟨b,o,none⟩:=by
 unfold World.cell?
 rw [h]
theorem Fi {P:Program} {w w':World} {nm:String} {g:Nat} (hg:P.globalNamed nm=some g) (h:w'.heap[g]?=w.heap[g]?):w'.var? P nm=w.var? P nm:=by
 unfold World.var?
 rw [hg]
 simp [h]
noncomputable def Tryz.X:Ext:=
 {Jw with
  pI:=Tryz.Jl
  BF:=[5,0,3,4]
  Ht:=fun {w} h b hb=>by
   obtain ⟨h1,⟨m,h2⟩,⟨e3,h3,_⟩,⟨e4,h4,_⟩⟩:=h
   simp only [List.mem_cons,List.not_mem_nil,or_false] at hb
   rcases hb with rfl | rfl | rfl | rfl
   ·have h1':=World.var?_cell Tryz.Jm h1 0
    exact rC (v:=.int .u64 1) (by simpa [Lib.pow10Tab] using h1')
   ·exact rC h2
   ·exact rC h3
   ·exact rC h4
  xV:=fun {w w'} h hb=>by
   obtain ⟨h1,⟨m,h2⟩,⟨e3,h3,h5⟩,⟨e4,h4,h6⟩⟩:=h
   refine ⟨?_,⟨m,?_⟩,⟨e3,?_,h5⟩,⟨e4,?_,h6⟩⟩
   ·unfold Lib.TabIs at h1 ⊢
    rw [Fi Tryz.Jm (hb 5 (by simp))];exact h1
   ·rw [pk (hb 0 (by simp))];exact h2
   ·rw [pk (hb 3 (by simp))];exact h3
   ·rw [pk (hb 4 (by simp))];exact h4}
end Go.Proofs.YtgokjhhcfemnhaaGreatDoor

namespace Go.Proofs.YtgokjhhcfemnhaaGreatDoor
open Go.Vg Go.Mrl
def zY (s:List UInt8):cu:=[(0,fun st=>{X:=Nat,inv:=fun i=>i<=s.length/\∀j,j < i->ew j (bC s j)=false,aY:=fun i=>s.length - i,aQ:=fun i=>[(15, .s (.one (.d (.int .i64) i)))],aE:=fun _=>[],aT:=[0,14],fl:=[]})]
def zZ (s:List UInt8):cu:=[(0,fun st=>{X:=Nat,inv:=fun i=>i<=s.length/\∀j,j < i->ew j (bC s j)=false,aY:=fun i=>s.length - i,aQ:=fun i=>[(3, .s (.one (.d (.int .i64) i)))],aE:=fun _=>[],aT:=[0],fl:=[]})]
theorem GX (s:List UInt8) (hw:ec [.str] s):(cD Tryz.B [] Tryz.f87 (zY s) [.str] [.err] (fun x y=>y=(fun s=>aX (aI s)) x) s).holds:=by
 refine holds_of (p:=
  let za:=aX (aI s)
  let zb:=cg.no (1:Int)=za
  let zc:=List.length s
  let zd:=fun (x_0:Nat)=>(↑(UInt8.toNat (bC s x_0)):Int)
  let ze:=cg.no (3:Int)=za
  let zf:=fun (x_0:Nat)=>((aJ (↑x_0:Int))->((aJ (1:Int))->(aJ ((↑x_0:Int) + (1:Int)))/\(∃(x':Nat),(x'<=zc/\∀(j:Nat),j < x'->ew j (bC s j)=false)/\zc - x' < zc - x_0/\((↑x_0:Int) + (1:Int)=(↑x':Int)/\True)/\True)))
  let zg:=fun (x_0:Nat)=>(((zd x_0 != (95:Int))=true->(ze))/\((zd x_0 != (95:Int))=false->(zf x_0)))
  let zh:=fun (x_0:Nat)=>((((↑x_0:Int) == (0:Int))=true->(ze))/\(((↑x_0:Int) == (0:Int))=false->(((decide (zd x_0 < (48:Int)))=true->(zg x_0))/\((decide (zd x_0 < (48:Int)))=false->(((decide (zd x_0 > (57:Int)))=true->(zg x_0))/\((decide (zd x_0 > (57:Int)))=false->(zf x_0)))))))
  (((s == @List.nil UInt8)=true->(zb))/\((s == @List.nil UInt8)=false->((zc<=aH)->(((decide ((↑zc:Int) > (8:Int)))=true->(zb))/\((decide ((↑zc:Int) > (8:Int)))=false->((zc<=aH)->(∃(x:Nat),(x<=zc/\∀(j:Nat),j < x->ew j (bC s j)=false)/\((0:Int)=(↑x:Int)/\True)/\True)/\(∀x_0:Nat,((x_0<=zc/\∀(j:Nat),j < x_0->ew j (bC s j)=false)->(((decide ((↑x_0:Int) < (↑zc:Int)))=true->((0:Int)<=(↑x_0:Int)/\(↑x_0:Int) < (↑zc:Int))/\(((decide (zd x_0 < (97:Int)))=true->(zh x_0))/\((decide (zd x_0 < (97:Int)))=false->(((decide (zd x_0 > (122:Int)))=true->(zh x_0))/\((decide (zd x_0 > (122:Int)))=false->(zf x_0))))))/\((decide ((↑x_0:Int) < (↑zc:Int)))=false->(cg.nil=za)))))))))))) (by kernel_rfl) ?_
 dsimp -iota -proj -eta only
 refine iQ (fun h0 => ?a) (fun h0 h1=>iL (fun h2 => ?b) (fun h2 h3=>⟨(⟨0,⟨by omega,fun j hj=>by omega⟩,⟨rfl,trivial⟩,trivial⟩),fun x_0 q_0=>iL (fun h4=>⟨?c,iL (fun h5=>iQ (fun h6 => ?d) (fun h6=>iL (fun h7=>iN (fun h8 => ?e) (fun h8 h9 h10=>⟨?f,?g⟩)) (fun h7=>iL (fun h8=>iN (fun h9 => ?h) (fun h9 h10 h11=>⟨?i,?j⟩)) (fun h8 h9 h10=>⟨?k,?l⟩)))) (fun h5=>iL (fun h6=>iQ (fun h7 => ?m) (fun h7=>iL (fun h8=>iN (fun h9 => ?n) (fun h9 h10 h11=>⟨?o,?p⟩)) (fun h8=>iL (fun h9=>iN (fun h10 => ?q) (fun h10 h11 h12=>⟨?r,?s⟩)) (fun h9 h10 h11=>⟨?t,?u⟩)))) (fun h6 h7 h8=>⟨?v,?w⟩))⟩) (fun h4 => ?x)⟩))
 case a|b=>rw [pC (by first | omega | simp [h0])];rfl
 case c|f|o|r|t=>omega
 case d|e|h|m|n|q=>
  have hl:s.length≠0:=fun e=>h0 (List.length_eq_zero_iff.1 e)
  rw [eh (i:=x_0) (by omega) (by omega) (gi.2 (by omega))];rfl
 case g|j|l|p|s|u|w=>exact ⟨x_0 + 1,⟨by omega,jq q_0.2 (fR.2 (by omega))⟩,by omega,⟨by omega,trivial⟩,trivial⟩
 case i|k|v=>simp only [aJ,aH] at *;omega
 case x=>
  have hl:s.length≠0:=fun e=>h0 (List.length_eq_zero_iff.1 e)
  rw [nX (by omega) (fun i hi=>q_0.2 i (by omega))];rfl
theorem Tryz.fU:bI Tryz.prog Tryz.B.eT Tryz.X 87 [.str] [.err] (fun _=>True) (fun x y=>y=(fun s=>aX (aI s)) x):=
 bU (X:=Tryz.X) (cm Tryz.cn) Tryz.func87 (by kernel_rfl) (fun x=>zY x) (fun x hw hp=>GX x hw)
theorem z1 (s:List UInt8) (hw:ec [.str] s):(cD Tryz.B [] Tryz.f94 (zZ s) [.str] [.int .i64] (fun x y=>y=(fun s=>aI s) x) s).holds:=by
 refine holds_of (p:=
  let za:=List.length s
  let zb:=za<=aH
  let zc:=(↑za:Int)
  let zd:=aI s
  let ze:=fun (x_0:Nat)=>(0:Int)<=(↑x_0:Int)/\(↑x_0:Int) < zc
  let zf:=fun (x_0:Nat)=>(↑(UInt8.toNat (bC s x_0)):Int)
  let zg:=fun (x_0:Nat) => !decide (zf x_0<=(122:Int))
  let zh:=(3:Int)=zd
  let zi:=fun (x_0:Nat)=>((aJ (↑x_0:Int))->((aJ (1:Int))->(aJ ((↑x_0:Int) + (1:Int)))/\(∃(x':Nat),(x'<=za/\∀(j:Nat),j < x'->ew j (bC s j)=false)/\za - x' < za - x_0/\((↑x_0:Int) + (1:Int)=(↑x':Int)/\True)/\True)))
  let zj:=fun (x_0:Nat)=>((((↑x_0:Int) == (0:Int))=true->(zh))/\(((↑x_0:Int) == (0:Int))=false->(zi x_0)))
  let zk:=fun (x_0:Nat)=>((((↑x_0:Int) == (0:Int))=true->(zh))/\(((↑x_0:Int) == (0:Int))=false->(((!zf x_0 == (95:Int))=true->(zh))/\((!zf x_0 == (95:Int))=false->(zi x_0)))))
  let zl:=fun (x_0:Nat)=>(ze x_0)/\(((zg x_0)=true->(zk x_0))/\((zg x_0)=false->(zi x_0)))
  ((zb)->(((decide (zc < (1:Int)))=true->((1:Int)=zd))/\((decide (zc < (1:Int)))=false->((zb)->(((decide (zc > (8:Int)))=true->((1:Int)=zd))/\((decide (zc > (8:Int)))=false->(∃(x:Nat),(x<=za/\∀(j:Nat),j < x->ew j (bC s j)=false)/\((0:Int)=(↑x:Int)/\True)/\True)/\(∀x_0:Nat,((x_0<=za/\∀(j:Nat),j < x_0->ew j (bC s j)=false)->((zb)->(((decide ((↑x_0:Int) < zc))=true->(ze x_0)/\(((decide (zf x_0>=(97:Int)))=true->(ze x_0)/\(ze x_0)/\(((decide (zf x_0>=(48:Int)))=true->(ze x_0)/\(((decide (zf x_0<=(57:Int)))=true->(((zg x_0)=true->(zj x_0))/\((zg x_0)=false->(zi x_0))))/\((decide (zf x_0<=(57:Int)))=false->(zl x_0))))/\((decide (zf x_0>=(48:Int)))=false->(zl x_0))))/\((decide (zf x_0>=(97:Int)))=false->(ze x_0)/\(((decide (zf x_0>=(48:Int)))=true->(ze x_0)/\(((decide (zf x_0<=(57:Int)))=true->(zj x_0))/\((decide (zf x_0<=(57:Int)))=false->(ze x_0)/\(zk x_0))))/\((decide (zf x_0>=(48:Int)))=false->(ze x_0)/\(zk x_0))))))/\((decide ((↑x_0:Int) < zc))=false->((0:Int)=zd))))))))))))) (by kernel_rfl) ?_
 dsimp -iota -proj -eta only
 refine fun h0=>iL (fun h1 => ?a) (fun h1 h2=>iL (fun h3 => ?b) (fun h3=>⟨(⟨0,⟨by omega,fun j hj=>by omega⟩,⟨rfl,trivial⟩,trivial⟩),fun x_0 q_0 h4=>iL (fun h5=>⟨?c,iE (fun h6=>⟨?d,?e,iE (fun h7=>⟨?f,iE (fun h8=>⟨fun h9=>iQ (fun h10 => ?g) (fun h10 h11 h12=>⟨?h,?i⟩),fun h9 h10 h11=>⟨?j,?k⟩⟩) (fun h8=>⟨?l,⟨fun h9=>iQ (fun h10 => ?m) (fun h10=>⟨fun h11 => ?n,fun h11 h12 h13=>⟨?o,?p⟩⟩),fun h9 h10 h11=>⟨?q,?r⟩⟩⟩)⟩) (fun h7=>⟨?s,⟨fun h8=>iQ (fun h9 => ?t) (fun h9=>⟨fun h10 => ?u,fun h10 h11 h12=>⟨?v,?w⟩⟩),fun h8 h9 h10=>⟨?x,?y⟩⟩⟩)⟩) (fun h6=>⟨?z,iE (fun h7=>⟨?a0,iE (fun h8=>iQ (fun h9 => ?a1) (fun h9 h10 h11=>⟨(by simp only [aJ,aH] at *;omega),(⟨x_0 + 1,⟨by omega,jq q_0.2 (fR.2 (by omega))⟩,by omega,⟨by omega,trivial⟩,trivial⟩)⟩)) (fun h8=>⟨?a2,iQ (fun h9 => ?a3) (fun h9=>⟨fun h10 => ?a4,fun h10 h11 h12=>⟨?a5,?a6⟩⟩)⟩)⟩) (fun h7=>⟨?a7,iQ (fun h8 => ?a8) (fun h8=>⟨fun h9 => ?a9,fun h9 h10 h11=>⟨?aa,?ab⟩⟩)⟩)⟩)⟩) (fun h5=>(by rw [nX (by omega) (fun i hi=>q_0.2 i (by omega))]))⟩))
 case a|b=>rw [pC (by omega)]
 case c|d|e|f|l|s|z|a0|a2|a7=>omega
 case g|m|a9=>
  simp only [bl,reduceCtorEq] at h9
  rw [eh (i:=x_0) (by omega) (by omega) (gi.2 (by omega))]
 case h|j|aa=>
  simp only [bl,reduceCtorEq] at h9
  omega
 case i|k|r|ab=>
  simp only [bl,reduceCtorEq] at h9
  exact ⟨x_0 + 1,⟨by omega,jq q_0.2 (fR.2 (by omega))⟩,by omega,⟨by omega,trivial⟩,trivial⟩
 case n=>
  simp only [bl,reduceCtorEq] at h9 h11
  rw [eh (i:=x_0) (by omega) (by omega) (gi.2 (by omega))]
 case o=>
  simp only [bl,reduceCtorEq] at h9 h11
  omega
 case p=>
  simp only [bl,reduceCtorEq] at h9 h11
  exact ⟨x_0 + 1,⟨by omega,jq q_0.2 (fR.2 (by omega))⟩,by omega,⟨by omega,trivial⟩,trivial⟩
 case q=>
  simp only [bl,reduceCtorEq] at h9
  simp only [aJ,aH] at *;omega
 case t=>
  simp only [bl,reduceCtorEq] at h8
  rw [eh (i:=x_0) (by omega) (by omega) (gi.2 (by omega))]
 case u=>
  simp only [bl,reduceCtorEq] at h8 h10
  rw [eh (i:=x_0) (by omega) (by omega) (gi.2 (by omega))]
 case v=>
  simp only [bl,reduceCtorEq] at h8 h10
  omega
 case w=>
  simp only [bl,reduceCtorEq] at h8 h10
  exact ⟨x_0 + 1,⟨by omega,jq q_0.2 (fR.2 (by omega))⟩,by omega,⟨by omega,trivial⟩,trivial⟩
 case x=>
  simp only [bl,reduceCtorEq] at h8
  omega
 case y=>
  simp only [bl,reduceCtorEq] at h8
  exact ⟨x_0 + 1,⟨by omega,jq q_0.2 (fR.2 (by omega))⟩,by omega,⟨by omega,trivial⟩,trivial⟩
 case a1|a3|a8=>rw [eh (i:=x_0) (by omega) (by omega) (gi.2 (by omega))]
 case a4=>
  simp only [bl,reduceCtorEq] at h10
  rw [eh (i:=x_0) (by omega) (by omega) (gi.2 (by omega))]
 case a5=>
  simp only [bl,reduceCtorEq] at h10
  simp only [aJ,aH] at *;omega
 case a6=>
  simp only [bl,reduceCtorEq] at h10
  exact ⟨x_0 + 1,⟨by omega,jq q_0.2 (fR.2 (by omega))⟩,by omega,⟨by omega,trivial⟩,trivial⟩
theorem Tryz.dJ:bI Tryz.prog Tryz.B.eT Tryz.X 94 [.str] [.int .i64] (fun _=>True) (fun x y=>y=(fun s=>aI s) x):=
 bU (X:=Tryz.X) (cm Tryz.cn) Tryz.func94 (by kernel_rfl) (fun x=>zZ x) (fun x hw hp=>z1 x hw)
theorem Ij (e:cg) (n:Int) (hw:ec [.err, .int .i64] (e,n)):(cD Tryz.B [] Tryz.f9 [] [.err, .int .i64] [.bool] (fun x y=>y=(fun x=>cV x.1 x.2) x) (e,n)).holds:=by
 refine holds_of (p:=
  let za:=cV e n
  (((cg.isNil e)=true->((n == (0:Int))=za))/\((cg.isNil e)=false->(((cg.Cu e)=true->(((decide (n > (0:Int)))=true->((cg.num e == n)=za))/\((decide (n > (0:Int)))=false->(false=za))))/\((cg.Cu e)=false->(false=za)))))) (by kernel_rfl) ?_
 dsimp -iota -proj -eta only
 refine ⟨fun h0 => ?a,fun h0=>⟨fun h1=>iL (fun h2 => ?b) (fun h2 => ?c),fun h1 => ?d⟩⟩
 case a|b|c|d=>cases e <;> simp_all [cg.isNil,cg.Cu,cg.num,cV] <;> omega
theorem Tryz.gH:bI Tryz.prog Tryz.B.eT Tryz.X 9 [.err, .int .i64] [.bool] (fun _=>True) (fun x y=>y=(fun x=>cV x.1 x.2) x):=
 bU (X:=Tryz.X) (cm Tryz.cn) Tryz.func9 (by kernel_rfl) (fun _=>[]) (fun x hw hp=>Ij x.1 x.2 hw)
end Go.Proofs.YtgokjhhcfemnhaaGreatDoor

namespace Go.Proofs.YtgokjhhcfemnhaaGreatDoor
open Go.Vg Go.Mrl
theorem GY (x:Int) (hw:ec [.int .u64] x) (hp:(fun x=>0<=x/\x<=100) x):(cD Tryz.B [] Tryz.f153 [] [.int .u64] [.int .i64] (fun _ _=>True) x).holds:=by
 refine holds_of (p:=
  let za:=(0:Int)<=(16:Int)
  let zb:=(2:Int) ^ min (16:Nat) (IntKind.bits IntKind.u64)
  let zc:=aJ (32:Int)
  let zd:=(32:Int) + (16:Int)
  let ze:=fun (x_1:Int)=>decide (x_1>=(256:Int))
  let zf:=(0:Int)<=(8:Int)
  let zg:=(2:Int) ^ min (8:Nat) (IntKind.bits IntKind.u64)
  let zh:=aJ (8:Int)
  let zi:=aJ (zd + (8:Int))
  let zj:=[(8:UInt8),8,8,8,8,8,8,8,8,8,8,8,8,8,8,8,8,8,8,8,8,8,8,8,8,8,8,8,8,8,8,8,8,8,8,8,8,8,8,8,8,8,8,8,8,8,8,8,8,8,8,8,8,8,8,8,8,8,8,8,8,8,8,8]
  let zk:=List.append (List.append [(0:UInt8),1,2,2,3,3,3,3,4,4,4,4,4,4,4,4,5,5,5,5,5,5,5,5,5,5,5,5,5,5,5,5,6,6,6,6,6,6,6,6,6,6,6,6,6,6,6,6,6,6,6,6,6,6,6,6,6,6,6,6,6,6,6,6] [(7:UInt8),7,7,7,7,7,7,7,7,7,7,7,7,7,7,7,7,7,7,7,7,7,7,7,7,7,7,7,7,7,7,7,7,7,7,7,7,7,7,7,7,7,7,7,7,7,7,7,7,7,7,7,7,7,7,7,7,7,7,7,7,7,7,7]) (List.append zj zj)
  let zl:=(↑(List.length zk):Int)
  let zm:=fun (x_2:Int)=>(0:Int)<=IntKind.wrap IntKind.u8 x_2/\IntKind.wrap IntKind.u8 x_2 < zl
  let zn:=fun (x_2:Int)=>(↑(UInt8.toNat (bC zk (Int.toNat (IntKind.wrap IntKind.u8 x_2)))):Int)
  let zo:=fun (x_2:Int)=>aJ (zn x_2)
  let zp:=(32:Int) + (8:Int)
  let zq:=aJ (0:Int)
  let zr:=(0:Int) + (16:Int)
  let zs:=aJ (zr + (8:Int))
  let zt:=(0:Int) + (8:Int)
  let zu:=IntKind.wrap IntKind.u8 x
  let zv:=(↑(UInt8.toNat (bC zk (Int.toNat zu))):Int)
  (((decide (x>=(4294967296:Int)))=true->((0:Int)<=(32:Int))/\(∀x_0:Int,((x_0=Int.fdiv x ((2:Int) ^ min (32:Nat) (IntKind.bits IntKind.u64)))->(((decide (x_0>=(65536:Int)))=true->(za)/\(∀x_1:Int,((x_1=Int.fdiv x_0 zb)->((zc)->((aJ (16:Int))->(aJ zd)/\(((ze x_1)=true->(zf)/\(∀x_2:Int,((x_2=Int.fdiv x_1 zg)->((aJ zd)->((zh)->(zi)/\(zm x_2)/\((zi)->((zo x_2)->(aJ (zd + (8:Int) + zn x_2))/\(True))))))))/\((ze x_1)=false->(zm x_1)/\((aJ zd)->((zo x_1)->(aJ (zd + zn x_1))/\(True))))))))))/\((decide (x_0>=(65536:Int)))=false->(((ze x_0)=true->(zf)/\(∀x_1:Int,((x_1=Int.fdiv x_0 zg)->((zc)->((zh)->(aJ zp)/\(zm x_1)/\((aJ zp)->((zo x_1)->(aJ (zp + zn x_1))/\(True))))))))/\((ze x_0)=false->(zm x_0)/\((zc)->((zo x_0)->(aJ ((32:Int) + zn x_0))/\(True))))))))))/\((decide (x>=(4294967296:Int)))=false->(((decide (x>=(65536:Int)))=true->(za)/\(∀x_0:Int,((x_0=Int.fdiv x zb)->((zq)->((aJ (16:Int))->(aJ zr)/\(((ze x_0)=true->(zf)/\(∀x_1:Int,((x_1=Int.fdiv x_0 zg)->((aJ zr)->((zh)->(zs)/\(zm x_1)/\((zs)->((zo x_1)->(aJ (zr + (8:Int) + zn x_1))/\(True))))))))/\((ze x_0)=false->(zm x_0)/\((aJ zr)->((zo x_0)->(aJ (zr + zn x_0))/\(True))))))))))/\((decide (x>=(65536:Int)))=false->(((decide (x>=(256:Int)))=true->(zf)/\(∀x_0:Int,((x_0=Int.fdiv x zg)->((zq)->((zh)->(aJ zt)/\(zm x_0)/\((aJ zt)->((zo x_0)->(aJ (zt + zn x_0))/\(True))))))))/\((decide (x>=(256:Int)))=false->((0:Int)<=zu/\zu < zl)/\((zq)->((aJ zv)->(aJ ((0:Int) + zv))/\(True)))))))))) (by kernel_rfl) ?_
 dsimp -iota -proj -eta only
 refine iE (fun h0=>⟨?a,fun x_0 q_0=>iE (fun h1=>⟨?b,fun x_1 q_1 h2 h3=>⟨?c,iE (fun h4=>⟨?d,fun x_2 q_2 h5 h6=>⟨?e,?f,fun h7 h8=>⟨?g,trivial⟩⟩⟩) (fun h4=>⟨?h,fun h5 h6=>⟨?i,trivial⟩⟩)⟩⟩) (fun h1=>iE (fun h2=>⟨?j,fun x_1 q_1 h3 h4=>⟨?k,?l,fun h5 h6=>⟨?m,trivial⟩⟩⟩) (fun h2=>⟨?n,fun h3 h4=>⟨?o,trivial⟩⟩))⟩) (fun h0=>iE (fun h1=>⟨?p,fun x_0 q_0 h2 h3=>⟨?q,iE (fun h4=>⟨?r,fun x_1 q_1 h5 h6=>⟨?s,?t,fun h7 h8=>⟨?u,trivial⟩⟩⟩) (fun h4=>⟨?v,fun h5 h6=>⟨?w,trivial⟩⟩)⟩⟩) (fun h1=>iE (fun h2=>⟨?x,fun x_0 q_0 h3 h4=>⟨?y,?z,fun h5 h6=>⟨?a0,trivial⟩⟩⟩) (fun h2=>⟨?a1,fun h3 h4=>⟨(by simp only [aJ,aH] at *;omega),trivial⟩⟩)))
 case a|b|c|d|e|j|k|p|q|r|s|x|y=>trivial
 case f|g|h|i|l|m|n|o|t|u|v|w|z|a0=>omega
 case a1=>
  rw [show IntKind.u8.wrap x=x from nE (by simp [IntKind.min,IntKind.max,IntKind.signed,IntKind.bits];omega)]
  show (0:Int)<=x/\x < 256
  omega
theorem Tryz.GZ:bI Tryz.prog Tryz.B.eT Tryz.X 153 [.int .u64] [.int .i64] (fun x=>0<=x/\x<=100) (fun _ _=>True):=
 bU (X:=Tryz.X) (cm Tryz.cn) Tryz.func153 (by kernel_rfl) (fun _=>[]) (fun x hw hp=>GY x hw hp)
noncomputable def Tryz.z6:List (FuncId × (Bool × bQ)):=[(153,(true,fq [.int .u64] [.int .i64] (fun x=>0<=x/\x<=100) (fun _ _=>True)))]
theorem Tryz.DI:bZ Tryz.prog Tryz.B Tryz.X Tryz.z6:=
 aO (da Tryz.GZ) (cm Tryz.cn)
theorem Jn (x:Int) (hw:ec [.int .u64] x) (hp:(fun x=>0<=x/\x<=100) x):(cD Tryz.B Tryz.z6 Tryz.f123 [] [.int .u64] [.int .i64] (fun _ _=>True) x).holds:=by
 refine holds_of (p:=
  ((0:Int)<=x/\x<=(100:Int))/\(∀x_0:Int,((True)->(True)))) (by kernel_rfl) ?_
 exact ⟨(by trivial),fun x_0 q_0=>trivial⟩
theorem Tryz.Jo:bI Tryz.prog Tryz.B.eT Tryz.X 123 [.int .u64] [.int .i64] (fun x=>0<=x/\x<=100) (fun _ _=>True):=
 bU (X:=Tryz.X) Tryz.DI Tryz.func123 (by kernel_rfl) (fun _=>[]) (fun x hw hp=>Jn x hw hp)
theorem G0 (x:List UInt8) (hw:ec [.str] x):(cD Tryz.B [] Tryz.f176 [] [.str] [.bool] (fun x y=>y=(fun _=>false) x) x).holds:=by
 refine holds_of (p:=
  ((!x == x)=false)) (by kernel_rfl) ?_
 exact (by simp_all)
theorem Tryz.G1:bI Tryz.prog Tryz.B.eT Tryz.X 176 [.str] [.bool] (fun _=>True) (fun x y=>y=(fun _=>false) x):=
 bU (X:=Tryz.X) (cm Tryz.cn) Tryz.func176 (by kernel_rfl) (fun _=>[]) (fun x hw hp=>G0 x hw)
noncomputable def Tryz.Fj:List (FuncId × (Bool × bQ)):=[(176,(true,aM [.str] [.bool] (fun _=>True) (fun _=>false)))]
theorem Tryz.G2:bZ Tryz.prog Tryz.B Tryz.X Tryz.Fj:=
 aO (aG Tryz.G1) (cm Tryz.cn)
theorem Ik (x:List UInt8) (y:List UInt8) (hw:ec [.str, .str] (x,y)):(cD Tryz.B Tryz.Fj Tryz.f149 [] [.str, .str] [.bool] (fun x y=>y=(fun x=>Op.bytesLess x.1 x.2) x) (x,y)).holds:=by
 refine holds_of (p:=
  let za:=Op.bytesLess x y
  (True)/\(((false)=true->(True)/\(((!false)=true->(true=za))/\((!false)=false->(za=za))))/\((false)=false->(za=za)))) (by kernel_rfl) ?_
 dsimp -iota -proj -eta only
 exact ⟨trivial,⟨fun h0=>absurd (show false=true from h0) (by decide),fun h0=>rfl⟩⟩
theorem Tryz.Il:bI Tryz.prog Tryz.B.eT Tryz.X 149 [.str, .str] [.bool] (fun _=>True) (fun x y=>y=(fun x=>Op.bytesLess x.1 x.2) x):=
 bU (X:=Tryz.X) Tryz.G2 Tryz.func149 (by kernel_rfl) (fun _=>[]) (fun x hw hp=>Ik x.1 x.2 hw)
noncomputable def Tryz.Ck:List (FuncId × (Bool × bQ)):=[(149,(true,aM [.str, .str] [.bool] (fun _=>True) (fun x=>Op.bytesLess x.1 x.2)))]
theorem Tryz.Fk:bZ Tryz.prog Tryz.B Tryz.X Tryz.Ck:=
 aO (aG Tryz.Il) (cm Tryz.cn)
def Fl (_ _:Int) (xs:List (List UInt8)):cu:=[
 (0,fun st=>{X:=Nat × List (List UInt8),inv:=fun x=>x.1<=xs.length + 1/\x.2.length=xs.length/\List.Perm x.2 xs/\qq x.2 x.1,aY:=fun x=>xs.length + 1 - x.1,aQ:=fun x=>[(6,sI x.1)],aE:=fun x=>[(0, .aP .str x.2)],aT:=[0,1,2],fg:=[0]}),
 (2,fun st=>{X:=Nat × List (List UInt8),inv:=fun x=>x.1<=(bO (.int .i64) st 6).toNat/\x.2.length=xs.length/\List.Perm x.2 xs/\pD x.2 (bO (.int .i64) st 6).toNat x.1,aY:=fun x=>x.1,aQ:=fun x=>[(7,sI x.1)],aE:=fun x=>[(0, .aP .str x.2)],aT:=[0,1,2,6,10,11,12,15],fg:=[0]})]
def vt:List (Alt [.row true .str] [.obj 0, .d (.int .i64), .d (.int .i64)]):=[{bE:=[.row true .str],res:=[],out:=fun _ x=>(fY x.1,()),ret:=fun _ _=>()}]
theorem DJ (a:Int) (b:Int) (xs:List (List UInt8)) (hw:hP [.obj 0, .d (.int .i64), .d (.int .i64)] (a,b,())) (hp:(fun a x=>a.1=0/\a.2.1=x.1.length/\x.1.length<=12) (a,b,()) (xs,())):(dR Tryz.B Tryz.Ck Tryz.f143 (Fl a b xs) [.row true .str] [.obj 0, .d (.int .i64), .d (.int .i64)] vt (a,b,()) (xs,())).holds:=by
 refine holds_of (p:=
  let za:=aJ (1:Int)
  let zb:=Nat × List (List UInt8)
  let zc:=List.length xs
  let zd:=zc + (1:Nat)
  let ze:=fun (x_0:Nat × List (List UInt8))=>(↑x_0.1:Int)
  let zf:=fun (x_1:Nat × List (List UInt8))=>(0:Int)<=ze x_1/\ze x_1 < (↑(List.length x_1.2):Int)
  let zg:=fun (x_1:Nat × List (List UInt8))=>x_1.1 < List.length x_1.2
  let zh:=fun (x_1:Nat × List (List UInt8))=>ze x_1 - (1:Int)
  let zi:=fun (x_1:Nat × List (List UInt8))=>(0:Int)<=zh x_1/\zh x_1 < (↑(List.length x_1.2):Int)
  let zj:=fun (x_1:Nat × List (List UInt8))=>Int.toNat (zh x_1) < List.length x_1.2
  let zk:=fun (x_1:Nat × List (List UInt8))=>List.set x_1.2 x_1.1 (nth Ty.str x_1.2 (Int.toNat (zh x_1)))
  let zl:=fun (x_0:Nat × List (List UInt8)) (x_1:Nat × List (List UInt8))=>((aJ (ze x_0))->((za)->(aJ (ze x_0 + (1:Int)))/\(∃(x':zb),(Prod.fst x'<=zd/\List.length (Prod.snd x')=zc/\List.Perm (Prod.snd x') xs/\qq (Prod.snd x') (Prod.fst x'))/\zd - Prod.fst x' < zd - x_0.1/\(ze x_0 + (1:Int)=(↑(Prod.fst x'):Int)/\True)/\x_1.2=Prod.snd x'/\True)))
  ((aJ a)->((za)->(aJ (a + (1:Int)))/\(∃(x:zb),(Prod.fst x<=zd/\List.length (Prod.snd x)=zc/\List.Perm (Prod.snd x) xs/\qq (Prod.snd x) (Prod.fst x))/\(a + (1:Int)=(↑(Prod.fst x):Int)/\True)/\xs=Prod.snd x/\True)/\(∀x_0:Nat × List (List UInt8),((x_0.1<=zd/\List.length x_0.2=zc/\List.Perm x_0.2 xs/\qq x_0.2 x_0.1)->(((decide (ze x_0 < b))=true->(∃(x:zb),(Prod.fst x<=x_0.1/\List.length (Prod.snd x)=zc/\List.Perm (Prod.snd x) xs/\pD (Prod.snd x) x_0.1 (Prod.fst x))/\(ze x_0=(↑(Prod.fst x):Int)/\True)/\x_0.2=Prod.snd x/\True)/\(∀x_1:Nat × List (List UInt8),((x_1.1<=x_0.1/\List.length x_1.2=zc/\List.Perm x_1.2 xs/\pD x_1.2 x_0.1 x_1.1)->(((decide (ze x_1 > a))=true->(zf x_1)/\(zg x_1)/\((aJ (ze x_1))->((za)->(aJ (zh x_1))/\(zi x_1)/\(zj x_1)/\(True)/\(((Op.bytesLess (nth Ty.str x_1.2 x_1.1) (nth Ty.str x_1.2 (Int.toNat (zh x_1))))=true->((aJ (ze x_1))->((za)->(aJ (zh x_1))/\((aJ (ze x_1))->((za)->(aJ (zh x_1))/\(zi x_1)/\(zj x_1)/\(zf x_1)/\(zg x_1)/\(zf x_1)/\(zg x_1)/\((0:Int)<=zh x_1/\zh x_1 < (↑(List.length (zk x_1)):Int))/\(Int.toNat (zh x_1) < List.length (zk x_1))/\((aJ (ze x_1))->((za)->(aJ (zh x_1))/\(∃(x':zb),(Prod.fst x'<=x_0.1/\List.length (Prod.snd x')=zc/\List.Perm (Prod.snd x') xs/\pD (Prod.snd x') x_0.1 (Prod.fst x'))/\Prod.fst x' < x_1.1/\(zh x_1=(↑(Prod.fst x'):Int)/\True)/\List.set (zk x_1) (Int.toNat (zh x_1)) (nth Ty.str x_1.2 x_1.1)=Prod.snd x'/\True))))))))/\((Op.bytesLess (nth Ty.str x_1.2 x_1.1) (nth Ty.str x_1.2 (Int.toNat (zh x_1))))=false->(zl x_0 x_1))))))/\((decide (ze x_1 > a))=false->(zl x_0 x_1))))))/\((decide (ze x_0 < b))=false->(True/\(x_0.2,())=(fY xs,())/\()=())))))))) (by kernel_rfl) ?_
 dsimp -iota -proj -eta only
 dsimp only at hp
 refine fun h0 h1=>⟨?a,(⟨(1,xs),⟨by omega,rfl, .refl _,fun a b h1 h2=>by omega⟩,⟨by omega,trivial⟩,rfl,trivial⟩),fun x_0 q_0=>iL (fun h2=>⟨(⟨(x_0.1,x_0.2),⟨by omega,q_0.2.1,q_0.2.2.1,pD.start q_0.2.2.2⟩,⟨rfl,trivial⟩,rfl,trivial⟩),fun x_1 q_1=>iL (fun h3=>⟨?b,?c,fun h4 h5=>⟨?d,?e,?f,trivial,⟨fun h6 h7 h8=>⟨?g,fun h9 h10=>⟨?h,?i,?j,?k,?l,?m,?n,?o,?p,fun h11 h12=>⟨?q,?r⟩⟩⟩,fun h6 h7 h8=>⟨?s,?t⟩⟩⟩⟩) (fun h3 h4 h5=>⟨?u,(by exact ⟨(x_0.1 + 1,x_1.2),⟨by simp only;omega,q_1.2.1,q_1.2.2.1,q_1.2.2.2.done (.inl (by omega)) (by omega)⟩,by simp only;omega,⟨by simp only;omega,trivial⟩,rfl,(by trivial)⟩)⟩)⟩) (fun h2=>⟨trivial,by rw [EN q_0.2.2.1 (fun a b h1 h2=>q_0.2.2.2 a b h1 (by omega))],rfl⟩)⟩
 case a|d|g|h|q|s|u=>simp only [aJ,aH] at *;omega
 case b|c|e|f|i|j|k|l|m|n=>omega
 case o|p=>rw [List.length_set];omega
 case r=>
  have e:((x_1.1:Int) - 1).toNat=x_1.1 - 1:=(by omega)
  rw [e]
  exact ⟨(x_1.1 - 1,mO x_1.2 x_1.1),⟨by simp only;omega,by rw [yW];exact q_1.2.1,(De (by omega) (by omega)).trans q_1.2.2.1,q_1.2.2.2.swap (by omega) (by omega) (by omega) (by unfold iy;rw [<-e];exact h6)⟩,by simp only;omega,⟨by simp only;omega,trivial⟩,rfl,(by trivial)⟩
 case t=>
  have e:((x_1.1:Int) - 1).toNat=x_1.1 - 1:=(by omega)
  rw [e] at h6
  exact ⟨(x_0.1 + 1,x_1.2),⟨by simp only;omega,q_1.2.1,q_1.2.2.1,q_1.2.2.2.done (.inr (by unfold iy;rw [h6];simp)) (by omega)⟩,by simp only;omega,⟨by simp only;omega,trivial⟩,rfl,(by trivial)⟩
theorem Tryz.DK:cG Tryz.prog Tryz.B.eT Tryz.X 143 false (bG [.row true .str] [.obj 0, .d (.int .i64), .d (.int .i64)] (fun a x=>a.1=0/\a.2.1=x.1.length/\x.1.length<=12) vt):=
 ch (X:=Tryz.X) Tryz.Fk Tryz.func143 (by kernel_rfl) (fun (a:CD [.obj 0, .d (.int .i64), .d (.int .i64)]) (x:PD [.row true .str])=>Fl a.1 a.2.1 x.1) (fun (a:CD [.obj 0, .d (.int .i64), .d (.int .i64)]) (x:PD [.row true .str]) hw hp=>DJ a.1 a.2.1 x.1 hw hp)
noncomputable def Tryz.Fm:List (FuncId × (Bool × bQ)):=[(143,(false,bG [.row true .str] [.obj 0, .d (.int .i64), .d (.int .i64)] (fun a x=>a.1=0/\a.2.1=x.1.length/\x.1.length<=12) vt))]
theorem Tryz.G3:bZ Tryz.prog Tryz.B Tryz.X Tryz.Fm:=
 aO (Tryz.DK) (cm Tryz.cn)
def Fo (a b _:Int) (_:List (List UInt8)):cu:=[(0,fun st=>{X:=Unit,inv:=fun _=>True,aY:=fun _=>0,aQ:=fun _=>[(1,sI a),(2,sI b)],aT:=[0]})]
def vu:List (Alt [.row true .str] [.obj 0, .d (.int .i64), .d (.int .i64), .d (.int .i64)]):=[{bE:=[.row true .str],res:=[],out:=fun _ x=>(fY x.1,()),ret:=fun _ _=>()}]
theorem Jp (a:Int) (b:Int) (c:Int) (xs:List (List UInt8)) (hw:hP [.obj 0, .d (.int .i64), .d (.int .i64), .d (.int .i64)] (a,b,c,())) (hp:(fun a x=>a.1=0/\a.2.1=x.1.length/\x.1.length<=12) (a,b,c,()) (xs,())):(dR Tryz.B Tryz.Fm Tryz.f122 (Fo a b c xs) [.row true .str] [.obj 0, .d (.int .i64), .d (.int .i64), .d (.int .i64)] vu (a,b,c,()) (xs,())).holds:=by
 refine holds_of (p:=
  let za:=(fY xs,())
  (∃(x:Unit),True/\(a=a/\b=b/\True)/\True)/\(∀x_0:Unit,((True)->((aJ b)->((aJ a)->(aJ (b - a))/\(((decide (b - a<=(12:Int)))=true->(a=(0:Int)/\b=(↑(List.length xs):Int)/\List.length xs<=(12:Nat))/\((True)->(True/\za=za/\()=())))/\((decide (b - a<=(12:Int)))=false->(False)))))))) (by kernel_rfl) ?_
 dsimp -iota -proj -eta only
 dsimp only at hp
 refine ⟨(by simp_all),fun x_0 q_0 h0 h1=>⟨(by simp only [aJ,aH] at *;omega),iE (fun h2=>⟨?a,fun h3 => ?b⟩) (fun h2=>(by omega))⟩⟩
 case a|b=>trivial
theorem Tryz.Jq:cG Tryz.prog Tryz.B.eT Tryz.X 122 false (bG [.row true .str] [.obj 0, .d (.int .i64), .d (.int .i64), .d (.int .i64)] (fun a x=>a.1=0/\a.2.1=x.1.length/\x.1.length<=12) vu):=
 ch (X:=Tryz.X) Tryz.G3 Tryz.func122 (by kernel_rfl) (fun (a:CD [.obj 0, .d (.int .i64), .d (.int .i64), .d (.int .i64)]) (x:PD [.row true .str])=>Fo a.1 a.2.1 a.2.2.1 x.1) (fun (a:CD [.obj 0, .d (.int .i64), .d (.int .i64), .d (.int .i64)]) (x:PD [.row true .str]) hw hp=>Jp a.1 a.2.1 a.2.2.1 x.1 hw hp)
noncomputable def Tryz.Fp:List (FuncId × (Bool × bQ)):=[(122,(false,bG [.row true .str] [.obj 0, .d (.int .i64), .d (.int .i64), .d (.int .i64)] (fun a x=>a.1=0/\a.2.1=x.1.length/\x.1.length<=12) vu)),
 (123,(true,fq [.int .u64] [.int .i64] (fun x=>0<=x/\x<=100) (fun _ _=>True)))]
theorem Tryz.G4:bZ Tryz.prog Tryz.B Tryz.X Tryz.Fp:=
 aO (Tryz.Jq) (aO (da Tryz.Jo) (cm Tryz.cn))
def sortAlts:List (Alt [.row true .str] [.obj 0]):=[{bE:=[.row true .str],res:=[],out:=fun _ x=>(fY x.1,()),ret:=fun _ _=>()}]
theorem Im (xs:List (List UInt8)) (hw:hP [.obj 0] ()) (hp:(fun _ x=>x.1.length<=12) () (xs,())):(dR Tryz.B Tryz.Fp Tryz.f96 [] [.row true .str] [.obj 0] sortAlts () (xs,())).holds:=by
 refine holds_of (p:=
  let za:=List.length xs
  let zb:=(↑za:Int)
  let zc:=(fY xs,())
  ((za<=aH)->((0:Int)<=IntKind.wrap IntKind.u64 zb/\IntKind.wrap IntKind.u64 zb<=(100:Int))/\(∀x_0:Int,((True)->((0:Int)=(0:Int)/\zb=zb/\za<=(12:Nat))/\((True)->(True/\zc=zc/\()=())))))) (by kernel_rfl) ?_
 dsimp -iota -proj -eta only
 dsimp only at hp
 refine fun h0=>⟨(by rw [vj (by omega) (by omega)];omega),fun x_0 q_0=>⟨?a,fun h1 => ?b⟩⟩
 case a|b=>trivial
theorem Tryz.Io:cG Tryz.prog Tryz.B.eT Tryz.X 96 false (bG [.row true .str] [.obj 0] (fun _ x=>x.1.length<=12) sortAlts):=
 ch (X:=Tryz.X) Tryz.G4 Tryz.func96 (by kernel_rfl) (fun (a:CD [.obj 0]) (x:PD [.row true .str])=>[]) (fun (a:CD [.obj 0]) (x:PD [.row true .str]) hw hp=>Im x.1 hw hp)
end Go.Proofs.YtgokjhhcfemnhaaGreatDoor

namespace Go.Proofs.YtgokjhhcfemnhaaGreatDoor
open Go.Vg Go.Mrl
@[reducible] def Tryz.bz:List Ob:=[.box 172 [.obj 1, .d (.int .i64)], .ext 1 (eR cq)]
noncomputable def Tryz.s5:List (FuncId × (Bool × bQ)):=[(87,(true,aM [.str] [.err] (fun _=>True) (fun s=>aX (aI s)))),
 (94,(true,aM [.str] [.int .i64] (fun _=>True) (fun s=>aI s))),
 (9,(true,aM [.err, .int .i64] [.bool] (fun _=>True) (fun x=>cV x.1 x.2))),
 (96,(false,bG [.row true .str] [.obj 0] (fun _ x=>x.1.length<=12) sortAlts))]
theorem Tryz.uM:bZ Tryz.prog Tryz.B Tryz.X Tryz.s5:=
 aO (aG Tryz.fU) (aO (aG Tryz.dJ) (aO (aG Tryz.gH) (aO (Tryz.Io) (cm Tryz.cn))))
def Tryz.rD:List (Alt [] []):=[{bE:=Tryz.bz,res:=[.obj 0],out:=fun _ _=>rm,ret:=fun _ _=>()}]
theorem Ip  (hw:hP [] ()):(dR Tryz.B [] Tryz.f58 [] [] [] Tryz.rD () ()).holds:=by
 refine holds_of (p:=
  (True/\(((0:Int),()),([],(0:Int),()),())=rm/\()=())) (by kernel_rfl) ?_
 exact ⟨trivial,rfl,rfl⟩
theorem Tryz.Cm:cG Tryz.prog Tryz.B.eT Tryz.X 58 false (bG [] [] (fun _ _=>True) Tryz.rD):=
 ch (X:=Tryz.X) (cm Tryz.cn) Tryz.func58 (by kernel_rfl) (fun (a:CD []) (x:PD [])=>[]) (fun (a:CD []) (x:PD []) hw hp=>Ip  hw)
def Tryz.na:List (Alt Tryz.bz [.obj 0, .d .str]):=[{bE:=Tryz.bz,res:=[.d .str, .d (.int .i64), .d .err],out:=fun _ x=>x,ret:=fun a x=>((bF x a.1).1,(bF x a.1).2.1,aX (bF x a.1).2.2,())}]
theorem G5 (s:List UInt8) (f:eH) (hw:hP [.obj 0, .d .str] (s,())):(dR Tryz.B [] Tryz.f64 [] Tryz.bz [.obj 0, .d .str] Tryz.na (s,()) f).holds:=by
 refine holds_of (p:=
  let za:=Ty.prod Ty.str (Ty.prod (Ty.int IntKind.i64) Ty.unit)
  let zb:=(bF f s).2
  let zc:=((bF f s).1,zb.1,aX zb.2,())
  let zd:=jN za f.2.1.1 s
  (((!cY za f.2.1.1 s)=true->(True/\f=f/\([],(0:Int),cg.no (5:Int),())=zc))/\((!cY za f.2.1.1 s)=false->(True/\f=f/\(zd.1,zd.2.1,cg.nil,())=zc)))) (by kernel_rfl) ?_
 dsimp -iota -proj -eta only
 refine ⟨fun h0 => ?a,fun h0 => ?b⟩
 case a=>
  simp only [bl,reduceCtorEq] at h0
  exact ⟨trivial,rfl,by rw [mP h0];rfl⟩
 case b=>
  simp only [bl,reduceCtorEq] at h0
  exact ⟨trivial,rfl,by rw [oW h0];rfl⟩
theorem Tryz.z7:cG Tryz.prog Tryz.B.eT Tryz.X 64 false (bG Tryz.bz [.obj 0, .d .str] (fun _ _=>True) Tryz.na):=
 ch (X:=Tryz.X) (cm Tryz.cn) Tryz.func64 (by kernel_rfl) (fun (a:CD [.obj 0, .d .str]) (x:PD Tryz.bz)=>[]) (fun (a:CD [.obj 0, .d .str]) (x:PD Tryz.bz) hw hp=>G5 a.1 x hw)
def Tryz.lJ:List (Alt Tryz.bz [.obj 0, .d .str, .d .str]):=[{bE:=Tryz.bz,res:=[.d .err],out:=fun a x=>(db x a.1 a.2.1).1,ret:=fun a x=>(aX (db x a.1 a.2.1).2,())}]
theorem Fq (s:List UInt8) (t:List UInt8) (f:eH) (hw:hP [.obj 0, .d .str, .d .str] (s,t,())) (hp:(fun _ x=>x.2.1.1.length<=6/\0<=x.1.1/\x.1.1<=1000000) (s,t,()) f):(dR Tryz.B Tryz.s5 Tryz.f59 [] Tryz.bz [.obj 0, .d .str, .d .str] Tryz.lJ (s,t,()) f).holds:=by
 refine holds_of (p:=
  let za:=aX (aI s)
  let zb:=db f s t
  let zc:=f=zb.1
  let zd:=(aX zb.2,())
  let ze:=Ty.prod Ty.str (Ty.prod (Ty.int IntKind.i64) Ty.unit)
  let zf:=f.2.1.1
  let zg:=True/\zc/\(cg.no (8:Int),())=zd
  let zh:=f.1.1 + (1:Int)
  let zi:=(((f.1.1 == (1000000:Int))=true->(zg))/\((f.1.1 == (1000000:Int))=false->((aJ f.1.1)->((aJ (1:Int))->(aJ zh)/\(List.length zf < aH)/\(True/\((zh,()),(dF ze zf s (t,zh,()) f.2.1.2.1,gI ze zf s f.2.1.2.1,()),())=zb.1/\(cg.nil,())=zd)))))
  (True)/\(((!cg.isNil za)=true->(True/\zc/\(za,())=zd))/\((!cg.isNil za)=false->((List.length t<=aH)->(((decide ((↑(List.length t):Int) > (1200:Int)))=true->(True/\zc/\(cg.no (2:Int),())=zd))/\((decide ((↑(List.length t):Int) > (1200:Int)))=false->(((!cY ze zf s)=true->((((↑(List.length zf):Int) == (6:Int))=true->(zg))/\(((↑(List.length zf):Int) == (6:Int))=false->(zi))))/\((!cY ze zf s)=false->(zi))))))))) (by kernel_rfl) ?_
 dsimp -iota -proj -eta only
 refine ⟨trivial,⟨fun h0 => ?a,fun h0 h1=>iL (fun h2 => ?b) (fun h2=>⟨fun h3=>iQ (fun h4 => ?c) (fun h4=>iQ (fun h5 => ?d) (fun h5 h6 h7=>⟨?e,?f,?g⟩)),fun h3=>iQ (fun h4 => ?h) (fun h4 h5 h6=>⟨?i,?j,?k⟩)⟩)⟩⟩
 case a=>
  simp only [bl,reduceCtorEq] at h0
  have hn:¬ aI s=0:=(fun e=>by rw [bN.2 e] at h0;cases h0)
  rw [qu hn];exact ⟨trivial,rfl,rfl⟩
 case b=>
  simp only [bl,reduceCtorEq] at h0
  rw [qv (bN.1 (by assumption)) (by omega)];exact ⟨trivial,rfl,rfl⟩
 case c|d|h=>
  simp only [bl,reduceCtorEq] at h0 h3
  rw [qw (bN.1 (by assumption)) (by omega) (by first | exact .inr (by omega) | exact .inl ⟨by assumption,by omega⟩)];exact ⟨trivial,rfl,rfl⟩
 case e|f|i|j=>
  simp only [bl,reduceCtorEq] at h0 h3
  simp only [aJ,aH] at *;omega
 case g|k=>
  simp only [bl,reduceCtorEq] at h0 h3
  rw [uk (bN.1 (by assumption)) (by omega) (by rintro (⟨e1,e2⟩ | e);(first | omega | exact Bool.noConfusion (e1.symm.trans (show cY cq f.2.1.1 s=true by assumption)));omega)];exact ⟨trivial,rfl,rfl⟩
theorem Tryz.wU:cG Tryz.prog Tryz.B.eT Tryz.X 59 false (bG Tryz.bz [.obj 0, .d .str, .d .str] (fun _ x=>x.2.1.1.length<=6/\0<=x.1.1/\x.1.1<=1000000) Tryz.lJ):=
 ch (X:=Tryz.X) Tryz.uM Tryz.func59 (by kernel_rfl) (fun (a:CD [.obj 0, .d .str, .d .str]) (x:PD Tryz.bz)=>[]) (fun (a:CD [.obj 0, .d .str, .d .str]) (x:PD Tryz.bz) hw hp=>Fq a.1 a.2.1 x hw hp)
def Tryz.nz:List (Alt Tryz.bz [.obj 0, .d .str]):=[{bE:=Tryz.bz,res:=[.d .err],out:=fun a x=>(dv x a.1).1,ret:=fun a x=>(aX (dv x a.1).2,())}]
theorem DL (s:List UInt8) (f:eH) (hw:hP [.obj 0, .d .str] (s,())):(dR Tryz.B [] Tryz.f62 [] Tryz.bz [.obj 0, .d .str] Tryz.nz (s,()) f).holds:=by
 refine holds_of (p:=
  let za:=Ty.prod Ty.str (Ty.prod (Ty.int IntKind.i64) Ty.unit)
  let zb:=dv f s
  let zc:=(aX zb.2,())
  (((!cY za f.2.1.1 s)=true->(True/\f=zb.1/\(cg.no (5:Int),())=zc))/\((!cY za f.2.1.1 s)=false->(True/\(f.1,(eU za f.2.1.1 s,f.2.1.2),())=zb.1/\(cg.nil,())=zc)))) (by kernel_rfl) ?_
 dsimp -iota -proj -eta only
 refine ⟨fun h0 => ?a,fun h0 => ?b⟩
 case a=>
  simp only [bl,reduceCtorEq] at h0
  rw [rX h0];exact ⟨trivial,rfl,rfl⟩
 case b=>
  simp only [bl,reduceCtorEq] at h0
  rw [qx h0];exact ⟨trivial,rfl,rfl⟩
theorem Tryz.DM:cG Tryz.prog Tryz.B.eT Tryz.X 62 false (bG Tryz.bz [.obj 0, .d .str] (fun _ _=>True) Tryz.nz):=
 ch (X:=Tryz.X) (cm Tryz.cn) Tryz.func62 (by kernel_rfl) (fun (a:CD [.obj 0, .d .str]) (x:PD Tryz.bz)=>[]) (fun (a:CD [.obj 0, .d .str]) (x:PD Tryz.bz) hw hp=>DL a.1 x hw)
def Tryz.z8 (f:eH):cu:=[(200000,fun st=>{X:=List FE,inv:=fun x=>kP f.2.1.1 x,aY:=fun x=>(eG cq f.2.1.1 (x.map bS)).length,aQ:=fun x=>[],aT:=[2,9],aK:=[.row false .str],refs:=[(3,0)],pd:=fun x=>(x.map fz,()),aE:=fun x=>[(bD st 9,IV st (bD st 9) (x.map bS))],fg:=[bD st 9]})]
def Tryz.qW:List (Alt Tryz.bz [.obj 0]):=[{bE:=Tryz.bz++[.row false .str],res:=[.obj 2],out:=fun _ x=>(x.1,x.2.1,jX x,()),ret:=fun _ _=>()}]
theorem G6 (f:eH) (hw:hP [.obj 0] ()) (hp:(fun _ x=>x.2.1.1.length<=6/\(x.2.1.1.map bS).Nodup) () f):(dR (lG Tryz.B [3,17]) Tryz.s5 Tryz.f66 (Tryz.z8 f) Tryz.bz [.obj 0] Tryz.qW () f).holds:=by
 refine holds_of (p:=
  let za:=f.2.1.1
  let zb:=C.dh (1:Nat)=C.dh (1:Nat)
  let zc:=f.2.1
  let zd:=zc.2.1=zc.2.1
  let ze:=@List.nil (List UInt8) = @List.nil (List UInt8)/\(zb/\f.1.1=f.1.1/\True)/\zc=zc/\True
  let zf:=!false
  let zg:=(zf && (zf && (zf && (zf && true))))=true
  let zh:=fun (x_0:List FE)=>eG cq zc.1 (List.map bS x_0)
  let zi:=fun (x_0:List FE) (x_1:List UInt8 × (List UInt8 × Int × Unit) × Int × Unit)=>List.map bS x_0++[x_1.2.2.1]
  let zj:=fun (x_0:List FE) (x_1:List UInt8 × (List UInt8 × Int × Unit) × Int × Unit)=>List.length [(py cq zc.1 (jO (zi x_0 x_1))).1]
  (((∃(x':List FE),kP za x'/\True/\True/\(((zb/\True)/\@List.nil Int=List.map bS x'/\zd)/\ze)/\zg/\([],())=(List.map fz x',())))/\((∀x_0:List FE,((kP za x_0)->(zd)/\((((zh x_0 = @List.nil (List UInt8 × (List UInt8 × Int × Unit) × Int × Unit))->(List.length (List.map fz x_0)<=(12:Nat))/\((True)->(True/\(f.1,zc,fY (List.map fz x_0),())=(f.1,zc,jX f,())/\()=()))))/\((∀x_1:List UInt8 × (List UInt8 × Int × Unit) × Int × Unit,((x_1∈zh x_0)->(zd)/\(zi x_0 x_1≠@List.nil Int)/\(lB cq zc.1 (jO (zi x_0 x_1))=true)/\((0:Nat) < zj x_0 x_1/\List.length (List.map fz x_0) + zj x_0 x_1<=(1000000000:Nat))/\(∃(x':List FE),kP za x'/\List.length (eG cq za (List.map bS x')) < List.length (eG cq za (List.map bS x_0))/\True/\(((zb/\True)/\zi x_0 x_1=List.map bS x'/\zd)/\ze)/\zg/\(List.map fz x_0++[(py cq zc.1 (jO (zi x_0 x_1))).1],())=(List.map fz x',()))))))))))) (by kernel_rfl) ?_
 dsimp -iota -proj -eta only
 exact ⟨(⟨[],⟨by simp,by simp⟩,trivial,trivial,⟨⟨⟨rfl,trivial⟩,rfl,rfl⟩,rfl,⟨rfl,rfl,trivial⟩,rfl,trivial⟩,rfl,rfl⟩),fun x_0 q_0=>⟨rfl,⟨fun h0=>⟨(by have:=yX q_0.sub q_0.nodup;rw [List.length_map];omega),fun h1=>(by exact ⟨trivial,by rw [yY q_0 hp.2 (by assumption)];rfl,rfl⟩)⟩,fun x_1 q_1=>⟨rfl,(by simp_all),(by rw [um];exact (at_mem hp.2 (List.mem_filter.1 q_1).1).2),(by have:=yX q_0.sub q_0.nodup;simp only [List.length_map,List.length_singleton];omega),(by exact ⟨x_0++[x_1],q_0.more q_1,by rw [List.map_append];exact EO q_1,trivial,⟨⟨⟨rfl,trivial⟩,by rw [List.map_append];rfl,rfl⟩,rfl,⟨rfl,rfl,trivial⟩,rfl,trivial⟩,rfl,by rw [um,List.map_append,show py cq f.2.1.1 x_1.2.2.1=x_1 from (at_mem hp.2 (List.mem_filter.1 q_1).1).1];rfl⟩)⟩⟩⟩⟩
theorem Tryz.G7:cG Tryz.prog Tryz.B.eT Tryz.X 66 false (bG Tryz.bz [.obj 0] (fun _ x=>x.2.1.1.length<=6/\(x.2.1.1.map bS).Nodup) Tryz.qW):=
 ch (B:=(lG Tryz.B [3,17])) (X:=Tryz.X) (bZ.hint (l:=[3,17]) Tryz.uM) Tryz.func66 (by kernel_rfl) (fun (a:CD [.obj 0]) (x:PD Tryz.bz)=>Tryz.z8 x) (fun (a:CD [.obj 0]) (x:PD Tryz.bz) hw hp=>G6 x hw hp)
end Go.Proofs.YtgokjhhcfemnhaaGreatDoor

namespace Go.Proofs.YtgokjhhcfemnhaaGreatDoor
open Go.Shelf
def Tryz.Bh:Go.Shelf.Ren:=⟨fun | 103=>124 | 210=>154 | 206=>177 | n=>n,fun | 9=>9 | 4=>4 | 24=>219 | 3=>3 | n=>n,fun | n=>n⟩
theorem Tryz.Iq:Go.Proofs.Lays.n103 Tryz.prog Tryz.Bh:={
 mixed:=by kernel_rfl
 f103:=Tryz.func124.trans (congrArg some (by kernel_rfl))
 f206:=Tryz.func177.trans (congrArg some (by kernel_rfl))
 f210:=Tryz.func154.trans (congrArg some (by kernel_rfl))
 t3:=Tryz.underlying3
 a3:=Tryz.isAgg3
 z3:=Tryz.sizeOf3
 v3:=Tryz.zeroValue3
 t4:=Tryz.underlying4
 a4:=Tryz.isAgg4
 z4:=Tryz.sizeOf4
 v4:=Tryz.zeroValue4
 t9:=Tryz.underlying9
 a9:=Tryz.isAgg9
 z9:=Tryz.sizeOf9
 v9:=Tryz.zeroValue9
 t24:=Tryz.underlying219
 a24:=Tryz.isAgg219
 z24:=Tryz.sizeOf219
 v24:=Tryz.zeroValue219}
open Go.RowKit in
theorem Tryz.strings_CutPrefix (s p:ByteArray) (w:World) :
  Calls Tryz.prog 124 #[.string s, .string p] w fun e w'=>e = .returned (.tuple #[.string ⟨(Lib.trimPrefix s.data.toList p.data.toList).toArray⟩, .bool (Lib.hasPrefix s.data.toList p.data.toList)])/\w'=w:=Any.strings_CutPrefix Tryz.Iq s p w
def Tryz.Aa:Go.Shelf.Ren:=⟨fun | 171=>118 | 243=>141 | 246=>169 | 283=>185 | 284=>186 | 285=>187 | 286=>188 | 129=>153 | 317=>193 | 318=>194 | 319=>195 | 320=>196 | 337=>197 | 338=>198 | n=>n,fun | 3=>3 | 9=>9 | 2=>2 | 4=>4 | 171=>271 | 0=>0 | 53=>39 | 37=>153 | 5=>5 | 173=>273 | 212=>283 | 51=>205 | 20=>20 | 213=>284 | 46=>150 | 232=>285 | 233=>286 | n=>n,fun | 17=>5 | 18=>6 | 19=>7 | n=>n⟩
theorem Tryz.G8:Go.Proofs.LaysM.n171 Tryz.prog Tryz.Aa:={
 mixed:=by kernel_rfl
 f129:=Tryz.func153.trans (congrArg some (by kernel_rfl))
 f171:=Tryz.func118.trans (congrArg some (by kernel_rfl))
 f243:=Tryz.func141.trans (congrArg some (by kernel_rfl))
 f246:=Tryz.func169.trans (congrArg some (by kernel_rfl))
 f283:=Tryz.func185.trans (congrArg some (by kernel_rfl))
 f284:=Tryz.func186.trans (congrArg some (by kernel_rfl))
 f285:=Tryz.func187.trans (congrArg some (by kernel_rfl))
 f286:=Tryz.func188.trans (congrArg some (by kernel_rfl))
 f317:=Tryz.func193.trans (congrArg some (by kernel_rfl))
 f318:=Tryz.func194.trans (congrArg some (by kernel_rfl))
 f319:=Tryz.func195.trans (congrArg some (by kernel_rfl))
 f320:=Tryz.func196.trans (congrArg some (by kernel_rfl))
 f337:=Tryz.func197.trans (congrArg some (by kernel_rfl))
 f338:=Tryz.func198.trans (congrArg some (by kernel_rfl))
 t0:=Tryz.underlying0
 a0:=Tryz.isAgg0
 z0:=Tryz.sizeOf0
 v0:=Tryz.zeroValue0
 t2:=Tryz.underlying2
 a2:=Tryz.isAgg2
 z2:=Tryz.sizeOf2
 v2:=Tryz.zeroValue2
 t3:=Tryz.underlying3
 a3:=Tryz.isAgg3
 z3:=Tryz.sizeOf3
 v3:=Tryz.zeroValue3
 t4:=Tryz.underlying4
 a4:=Tryz.isAgg4
 z4:=Tryz.sizeOf4
 v4:=Tryz.zeroValue4
 t5:=Tryz.underlying5
 a5:=Tryz.isAgg5
 z5:=Tryz.sizeOf5
 v5:=Tryz.zeroValue5
 t9:=Tryz.underlying9
 a9:=Tryz.isAgg9
 z9:=Tryz.sizeOf9
 v9:=Tryz.zeroValue9
 t20:=Tryz.underlying20
 a20:=Tryz.isAgg20
 z20:=Tryz.sizeOf20
 v20:=Tryz.zeroValue20
 t37:=Tryz.underlying153
 a37:=Tryz.isAgg153
 z37:=Tryz.sizeOf153
 v37:=Tryz.zeroValue153
 t46:=Tryz.underlying150
 a46:=Tryz.isAgg150
 z46:=Tryz.sizeOf150
 v46:=Tryz.zeroValue150
 t51:=Tryz.underlying205
 a51:=Tryz.isAgg205
 z51:=Tryz.sizeOf205
 v51:=Tryz.zeroValue205
 t53:=Tryz.underlying39
 a53:=Tryz.isAgg39
 z53:=Tryz.sizeOf39
 v53:=Tryz.zeroValue39
 t171:=Tryz.underlying271
 a171:=Tryz.isAgg271
 z171:=Tryz.sizeOf271
 v171:=Tryz.zeroValue271
 t173:=Tryz.underlying273
 a173:=Tryz.isAgg273
 z173:=Tryz.sizeOf273
 v173:=Tryz.zeroValue273
 t212:=Tryz.underlying283
 a212:=Tryz.isAgg283
 z212:=Tryz.sizeOf283
 v212:=Tryz.zeroValue283
 t213:=Tryz.underlying284
 a213:=Tryz.isAgg284
 z213:=Tryz.sizeOf284
 t232:=Tryz.underlying285
 a232:=Tryz.isAgg285
 z232:=Tryz.sizeOf285
 v232:=Tryz.zeroValue285
 t233:=Tryz.underlying286
 a233:=Tryz.isAgg286
 z233:=Tryz.sizeOf286
 v233:=Tryz.zeroValue286
 g17:=by kernel_rfl
 g18:=by kernel_rfl
 g19:=by kernel_rfl
 i0:=by kernel_rfl
 i2:=by kernel_rfl
 i3:=by kernel_rfl
 i4:=by kernel_rfl
 i5:=by kernel_rfl
 i9:=by kernel_rfl
 i20:=by kernel_rfl
 i37:=by kernel_rfl
 i46:=by kernel_rfl
 i51:=by kernel_rfl
 i53:=by kernel_rfl
 i171:=by kernel_rfl
 i173:=by kernel_rfl
 i212:=by kernel_rfl
 i232:=by kernel_rfl
 i233:=by kernel_rfl
 m17:=by kernel_rfl
 m18:=by kernel_rfl
 m19:=by kernel_rfl}
open Go.RowKit Go.Sort Go.Lib in
theorem Tryz.strconv_Itoa (n:Int) (h0 : -9223372036854775808<=n) (h1:n<=9223372036854775807) (w:World) (htab:Lib.TabIs Tryz.prog w "internal/strconv.uint64pow10" .u64 Lib.pow10Tab) :
  Calls Tryz.prog 118 #[.int .i64 n] w fun e w'=>e = .returned (.string ⟨(Lib.itoa n).toArray⟩)/\∃k os,w'=grow (w.drewN k) os:=Any.strconv_Itoa Tryz.G8 n h0 h1 w htab
def Tryz.Ab:Go.Shelf.Ren:=⟨fun | 172=>117 | 244=>139 | 245=>140 | 247=>164 | 279=>165 | 280=>166 | 281=>167 | 282=>168 | 287=>182 | 316=>183 | 171=>118 | 205=>184 | 321=>191 | 322=>192 | 243=>141 | 246=>169 | 283=>185 | 284=>186 | 285=>187 | 286=>188 | 129=>153 | 317=>193 | 318=>194 | 319=>195 | 320=>196 | 337=>197 | 338=>198 | n=>n,fun | 9=>9 | 3=>3 | 75=>27 | 76=>203 | 4=>4 | 5=>5 | 167=>244 | 37=>153 | 0=>0 | 85=>245 | 2=>2 | 168=>247 | 53=>39 | 175=>267 | 46=>150 | 210=>270 | 127=>233 | 145=>281 | 143=>279 | 21=>21 | 171=>271 | 173=>273 | 212=>283 | 51=>205 | 20=>20 | 213=>284 | 232=>285 | 233=>286 | 80=>215 | n=>n,fun | 15=>3 | 16=>4 | 17=>5 | 18=>6 | 19=>7 | n=>n⟩
theorem Tryz.s6:Go.Proofs.LaysC.n172 Tryz.prog Tryz.Ab:={
 mixed:=by kernel_rfl
 f129:=Tryz.func153.trans (congrArg some (by kernel_rfl))
 f171:=Tryz.func118.trans (congrArg some (by kernel_rfl))
 f172:=Tryz.func117.trans (congrArg some (by kernel_rfl))
 f205:=Tryz.func184.trans (congrArg some (by kernel_rfl))
 f243:=Tryz.func141.trans (congrArg some (by kernel_rfl))
 f244:=Tryz.func139.trans (congrArg some (by kernel_rfl))
 f245:=Tryz.func140.trans (congrArg some (by kernel_rfl))
 f246:=Tryz.func169.trans (congrArg some (by kernel_rfl))
 f247:=Tryz.func164.trans (congrArg some (by kernel_rfl))
 f279:=Tryz.func165.trans (congrArg some (by kernel_rfl))
 f280:=Tryz.func166.trans (congrArg some (by kernel_rfl))
 f281:=Tryz.func167.trans (congrArg some (by kernel_rfl))
 f282:=Tryz.func168.trans (congrArg some (by kernel_rfl))
 f283:=Tryz.func185.trans (congrArg some (by kernel_rfl))
 f284:=Tryz.func186.trans (congrArg some (by kernel_rfl))
 f285:=Tryz.func187.trans (congrArg some (by kernel_rfl))
 f286:=Tryz.func188.trans (congrArg some (by kernel_rfl))
 f287:=Tryz.func182.trans (congrArg some (by kernel_rfl))
 f316:=Tryz.func183.trans (congrArg some (by kernel_rfl))
 f317:=Tryz.func193.trans (congrArg some (by kernel_rfl))
 f318:=Tryz.func194.trans (congrArg some (by kernel_rfl))
 f319:=Tryz.func195.trans (congrArg some (by kernel_rfl))
 f320:=Tryz.func196.trans (congrArg some (by kernel_rfl))
 f321:=Tryz.func191.trans (congrArg some (by kernel_rfl))
 f322:=Tryz.func192.trans (congrArg some (by kernel_rfl))
 f337:=Tryz.func197.trans (congrArg some (by kernel_rfl))
 f338:=Tryz.func198.trans (congrArg some (by kernel_rfl))
 t0:=Tryz.underlying0
 a0:=Tryz.isAgg0
 z0:=Tryz.sizeOf0
 v0:=Tryz.zeroValue0
 t2:=Tryz.underlying2
 a2:=Tryz.isAgg2
 z2:=Tryz.sizeOf2
 v2:=Tryz.zeroValue2
 t3:=Tryz.underlying3
 a3:=Tryz.isAgg3
 z3:=Tryz.sizeOf3
 v3:=Tryz.zeroValue3
 t4:=Tryz.underlying4
 a4:=Tryz.isAgg4
 z4:=Tryz.sizeOf4
 v4:=Tryz.zeroValue4
 t5:=Tryz.underlying5
 a5:=Tryz.isAgg5
 z5:=Tryz.sizeOf5
 v5:=Tryz.zeroValue5
 t9:=Tryz.underlying9
 a9:=Tryz.isAgg9
 z9:=Tryz.sizeOf9
 v9:=Tryz.zeroValue9
 t20:=Tryz.underlying20
 a20:=Tryz.isAgg20
 z20:=Tryz.sizeOf20
 v20:=Tryz.zeroValue20
 t21:=Tryz.underlying21
 a21:=Tryz.isAgg21
 z21:=Tryz.sizeOf21
 v21:=Tryz.zeroValue21
 t37:=Tryz.underlying153
 a37:=Tryz.isAgg153
 z37:=Tryz.sizeOf153
 v37:=Tryz.zeroValue153
 t46:=Tryz.underlying150
 a46:=Tryz.isAgg150
 z46:=Tryz.sizeOf150
 v46:=Tryz.zeroValue150
 t51:=Tryz.underlying205
 a51:=Tryz.isAgg205
 z51:=Tryz.sizeOf205
 v51:=Tryz.zeroValue205
 t53:=Tryz.underlying39
 a53:=Tryz.isAgg39
 z53:=Tryz.sizeOf39
 v53:=Tryz.zeroValue39
 t75:=Tryz.underlying27
 a75:=Tryz.isAgg27
 z75:=Tryz.sizeOf27
 v75:=Tryz.zeroValue27
 t76:=Tryz.underlying203
 a76:=Tryz.isAgg203
 z76:=Tryz.sizeOf203
 v76:=Tryz.zeroValue203
 t85:=Tryz.underlying245
 a85:=Tryz.isAgg245
 z85:=Tryz.sizeOf245
 v85:=Tryz.zeroValue245
 t127:=Tryz.underlying233
 a127:=Tryz.isAgg233
 z127:=Tryz.sizeOf233
 v127:=Tryz.zeroValue233
 t143:=Tryz.underlying279
 a143:=Tryz.isAgg279
 z143:=Tryz.sizeOf279
 v143:=Tryz.zeroValue279
 t145:=Tryz.underlying281
 a145:=Tryz.isAgg281
 z145:=Tryz.sizeOf281
 v145:=Tryz.zeroValue281
 t167:=Tryz.underlying244
 a167:=Tryz.isAgg244
 z167:=Tryz.sizeOf244
 v167:=Tryz.zeroValue244
 t168:=Tryz.underlying247
 a168:=Tryz.isAgg247
 z168:=Tryz.sizeOf247
 v168:=Tryz.zeroValue247
 t171:=Tryz.underlying271
 a171:=Tryz.isAgg271
 z171:=Tryz.sizeOf271
 v171:=Tryz.zeroValue271
 t173:=Tryz.underlying273
 a173:=Tryz.isAgg273
 z173:=Tryz.sizeOf273
 v173:=Tryz.zeroValue273
 t175:=Tryz.underlying267
 a175:=Tryz.isAgg267
 z175:=Tryz.sizeOf267
 v175:=Tryz.zeroValue267
 t210:=Tryz.underlying270
 a210:=Tryz.isAgg270
 z210:=Tryz.sizeOf270
 v210:=Tryz.zeroValue270
 t212:=Tryz.underlying283
 a212:=Tryz.isAgg283
 z212:=Tryz.sizeOf283
 v212:=Tryz.zeroValue283
 t213:=Tryz.underlying284
 a213:=Tryz.isAgg284
 z213:=Tryz.sizeOf284
 t232:=Tryz.underlying285
 a232:=Tryz.isAgg285
 z232:=Tryz.sizeOf285
 v232:=Tryz.zeroValue285
 t233:=Tryz.underlying286
 a233:=Tryz.isAgg286
 z233:=Tryz.sizeOf286
 v233:=Tryz.zeroValue286
 g15:=by kernel_rfl
 g16:=by kernel_rfl
 g17:=by kernel_rfl
 g18:=by kernel_rfl
 g19:=by kernel_rfl
 t80:=Tryz.underlying215
 a80:=Tryz.isAgg215
 z80:=Tryz.sizeOf215
 v80:=Tryz.zeroValue215
 i0:=by kernel_rfl
 i2:=by kernel_rfl
 i3:=by kernel_rfl
 i4:=by kernel_rfl
 i5:=by kernel_rfl
 i9:=by kernel_rfl
 i20:=by kernel_rfl
 i21:=by kernel_rfl
 i37:=by kernel_rfl
 i46:=by kernel_rfl
 i51:=by kernel_rfl
 i53:=by kernel_rfl
 i75:=by kernel_rfl
 i76:=by kernel_rfl
 i80:=by kernel_rfl
 i85:=by kernel_rfl
 i127:=by kernel_rfl
 i143:=by kernel_rfl
 i145:=by kernel_rfl
 i167:=by kernel_rfl
 i168:=by kernel_rfl
 i171:=by kernel_rfl
 i173:=by kernel_rfl
 i175:=by kernel_rfl
 i210:=by kernel_rfl
 i212:=by kernel_rfl
 i232:=by kernel_rfl
 i233:=by kernel_rfl
 m15:=by kernel_rfl
 m16:=by kernel_rfl
 m17:=by kernel_rfl
 m18:=by kernel_rfl
 m19:=by kernel_rfl
 c0:=by kernel_rfl
 c2:=by kernel_rfl
 c3:=by kernel_rfl
 c4:=by kernel_rfl
 c5:=by kernel_rfl
 c9:=by kernel_rfl
 c20:=by kernel_rfl
 c21:=by kernel_rfl
 c37:=by kernel_rfl
 c46:=by kernel_rfl
 c51:=by kernel_rfl
 c53:=by kernel_rfl
 c75:=by kernel_rfl
 c76:=by kernel_rfl
 c80:=by kernel_rfl
 c85:=by kernel_rfl
 c127:=by kernel_rfl
 c143:=by kernel_rfl
 c145:=by kernel_rfl
 c167:=by kernel_rfl
 c168:=by kernel_rfl
 c171:=by kernel_rfl
 c173:=by kernel_rfl
 c175:=by kernel_rfl
 c210:=by kernel_rfl
 c212:=by kernel_rfl
 c213:=by kernel_rfl
 c232:=by kernel_rfl
 c233:=by kernel_rfl}
open Go.RowKit in
theorem Tryz.strconv_Atoi_ok (s:ByteArray) (hmax:s.size<=9223372036854775806) (v:Int) (h:Lib.atoiAll s.data.toList = .ok v) (w:World) :
  Calls Tryz.prog 117 #[.string s] w fun e w'=>e = .returned (.tuple #[.int .i64 v, .nilIface])/\(w'=w\/∃t,w'=Lib.bytesWorld w 5 t):=Any.strconv_Atoi_ok Tryz.s6 s hmax v h w
open Go.RowKit in
theorem Tryz.strconv_Atoi_syntax (s:ByteArray) (hlim:s.size<=281474976710656) (h:Lib.atoiAll s.data.toList=Go.Lib.NumEnd.syntax) (ev:Value) (w:World) (hv:w.cell? ⟨3,0,none⟩=some ev) (hev:ev = .nilIface\/∃te pe,ev = .iface te pe) :
  Calls Tryz.prog 117 #[.string s] w fun e w'=>∃N,e = .returned (.tuple #[.int .i64 (0), .iface 247 (.pointer (some ⟨N,0,none⟩))])/\w.heap.size<=N/\w'.heap[N]?=some (.cells #[.string ⟨#[65,116,111,105]⟩, .string s,ev] 270 (0,0))/\Below w.heap.size w w':=Any.strconv_Atoi_syntax Tryz.s6 s hlim h ev w hv hev
open Go.RowKit in
theorem Tryz.strconv_Atoi_range (s:ByteArray) (hlim:s.size<=281474976710656) (h:Lib.atoiAll s.data.toList = .range) (ev:Value) (w:World) (hv:w.cell? ⟨4,0,none⟩=some ev) (hev:ev = .nilIface\/∃te pe,ev = .iface te pe) :
  Calls Tryz.prog 117 #[.string s] w fun e w'=>∃N,e = .returned (.tuple #[.int .i64 (Lib.atoiSat s.data.toList), .iface 247 (.pointer (some ⟨N,0,none⟩))])/\w.heap.size<=N/\w'.heap[N]?=some (.cells #[.string ⟨#[65,116,111,105]⟩, .string s,ev] 270 (0,0))/\Below w.heap.size w w':=Any.strconv_Atoi_range Tryz.s6 s hlim h ev w hv hev
def Tryz.Bi:Go.Shelf.Ren:=⟨fun | 102=>82 | 209=>116 | 207=>138 | n=>n,fun | 9=>9 | 4=>4 | 3=>3 | n=>n,fun | n=>n⟩
theorem Tryz.Ir:Go.Proofs.Lays.n102 Tryz.prog Tryz.Bi:={
 mixed:=by kernel_rfl
 f102:=Tryz.func82.trans (congrArg some (by kernel_rfl))
 f207:=Tryz.func138.trans (congrArg some (by kernel_rfl))
 f209:=Tryz.func116.trans (congrArg some (by kernel_rfl))
 t3:=Tryz.underlying3
 a3:=Tryz.isAgg3
 z3:=Tryz.sizeOf3
 v3:=Tryz.zeroValue3
 t4:=Tryz.underlying4
 a4:=Tryz.isAgg4
 z4:=Tryz.sizeOf4
 v4:=Tryz.zeroValue4
 t9:=Tryz.underlying9
 a9:=Tryz.isAgg9
 z9:=Tryz.sizeOf9
 v9:=Tryz.zeroValue9}
open Go.RowKit Go.Lib in
theorem Tryz.strings_TrimSuffix (s p:ByteArray) (w:World) (hs:s.size<=9223372036854775807) :
  Calls Tryz.prog 82 #[.string s, .string p] w fun e w'=>e = .returned (.string ⟨(Lib.trimSuffix s.data.toList p.data.toList).toArray⟩)/\w'=w:=Any.strings_TrimSuffix Tryz.Ir s p w hs
def Tryz.Bj:Go.Shelf.Ren:=⟨fun | 146=>81 | 221=>80 | 268=>113 | 138=>114 | 143=>115 | 195=>134 | 197=>135 | 218=>136 | 219=>137 | 260=>159 | 217=>160 | 225=>161 | 224=>162 | 267=>163 | 266=>180 | 314=>181 | n=>n,fun | 9=>9 | 31=>54 | 3=>3 | 4=>4 | 0=>0 | 105=>228 | 21=>21 | 5=>5 | 46=>150 | 119=>262 | 139=>265 | 138=>264 | 146=>206 | 51=>205 | n=>n,fun | 1=>0 | 3=>1 | 4=>2 | n=>n⟩
theorem Tryz.Is:Go.Proofs.Lays.n146 Tryz.prog Tryz.Bj:={
 mixed:=by kernel_rfl
 f138:=Tryz.func114.trans (congrArg some (by kernel_rfl))
 f143:=Tryz.func115.trans (congrArg some (by kernel_rfl))
 f146:=Tryz.func81.trans (congrArg some (by kernel_rfl))
 f195:=Tryz.func134.trans (congrArg some (by kernel_rfl))
 f197:=Tryz.func135.trans (congrArg some (by kernel_rfl))
 f217:=Tryz.func160.trans (congrArg some (by kernel_rfl))
 f218:=Tryz.func136.trans (congrArg some (by kernel_rfl))
 f219:=Tryz.func137.trans (congrArg some (by kernel_rfl))
 f221:=Tryz.func80.trans (congrArg some (by kernel_rfl))
 f224:=Tryz.func162.trans (congrArg some (by kernel_rfl))
 f225:=Tryz.func161.trans (congrArg some (by kernel_rfl))
 f260:=Tryz.func159.trans (congrArg some (by kernel_rfl))
 f266:=Tryz.func180.trans (congrArg some (by kernel_rfl))
 f267:=Tryz.func163.trans (congrArg some (by kernel_rfl))
 f268:=Tryz.func113.trans (congrArg some (by kernel_rfl))
 f314:=Tryz.func181.trans (congrArg some (by kernel_rfl))
 t0:=Tryz.underlying0
 a0:=Tryz.isAgg0
 z0:=Tryz.sizeOf0
 v0:=Tryz.zeroValue0
 t3:=Tryz.underlying3
 a3:=Tryz.isAgg3
 z3:=Tryz.sizeOf3
 v3:=Tryz.zeroValue3
 t4:=Tryz.underlying4
 a4:=Tryz.isAgg4
 z4:=Tryz.sizeOf4
 v4:=Tryz.zeroValue4
 t5:=Tryz.underlying5
 a5:=Tryz.isAgg5
 z5:=Tryz.sizeOf5
 v5:=Tryz.zeroValue5
 t9:=Tryz.underlying9
 a9:=Tryz.isAgg9
 z9:=Tryz.sizeOf9
 v9:=Tryz.zeroValue9
 t21:=Tryz.underlying21
 a21:=Tryz.isAgg21
 z21:=Tryz.sizeOf21
 v21:=Tryz.zeroValue21
 t31:=Tryz.underlying54
 a31:=Tryz.isAgg54
 z31:=Tryz.sizeOf54
 v31:=Tryz.zeroValue54
 t46:=Tryz.underlying150
 a46:=Tryz.isAgg150
 z46:=Tryz.sizeOf150
 v46:=Tryz.zeroValue150
 t51:=Tryz.underlying205
 a51:=Tryz.isAgg205
 z51:=Tryz.sizeOf205
 v51:=Tryz.zeroValue205
 t105:=Tryz.underlying228
 a105:=Tryz.isAgg228
 z105:=Tryz.sizeOf228
 v105:=Tryz.zeroValue228
 t119:=Tryz.underlying262
 a119:=Tryz.isAgg262
 z119:=Tryz.sizeOf262
 t138:=Tryz.underlying264
 a138:=Tryz.isAgg264
 z138:=Tryz.sizeOf264
 v138:=Tryz.zeroValue264
 t139:=Tryz.underlying265
 a139:=Tryz.isAgg265
 z139:=Tryz.sizeOf265
 v139:=Tryz.zeroValue265
 t146:=Tryz.underlying206
 a146:=Tryz.isAgg206
 z146:=Tryz.sizeOf206
 v146:=Tryz.zeroValue206
 g1:=by kernel_rfl
 g3:=by kernel_rfl
 g4:=by kernel_rfl}
open Go.RowKit Go.Lib in
theorem Tryz.strings_Split (s sep:ByteArray) (m:Int) (w:World) (hs:s.size < 4294967281) (hm:w.cell? ⟨0,0,none⟩=some (.int .i64 m)) (h1:1<=sep.size) :
  Calls Tryz.prog 81 #[.string s, .string sep] w fun e w'=>
   e = .returned (.slice (some ⟨w.heap.size,0,none⟩) (Lib.countB s sep + 1) (Lib.countB s sep + 1))/\w'=w.alloc (.cells ((Lib.splitB sep 0 (Lib.countB s sep) s).map Value.string).toArray 9):=Any.strings_Split Tryz.Is (by kernel_rfl) s sep m w hs hm h1
end Go.Proofs.YtgokjhhcfemnhaaGreatDoor

namespace Go.Proofs.YtgokjhhcfemnhaaGreatDoor
open Go.Vg Go.Mrl
theorem DN (w:World) (k:Nat) (os:Array Obj):Vg.Below w.heap.size w (Sort.grow (w.drewN k) os):=by
 refine ⟨rfl,rfl,?_,fun i hi => ?_⟩
 ·show w.heap.size<=(w.heap++os).size
  simp
 ·show (w.heap++os)[i]?=w.heap[i]?
  rw [Array.getElem?_append,if_pos hi]
theorem It {eT:TypeId} {n:Int} {O:aF} {w:World} {v:Value} (h:VR eT (.int .i64) n O w v):v = .int .i64 n/\-9223372036854775808<=n/\n<=9223372036854775807:=by
 obtain ⟨h1,h2,h3⟩:=VR.one rfl h
 exact ⟨by simpa using h1,h2,h3⟩
theorem kE {eT:TypeId} {s:List UInt8} {O:aF} {w:World} {v:Value} (h:VR eT .str s O w v):v = .string ⟨s.toArray⟩/\s.length<=aH:=by
 obtain ⟨h1,h2⟩:=VR.one rfl h
 exact ⟨by simpa using h1,h2⟩
theorem Ac {eT:TypeId} {s:List UInt8} {O:aF} {w:World} (h:s.length<=aH):VR eT .str s O w (.string ⟨s.toArray⟩):=VR.bV rfl ⟨rfl,h⟩
theorem pn:∀(k u:Nat),u < 10 ^ (k + 1)->Lib.nDigits u<=k + 1
 | 0,u,h=>by rw [Lib.nDigits_small (by simpa using h)];exact Nat.le_refl _
 | k + 1,u,h=>by
  by_cases hu:u < 10
  ·rw [Lib.nDigits_small hu];omega
  ·rw [Lib.nDigits_big hu]
   have:=pn k (u / 10) (by rw [Nat.pow_succ] at h;omega)
   omega
theorem G9 {n:Int} (h0 : -9223372036854775808<=n) (h1:n<=9223372036854775807):(Lib.itoa n).length<=21:=by
 unfold Lib.itoa
 split
 ·rw [List.length_cons,Lib.decDigits_length]
  have:=pn 19 n.natAbs (by omega)
  omega
 ·rw [Lib.decDigits_length]
  have:=pn 19 n.toNat (by omega)
  omega
theorem Tryz.po:bI Tryz.prog Tryz.B.eT Tryz.X 118 [.int .i64] [.str] (fun _=>True) (fun n y=>y=Lib.itoa n):=by
 refine ⟨⟨Tryz.f118,Tryz.func118,by kernel_rfl,by kernel_rfl⟩,fun O w n vs hG hO ha _ => ?_⟩
 obtain ⟨v,rfl,hv⟩:=ha
 obtain ⟨rfl,h0,h1⟩:=It hv
 refine (Tryz.strconv_Itoa n h0 h1 w hG.pow).mono ?_
 rintro e w' ⟨rfl,k,os,rfl⟩
 exact ⟨[.string ⟨(Lib.itoa n).toArray⟩],Lib.itoa n,rfl,rfl,⟨_,rfl,Ac (by have:=G9 h0 h1;unfold aH;omega)⟩,DN w k os⟩
theorem Tryz.s7:bI Tryz.prog Tryz.B.eT Tryz.X 117 [.str] [.int .i64, .err] (fun s=>s.length<=281474976710656) (fun s y=>y=cO s):=by
 refine ⟨⟨Tryz.f117,Tryz.func117,by kernel_rfl,by kernel_rfl⟩,fun O w s vs hG hO ha hs => ?_⟩
 obtain ⟨v,rfl,hv⟩:=ha
 obtain ⟨rfl,hl⟩:=kE hv
 have hsz:(⟨s.toArray⟩:ByteArray).size=s.length:=by simp [ByteArray.size]
 have hsl:(⟨s.toArray⟩:ByteArray).data.toList=s:=by simp
 cases ha:Lib.atoiAll s with
 | ok n=>
  refine (Tryz.strconv_Atoi_ok ⟨s.toArray⟩ (by rw [hsz];omega) n (by rw [hsl];exact ha) w).mono ?_
  rintro e w' ⟨rfl,hw⟩
  obtain ⟨b0,b1⟩:=Lib.atoiAll_bounds ha
  refine ⟨[.int .i64 n, .nilIface],(n, .nil),rfl,by unfold cO;rw [ha],⟨_,_,rfl,VR.bV rfl ⟨rfl,b0,b1⟩,⟨_,rfl,VR.bV rfl ⟨_,rfl,rfl⟩⟩⟩,?_⟩
  rcases hw with rfl | ⟨t,rfl⟩
  ·exact Vg.Below.refl _ _
  ·exact .of (Lib.bytesWorld_below _ _ _)
 | range=>
  obtain ⟨ev,hv,he⟩:=hG.JR
  obtain ⟨b0,b1⟩:=Lib.atoiSat_bounds s
  have hA:=Tryz.strconv_Atoi_range ⟨s.toArray⟩ (by rw [hsz];exact hs) (by rw [hsl];exact ha) ev w hv he
  rw [hsl] at hA
  refine hA.mono ?_
  rintro e w' ⟨N,rfl,_,_,hb⟩
  exact ⟨[.int .i64 (Lib.atoiSat s),_],(Lib.atoiSat s, .other),rfl,by unfold cO;rw [ha],⟨_,_,rfl,VR.bV rfl ⟨rfl,b0,b1⟩,⟨_,rfl,VR.bV rfl ⟨_,rfl,_,_,rfl,by decide +kernel⟩⟩⟩, .of hb⟩
 | _=>
  obtain ⟨ev,hv,he⟩:=hG.JQ
  refine (Tryz.strconv_Atoi_syntax ⟨s.toArray⟩ (by rw [hsz];exact hs) (by rw [hsl];exact ha) ev w hv he).mono ?_
  rintro e w' ⟨N,rfl,_,_,hb⟩
  exact ⟨[.int .i64 0,_],(0, .other),rfl,by unfold cO;rw [ha],⟨_,_,rfl,VR.bV rfl ⟨rfl,by decide,by decide⟩,⟨_,rfl,VR.bV rfl ⟨_,rfl,_,_,rfl,by decide +kernel⟩⟩⟩, .of hb⟩
theorem Tryz.mm:bI Tryz.prog Tryz.B.eT Tryz.X 124 [.str, .str] [.str, .bool] (fun _=>True) (fun x y=>y=(Lib.trimPrefix x.1 x.2,Lib.hasPrefix x.1 x.2)):=by
 refine ⟨⟨Tryz.f124,Tryz.func124,by kernel_rfl,by kernel_rfl⟩,fun O w x vs hG hO ha _ => ?_⟩
 obtain ⟨s,p⟩:=x
 obtain ⟨v,vs',rfl,hv,u,rfl,hu⟩:=ha
 obtain ⟨rfl,hl⟩:=kE hv
 obtain ⟨rfl,_⟩:=kE hu
 refine (Tryz.strings_CutPrefix ⟨s.toArray⟩ ⟨p.toArray⟩ w).mono ?_
 rintro e w' ⟨rfl,rfl⟩
 have hle:(Lib.trimPrefix s p).length<=s.length:=by unfold Lib.trimPrefix;split <;> simp
 exact ⟨[.string ⟨(Lib.trimPrefix s p).toArray⟩, .bool (Lib.hasPrefix s p)],_,rfl,rfl,⟨_,_,rfl,Ac (Nat.le_trans hle hl),_,rfl,VR.bV rfl rfl⟩,Vg.Below.refl _ _⟩
theorem Tryz.lu:bI Tryz.prog Tryz.B.eT Tryz.X 82 [.str, .str] [.str] (fun _=>True) (fun x y=>y=Lib.trimSuffix x.1 x.2):=by
 refine ⟨⟨Tryz.f82,Tryz.func82,by kernel_rfl,by kernel_rfl⟩,fun O w x vs hG hO ha _ => ?_⟩
 obtain ⟨s,p⟩:=x
 obtain ⟨v,vs',rfl,hv,u,rfl,hu⟩:=ha
 obtain ⟨rfl,hl⟩:=kE hv
 obtain ⟨rfl,_⟩:=kE hu
 have hl:s.length<=aH:=hl
 have hsz:(⟨s.toArray⟩:ByteArray).size=s.length:=by simp [ByteArray.size]
 refine (Tryz.strings_TrimSuffix ⟨s.toArray⟩ ⟨p.toArray⟩ w (by rw [hsz];exact hl)).mono ?_
 rintro e w' ⟨rfl,rfl⟩
 have hle:(Lib.trimSuffix s p).length<=s.length:=by unfold Lib.trimSuffix;split <;> simp
 exact ⟨[.string ⟨(Lib.trimSuffix s p).toArray⟩],_,rfl,rfl,⟨_,rfl,Ac (Nat.le_trans hle hl)⟩,Vg.Below.refl _ _⟩
theorem Tryz.s9:bI Tryz.prog Tryz.B.eT Tryz.X 81 [.str, .str] [.slice .str] (fun x=>x.1.length < 4294967281/\x.2.length=1) (fun x y=>y=parts (HE x.2) x.1):=by
 refine ⟨⟨Tryz.f81,Tryz.func81,by kernel_rfl,by kernel_rfl⟩,fun O w x vs hG hO ha hp => ?_⟩
 obtain ⟨s,p⟩:=x
 obtain ⟨hs,hp⟩:=hp
 obtain ⟨c,rfl⟩:∃c,p = [c]:=List.length_eq_one_iff.1 hp
 obtain ⟨v,vs',rfl,hv,u,rfl,hu⟩:=ha
 obtain ⟨rfl,hl⟩:=kE hv
 obtain ⟨rfl,_⟩:=kE hu
 obtain ⟨m,hm⟩:=hG.max
 have hsz:(⟨s.toArray⟩:ByteArray).size=s.length:=by simp [ByteArray.size]
 have h1:1<=(⟨#[c]⟩:ByteArray).size:=Nat.le_refl 1
 refine (Tryz.strings_Split ⟨s.toArray⟩ ⟨#[c]⟩ m w (by rw [hsz];exact hs) hm h1).mono ?_
 rintro e w' ⟨rfl,rfl⟩
 have hlen:=Lib.splitB_all ⟨#[c]⟩ h1 0 _ ⟨s.toArray⟩ rfl
 have hdat:=Lib.splitB_data ⟨#[c]⟩ 0 (Lib.countB ⟨s.toArray⟩ ⟨#[c]⟩) ⟨s.toArray⟩
 have hcb:=Lib.countB_le ⟨#[c]⟩ h1 _ ⟨s.toArray⟩ (Nat.le_refl _)
 have hd:(Lib.splitB ⟨#[c]⟩ 0 (Lib.countB ⟨s.toArray⟩ ⟨#[c]⟩) ⟨s.toArray⟩).map (·.data.toList)=parts c s:=by rw [hdat,<-mg,<-Lib.count_one]
 have hlf:(parts c s).length=Lib.countB ⟨s.toArray⟩ ⟨#[c]⟩ + 1:=by rw [<-hd,List.length_map,hlen]
 refine ⟨[_],parts c s,rfl,rfl,⟨_,rfl,VR.bV rfl ⟨_,rfl,?_, .inr ⟨w.heap.size,0,Lib.countB ⟨s.toArray⟩ ⟨#[c]⟩ + 1,by rw [hlf],by rw [hlf];exact Nat.le_refl _,fun i y hy => ?_⟩⟩⟩,(Vg.Below.refl _ w).alloc (Nat.le_refl _) _⟩
 ·rw [hlf];have hs:s.length < 4294967281:=hs;rw [hsz] at hcb;unfold aH;omega
 ·have hyl:=jr c s y (List.mem_of_getElem? hy)
  refine ⟨[.string ⟨y.toArray⟩],⟨rfl,Nat.le_trans hyl hl⟩,fun j u hj=>⟨?_,fun hh => ?_⟩⟩
  ·have hj0:j=0:=by
    rcases j with _ | j
    ·rfl
    ·simp at hj
   subst hj0
   simp at hj
   subst hj
   rw [<-hd,List.getElem?_map,Option.map_eq_some_iff] at hy
   obtain ⟨q,hq,rfl⟩:=hy
   have hh:(w.alloc (.cells ((Lib.splitB ⟨#[c]⟩ 0 (Lib.countB ⟨s.toArray⟩ ⟨#[c]⟩) ⟨s.toArray⟩).map Value.string).toArray 9)).heap[w.heap.size]?=some (.cells ((Lib.splitB ⟨#[c]⟩ 0 (Lib.countB ⟨s.toArray⟩ ⟨#[c]⟩) ⟨s.toArray⟩).map Value.string).toArray 9 (0,0)):=heap_alloc_new w _
   rw [Lib.cell_of_heap hh]
   simp only [Ty.size,Nat.mul_one,Nat.zero_add,Nat.add_zero,List.getElem?_toArray,List.getElem?_map,hq,Option.map_some]
  ·have:=hO _ _ hh
   simp at this
end Go.Proofs.YtgokjhhcfemnhaaGreatDoor

namespace Go.Proofs.YtgokjhhcfemnhaaGreatDoor
open Go.Vg Go.Mrl
@[reducible] def Tryz.mn:List Ob:=[.box 4 [.d .bool]]
@[reducible] def Tryz.jB:List Ob:=[.box 88 [.obj 1, .obj 2, .obj 3, .obj 4], .tok .str, .tok (.int .i64), .tok aD, .tok aL, .box 4 [.d .bool]]
def Tryz.pq:List (Alt Tryz.mn [.d .str, .obj 0]):=[{bE:=Tryz.mn,res:=[.d (.int .i64)],out:=fun a x=>((x.1.1 || (dq a.1).isNone,()),()),ret:=fun a _=>((cO a.1).1,())}]
noncomputable def Tryz.wV:List (FuncId × (Bool × bQ)):=[(118,(true,aM [.int .i64] [.str] (fun _=>True) (fun n=>Lib.itoa n))),
 (117,(true,aM [.str] [.int .i64, .err] (fun s=>s.length<=281474976710656) (fun s=>cO s))),
 (124,(true,aM [.str, .str] [.str, .bool] (fun _=>True) (fun x=>(Lib.trimPrefix x.1 x.2,Lib.hasPrefix x.1 x.2)))),
 (82,(true,aM [.str, .str] [.str] (fun _=>True) (fun x=>Lib.trimSuffix x.1 x.2))),
 (81,(true,aM [.str, .str] [.slice .str] (fun x=>x.1.length < 4294967281/\x.2.length=1) (fun x=>parts (HE x.2) x.1)))]
theorem Tryz.Bk:bZ Tryz.prog Tryz.B Tryz.X Tryz.wV:=
 aO (aG Tryz.po) (aO (aG Tryz.s7) (aO (aG Tryz.mm) (aO (aG Tryz.lu) (aO (aG Tryz.s9) (cm Tryz.cn)))))
theorem DO (s:List UInt8) (b:Bool) (hw:hP [.d .str, .obj 0] (s,())) (hp:(fun a _=>a.1.length<=1000000) (s,()) ((b,()),())):(dR Tryz.B Tryz.wV Tryz.f125 [] Tryz.mn [.d .str, .obj 0] Tryz.pq (s,()) ((b,()),())).holds:=by
 refine holds_of (p:=
  let za:=((b || Option.isNone (dq s),()),())
  let zb:=((cO s).1,())
  let zc:=True/\((true,()),())=za/\zb=zb
  (List.length s<=(281474976710656:Nat))/\(((b)=true->(zc))/\((b)=false->(((!cg.isNil (cO s).2)=true->(zc))/\((!cg.isNil (cO s).2)=false->(True)/\(True/\((!Lib.itoa (cO s).1 == s,()),())=za/\zb=zb)))))) (by kernel_rfl) ?_
 dsimp -iota -proj -eta only
 dsimp only at hp
 refine ⟨(by omega),⟨fun h0=>(by simp_all),fun h0=>⟨fun h1 => ?a,fun h1=>⟨trivial,?b⟩⟩⟩⟩
 case a=>
  simp only [bl,reduceCtorEq] at h1
  exact ⟨trivial,by rw [wu,h1];simp,rfl⟩
 case b=>
  simp only [bl,reduceCtorEq] at h1
  exact ⟨trivial,by rw [wu,h1];cases b <;> simp_all <;> (rw [Bool.eq_iff_iff];simp),rfl⟩
theorem Tryz.DP:cG Tryz.prog Tryz.B.eT Tryz.X 125 false (bG Tryz.mn [.d .str, .obj 0] (fun a _=>a.1.length<=1000000) Tryz.pq):=
 ch (X:=Tryz.X) Tryz.Bk Tryz.func125 (by kernel_rfl) (fun (a:CD [.d .str, .obj 0]) (x:PD Tryz.mn)=>[]) (fun (a:CD [.d .str, .obj 0]) (x:PD Tryz.mn) hw hp=>DO a.1 x.1.1 hw hp)
def Tryz.ta:List (Alt Tryz.jB [.obj 0, .d .str, .obj 5]):=[{bE:=Tryz.jB,res:=[],out:=fun a x=>E6 (du (GH x) x.2.2.2.2.2.1.1 a.1),ret:=fun _ _=>()}]
end Go.Proofs.YtgokjhhcfemnhaaGreatDoor

namespace Go.Proofs.YtgokjhhcfemnhaaGreatDoor
open Go.Vg Go.Mrl
noncomputable def Tryz.Cn:List (FuncId × (Bool × bQ)):=[(118,(true,aM [.int .i64] [.str] (fun _=>True) (fun n=>Lib.itoa n))),
 (117,(true,aM [.str] [.int .i64, .err] (fun s=>s.length<=281474976710656) (fun s=>cO s))),
 (124,(true,aM [.str, .str] [.str, .bool] (fun _=>True) (fun x=>(Lib.trimPrefix x.1 x.2,Lib.hasPrefix x.1 x.2)))),
 (82,(true,aM [.str, .str] [.str] (fun _=>True) (fun x=>Lib.trimSuffix x.1 x.2))),
 (81,(true,aM [.str, .str] [.slice .str] (fun x=>x.1.length < 4294967281/\x.2.length=1) (fun x=>parts (HE x.2) x.1))),
 (125,(false,bG Tryz.mn [.d .str, .obj 0] (fun a _=>a.1.length<=1000000) Tryz.pq))]
theorem Tryz.Fs:bZ Tryz.prog Tryz.B Tryz.X Tryz.Cn:=
 aO (aG Tryz.po) (aO (aG Tryz.s7) (aO (aG Tryz.mm) (aO (aG Tryz.lu) (aO (aG Tryz.s9) (aO (Tryz.DP) (cm Tryz.cn))))))
def Co (s:List UInt8) (_:List (List UInt8)) (_:List Int) (_:List (D aD)) (_:List (D aL)) (_:Bool):cu:=[
 (300001,fun st=>{X:=List (List UInt8),inv:=fun w=>w=parts 32 (Lib.trimPrefix s cw),aY:=fun _=>0,aQ:=fun w=>[(7,sD (.slice .str) w)],aT:=[0,2,6]}),
 (300003,fun st=>{X:=Bool,inv:=fun c=>c=true ↔ (nth .str (bO (.slice .str) st 7) 0=dn/\List.length (bO (.slice .str) st 7)=2),aY:=fun _=>0,aQ:=fun c=>[(18,sB c)],aT:=[0,2,6,7]}),
 (300005,fun st=>{X:=Bool,inv:=fun c=>c=true ↔ (nth .str (bO (.slice .str) st 7) 0=c8/\List.length (bO (.slice .str) st 7)=2),aY:=fun _=>0,aQ:=fun c=>[(40,sB c)],aT:=[0,2,6,7]}),
 (300007,fun st=>{X:=Bool,inv:=fun c=>c=true ↔ (nth .str (bO (.slice .str) st 7) 0=cI/\List.length (bO (.slice .str) st 7)=3),aY:=fun _=>0,aQ:=fun c=>[(64,sB c)],aT:=[0,2,6,7]}),
 (300009,fun st=>{X:=Bool,inv:=fun c=>c=true ↔ (nth .str (bO (.slice .str) st 7) 0=ey/\List.length (bO (.slice .str) st 7)=3),aY:=fun _=>0,aQ:=fun c=>[(93,sB c)],aT:=[0,2,6,7]}),
 (300011,fun st=>{X:=Bool,inv:=fun c=>c=true ↔ ((nth .str (bO (.slice .str) st 7) 0=dw\/nth .str (bO (.slice .str) st 7) 0=dW)/\List.length (bO (.slice .str) st 7)=4),aY:=fun _=>0,aQ:=fun c=>[(123,sB c)],aT:=[0,2,6,7]})]
theorem Ha (s:List UInt8) (n:List (List UInt8)) (w:List Int) (y:List (D aD)) (t:List (D aL)) (b:Bool) (hw:hP [.obj 0, .d .str, .obj 5] (s,())) (hp:(fun a x=>a.1.length<=1000000/\x.2.1.length<=1000000/\x.2.2.1.length<=1000000/\x.2.2.2.1.length<=1000000/\x.2.2.2.2.1.length<=1000000) (s,()) ((),n,w,y,t,(b,()),())):(dR Tryz.B Tryz.Cn Tryz.f97 (Co s n w y t b) Tryz.jB [.obj 0, .d .str, .obj 5] Tryz.ta (s,()) ((),n,w,y,t,(b,()),())).holds:=by
 refine holds_of (p:=
  let za:=[(119:UInt8),101,97,107,32]
  let zb:=Lib.trimPrefix s za
  let zc:=parts (32:UInt8) (Lib.trimPrefix s cw)
  let zd:=n=n
  let ze:=w=w
  let zf:=y=y
  let zg:=t=t
  let zh:=(zd/\ze/\zf/\zg/\True)/\zd/\ze/\zf/\zg/\(b=b/\True)/\True
  let zi:=fun (x_0:List (List UInt8))=>(↑(List.length x_0):Int)
  let zj:=fun (x_0:List (List UInt8))=>(0:Int)<=(0:Int)/\(0:Int) < zi x_0
  let zk:=fun (x_0:List (List UInt8))=>nth Ty.str x_0 (0:Nat)
  let zl:=fun (x_0:List (List UInt8))=>List.length x_0<=aH
  let zm:=fun (x_0:List (List UInt8))=>zk x_0=dn/\List.length x_0=(2:Nat)
  let zn:=fun (x_0:List (List UInt8))=>(0:Int)<=(1:Int)/\(1:Int) < zi x_0
  let zo:=fun (x_0:List (List UInt8))=>nth Ty.str x_0 (1:Nat)
  let zp:=(w,y,t,(b,()),())
  let zq:=E6 (du (GH ((),n,zp)) b s)
  let zr:=()=()
  let zs:=fun (x_0:List (List UInt8))=>zk x_0=c8/\List.length x_0=(2:Nat)
  let zt:=fun (x_0:List (List UInt8))=>List.length (zo x_0)<=(1000000:Nat)
  let zu:=fun (x_0:List (List UInt8))=>(cO (zo x_0)).1
  let zv:=fun (x_0:List (List UInt8))=>zk x_0=cI/\List.length x_0=(3:Nat)
  let zw:=fun (x_0:List (List UInt8))=>(0:Int)<=(2:Int)/\(2:Int) < zi x_0
  let zx:=fun (x_0:List (List UInt8))=>nth Ty.str x_0 (2:Nat)
  let zy:=fun (x_0:List (List UInt8))=>List.length (zx x_0)<=(1000000:Nat)
  let zz:=(Lib.hasPrefix s za,())
  let zaa:=fun (x_0:List (List UInt8))=>[(zo x_0,(cO (zx x_0)).1,zz)]
  let zab:=fun (x_0:List (List UInt8))=>zk x_0=ey/\List.length x_0=(3:Nat)
  let zac:=List.length t
  let zad:=fun (x_0:List (List UInt8))=>[(zu x_0,(1:Int),(cO (zx x_0)).1,@List.nil UInt8,false,())]
  let zae:=fun (x_0:List (List UInt8))=>((b || Option.isNone (dq (zo x_0)) || Option.isNone (dq (zx x_0)),()),())
  let zaf:=fun (x_0:List (List UInt8))=>(zy x_0)/\((True)->(zg/\zac + List.length (zad x_0)<=(1000000000:Nat))/\(zd/\ze/\zf/\t++zad x_0=t++zad x_0/\True/\((),n,w,y,t++zad x_0,zae x_0)=zq/\zr))
  let zag:=fun (x_0:List (List UInt8))=>(zk x_0=dw\/zk x_0=dW)/\List.length x_0=(4:Nat)
  let zah:=fun (x_0:List (List UInt8))=>((zl x_0)->(∃(x':Bool),(x'=true ↔ zag x_0)/\((zi x_0 == (4:Int))=x'/\True)/\zh))
  let zai:=fun (x_0:List (List UInt8))=>zk x_0 == [(110:UInt8),101,97,114]
  let zaj:=fun (x_0:List (List UInt8))=>(0:Int)<=(3:Int)/\(3:Int) < zi x_0
  let zak:=fun (x_0:List (List UInt8))=>((cO (zx x_0)).1,nth Ty.str x_0 (3:Nat),zz)
  let zal:=fun (x_0:List (List UInt8))=>t++[(zu x_0,(3:Int),zak x_0)]
  let zam:=fun (x_0:List (List UInt8))=>(zy x_0)/\((True)->(zg/\zac + List.length [(zu x_0,(3:Int),zak x_0)]<=(1000000000:Nat))/\(zd/\ze/\zf/\zal x_0=zal x_0/\True/\((),n,w,y,zal x_0,zae x_0)=zq/\zr))
  let zan:=fun (x_0:List (List UInt8))=>t++[(zu x_0,(2:Int),zak x_0)]
  let zao:=fun (x_0:List (List UInt8))=>(zy x_0)/\((True)->(zg/\zac + List.length [(zu x_0,(2:Int),zak x_0)]<=(1000000000:Nat))/\(zd/\ze/\zf/\zan x_0=zan x_0/\True/\((),n,w,y,zan x_0,zae x_0)=zq/\zr))
  (True)/\(((List.length zb < (4294967281:Nat)/\List.length [(32:UInt8)]=(1:Nat))/\(∃(x':List (List UInt8)),x'=zc/\(parts (32:UInt8) zb=x'/\True)/\zh))/\((∀x_0:List (List UInt8),((x_0=zc)->(((zj x_0)/\(((zk x_0 == [(110:UInt8),101,101,100])=true->((zl x_0)->(∃(x':Bool),(x'=true ↔ zm x_0)/\((zi x_0 == (2:Int))=x'/\True)/\zh)))/\((zk x_0 == [(110:UInt8),101,101,100])=false->(∃(x':Bool),(x'=true ↔ zm x_0)/\(false=x'/\True)/\zh))))/\((∀x_1:Bool,((x_1=true ↔ zm x_0)->(((x_1)=true->(zn x_0)/\(zd/\List.length n + List.length [zo x_0]<=(1000000000:Nat))/\(n++[zo x_0]=n++[zo x_0]/\ze/\zf/\zg/\True/\((),n++[zo x_0],zp)=zq/\zr))/\((x_1)=false->(((zj x_0)/\(((zk x_0 == [(119:UInt8),111,114,100])=true->((zl x_0)->(∃(x':Bool),(x'=true ↔ zs x_0)/\((zi x_0 == (2:Int))=x'/\True)/\zh)))/\((zk x_0 == [(119:UInt8),111,114,100])=false->(∃(x':Bool),(x'=true ↔ zs x_0)/\(false=x'/\True)/\zh))))/\((∀x_2:Bool,((x_2=true ↔ zs x_0)->(((x_2)=true->(zn x_0)/\((fun a0:Prop=>a0/\a0) ((zt x_0)/\((True)->(ze/\List.length w + List.length [zu x_0]<=(1000000000:Nat))/\(zd/\w++[zu x_0]=w++[zu x_0]/\zf/\zg/\True/\((),n,w++[zu x_0],y,t,(b || Option.isNone (dq (zo x_0)),()),())=zq/\zr)))))/\((x_2)=false->(((zj x_0)/\(((zk x_0 == [(115:UInt8),121,109,98,111,108])=true->((zl x_0)->(∃(x':Bool),(x'=true ↔ zv x_0)/\((zi x_0 == (3:Int))=x'/\True)/\zh)))/\((zk x_0 == [(115:UInt8),121,109,98,111,108])=false->(∃(x':Bool),(x'=true ↔ zv x_0)/\(false=x'/\True)/\zh))))/\((∀x_3:Bool,((x_3=true ↔ zv x_0)->(((x_3)=true->(zn x_0)/\(zw x_0)/\((fun a0:Prop=>a0/\a0) ((zy x_0)/\((True)->(zf/\List.length y + List.length (zaa x_0)<=(1000000000:Nat))/\(zd/\ze/\y++zaa x_0=y++zaa x_0/\zg/\True/\((),n,w,y++zaa x_0,t,(b || Option.isNone (dq (zx x_0)),()),())=zq/\zr)))))/\((x_3)=false->(((zj x_0)/\(((zk x_0 == [(98:UInt8),97,115,101])=true->((zl x_0)->(∃(x':Bool),(x'=true ↔ zab x_0)/\((zi x_0 == (3:Int))=x'/\True)/\zh)))/\((zk x_0 == [(98:UInt8),97,115,101])=false->(∃(x':Bool),(x'=true ↔ zab x_0)/\(false=x'/\True)/\zh))))/\((∀x_4:Bool,((x_4=true ↔ zab x_0)->(((x_4)=true->(zn x_0)/\(zw x_0)/\(((zt x_0)/\((True)->(zaf x_0)))/\((zt x_0)/\((True)->((fun a0:Prop=>a0/\a0) ((zaf x_0)))))))/\((x_4)=false->(((zj x_0)/\(((zk x_0 == [(119:UInt8),104,111,108,101])=true->(zah x_0))/\((zk x_0 == [(119:UInt8),104,111,108,101])=false->(zj x_0)/\(((zai x_0)=true->(zah x_0))/\((zai x_0)=false->(∃(x':Bool),(x'=true ↔ zag x_0)/\(false=x'/\True)/\zh))))))/\((∀x_5:Bool,((x_5=true ↔ zag x_0)->(((x_5)=true->(zj x_0)/\(((zai x_0)=true->(zn x_0)/\(zw x_0)/\(zaj x_0)/\(((zt x_0)/\((True)->(zam x_0)))/\((zt x_0)/\((True)->((fun a0:Prop=>a0/\a0) ((zam x_0)))))))/\((zai x_0)=false->(zn x_0)/\(zw x_0)/\(zaj x_0)/\(((zt x_0)/\((True)->(zao x_0)))/\((zt x_0)/\((True)->((fun a0:Prop=>a0/\a0) ((zao x_0)))))))))/\((x_5)=false->(zd/\ze/\zf/\zg/\True/\((),n,w,y,t,(true,()),())=zq/\zr)))))))))))))))))))))))))))))))))))) (by kernel_rfl) ?_
 dsimp -iota -proj -eta only
 dsimp only at hp
 refine ⟨trivial,⟨⟨(by have:=zK s [119,101,97,107,32];exact ⟨by omega,rfl⟩),(⟨_,rfl,⟨rfl,trivial⟩,(by trivial)⟩)⟩,fun x_0 q_0=>⟨⟨?a,iQ (fun h0 h1 => ?b) (fun h0 => ?c)⟩,fun x_1 q_1=>⟨fun h0=>⟨?d,?e,?f⟩,fun h0=>⟨⟨?g,iQ (fun h1 h2 => ?h) (fun h1 => ?i)⟩,fun x_2 q_2=>⟨fun h1=>⟨?j,(show ∀{a0:Prop},a0->a0/\a0 from fun g0=>⟨g0,g0⟩) (⟨?k,fun h2=>⟨?l,?m⟩⟩)⟩,fun h1=>⟨⟨?n,iQ (fun h2 h3 => ?o) (fun h2 => ?p)⟩,fun x_3 q_3=>⟨fun h2=>⟨?q,?r,(show ∀{a0:Prop},a0->a0/\a0 from fun g0=>⟨g0,g0⟩) (⟨?s,fun h3=>⟨?t,?u⟩⟩)⟩,fun h2=>⟨⟨?v,iQ (fun h3 h4 => ?w) (fun h3 => ?x)⟩,fun x_4 q_4=>⟨fun h3=>⟨?y,?z,⟨⟨?a0,fun h4=>⟨?a1,fun h5=>⟨?a2,?a3⟩⟩⟩,⟨?a4,fun h4=>(show ∀{a0:Prop},a0->a0/\a0 from fun g0=>⟨g0,g0⟩) (⟨?a5,fun h5=>⟨?a6,?a7⟩⟩)⟩⟩⟩,fun h3=>⟨⟨?a8,iQ (fun h4 h5 => ?a9) (fun h4=>⟨?aa,iQ (fun h5 h6 => ?ab) (fun h5 => ?ac)⟩)⟩,fun x_5 q_5=>⟨fun h4=>⟨?ad,iQ (fun h5=>⟨?ae,?af,?ag,⟨⟨?ah,fun h6=>⟨?ai,fun h7=>⟨?aj,?ak⟩⟩⟩,⟨?al,fun h6=>(show ∀{a0:Prop},a0->a0/\a0 from fun g0=>⟨g0,g0⟩) (⟨?am,fun h7=>⟨?an,?ao⟩⟩)⟩⟩⟩) (fun h5=>⟨?ap,?aq,?ar,⟨⟨?au,fun h6=>⟨?av,fun h7=>⟨?aw,?ax⟩⟩⟩,⟨?ay,fun h6=>(show ∀{a0:Prop},a0->a0/\a0 from fun g0=>⟨g0,g0⟩) (⟨?az,fun h7=>⟨?b0,?b1⟩⟩)⟩⟩⟩)⟩,fun h4 => ?b2⟩⟩⟩⟩⟩⟩⟩⟩⟩⟩⟩⟩
 case a|g|n|v|a8|aa|ad=>have:=GI q_0;omega
 case b|c|h|i|o|p|w|x|a9|ab|ac=>exact ⟨_,by (simp_all <;> omega),⟨rfl,trivial⟩,(by trivial)⟩
 case d|j|q|r|y|z|ae|af|ag|ap|aq|ar=>simp_all
 case e|l|t|a2|a6|aj|an|aw|b0=>exact ⟨rfl,by simp only [List.length_singleton];omega⟩
 case f|m|u|a3|a7|ak|ao|ax|b1|b2=>
  refine ⟨rfl,rfl,rfl,rfl,trivial,?_,rfl⟩
  first
  | (rw [Dt q_0 (q_1.1 (by assumption))];rfl)
  | (rw [Du q_0 (dx q_1 (by assumption)) (q_2.1 (by assumption))];rfl)
  | (rw [E7 q_0 (dx q_1 (by assumption)) (dx q_2 (by assumption)) (q_3.1 (by assumption))];rfl)
  | (rw [Dv q_0 (dx q_1 (by assumption)) (dx q_2 (by assumption)) (dx q_3 (by assumption)) (q_4.1 (by assumption))];rfl)
  | (rw [wM q_0 (dx q_1 (by assumption)) (dx q_2 (by assumption)) (dx q_3 (by assumption)) (dx q_4 (by assumption)) (q_5.1 (by assumption)) (k:=3) (if_pos (by assumption)).symm];rfl)
  | (rw [wM q_0 (dx q_1 (by assumption)) (dx q_2 (by assumption)) (dx q_3 (by assumption)) (dx q_4 (by assumption)) (q_5.1 (by assumption)) (k:=2) (if_neg (by assumption)).symm];rfl)
  | (rw [Dw q_0 (dx q_1 (by assumption)) (dx q_2 (by assumption)) (dx q_3 (by assumption)) (dx q_4 (by assumption)) (dx q_5 (by assumption))];rfl)
 case k|a0|a4|ah|al|au|ay=>have:=Cc q_0 1;omega
 case s|a1|a5|ai|am|av|az=>have:=Cc q_0 2;omega
theorem Tryz.Hb:cG Tryz.prog Tryz.B.eT Tryz.X 97 false (bG Tryz.jB [.obj 0, .d .str, .obj 5] (fun a x=>a.1.length<=1000000/\x.2.1.length<=1000000/\x.2.2.1.length<=1000000/\x.2.2.2.1.length<=1000000/\x.2.2.2.2.1.length<=1000000) Tryz.ta):=
 ch (X:=Tryz.X) Tryz.Fs Tryz.func97 (by kernel_rfl) (fun (a:CD [.obj 0, .d .str, .obj 5]) (x:PD Tryz.jB)=>Co a.1 x.2.1 x.2.2.1 x.2.2.2.1 x.2.2.2.2.1 x.2.2.2.2.2.1.1) (fun (a:CD [.obj 0, .d .str, .obj 5]) (x:PD Tryz.jB) hw hp=>Ha a.1 x.2.1 x.2.2.1 x.2.2.2.1 x.2.2.2.2.1 x.2.2.2.2.2.1.1 hw hp)
end Go.Proofs.YtgokjhhcfemnhaaGreatDoor

namespace Go.Proofs.YtgokjhhcfemnhaaGreatDoor
open Go.Vg Go.Mrl
theorem Hc (n:Int) (hw:ec [.int .i64] n):(cD Tryz.B [] Tryz.f155 [] [.int .i64] [.bool] (fun x y=>y=(fun n=>c6 n) x) n).holds:=by
 refine holds_of (p:=
  (((decide (n>=(-2147483648:Int)))=true->(decide (n<=(2147483647:Int))=c6 n))/\((decide (n>=(-2147483648:Int)))=false->(false=c6 n)))) (by kernel_rfl) ?_
 refine iE (fun h0 => ?a) (fun h0 => ?b)
 case a|b=>unfold c6;rw [Bool.eq_iff_iff];simp;omega
theorem Tryz.Ad:bI Tryz.prog Tryz.B.eT Tryz.X 155 [.int .i64] [.bool] (fun _=>True) (fun x y=>y=(fun n=>c6 n) x):=
 bU (X:=Tryz.X) (cm Tryz.cn) Tryz.func155 (by kernel_rfl) (fun _=>[]) (fun x hw hp=>Hc x hw)
theorem Bl (n:Int) (hw:ec [.int .i64] n):(cD Tryz.B [] Tryz.f95 [] [.int .i64] [.bool] (fun x y=>y=(fun n=>c6 n) x) n).holds:=by
 refine holds_of (p:=
  (((decide (n>=(-2147483648:Int)))=true->(decide (n<=(2147483647:Int))=c6 n))/\((decide (n>=(-2147483648:Int)))=false->(false=c6 n)))) (by kernel_rfl) ?_
 refine iE (fun h0 => ?a) (fun h0 => ?b)
 case a|b=>unfold c6;rw [Bool.eq_iff_iff];simp;omega
theorem Tryz.Bm:bI Tryz.prog Tryz.B.eT Tryz.X 95 [.int .i64] [.bool] (fun _=>True) (fun x y=>y=(fun n=>c6 n) x):=
 bU (X:=Tryz.X) (cm Tryz.cn) Tryz.func95 (by kernel_rfl) (fun _=>[]) (fun x hw hp=>Bl x hw)
def wW (l:List (List UInt8)) (s:List UInt8):cu:=[(0,fun st=>{X:=Nat,inv:=fun i=>i<=l.length/\∀j,j < i->nth .str l j≠s,aY:=fun i=>l.length - i,aQ:=fun i=>[(8,sI i)],aT:=[0,1,7]})]
theorem Ft (l:List (List UInt8)) (s:List UInt8) (hw:ec [.slice .str, .str] (l,s)):(cD Tryz.B [] Tryz.f99 (wW l s) [.slice .str, .str] [.int .i64] (fun x y=>(y = -1/\∀j,j < x.1.length->nth .str x.1 j≠x.2)\/(0<=y/\y.toNat < x.1.length/\nth .str x.1 y.toNat=x.2)) (l,s)).holds:=by
 refine holds_of (p:=
  let za:=List.length l
  let zb:=(-1:Int)
  let zc:=∀(j:Nat),j < za->nth Ty.str l j≠s
  ((za<=aH)->(∃(x:Nat),(x<=za/\∀(j:Nat),j < x->nth Ty.str l j≠s)/\((0:Int)=(↑x:Int)/\True)/\True)/\(∀x_0:Nat,((x_0<=za/\∀(j:Nat),j < x_0->nth Ty.str l j≠s)->(((decide ((↑x_0:Int) < (↑za:Int)))=true->((0:Int)<=(↑x_0:Int)/\(↑x_0:Int) < (↑za:Int))/\(((s == nth Ty.str l x_0)=true->((↑x_0:Int)=zb/\zc\/(0:Int)<=(↑x_0:Int)/\x_0 < za/\nth Ty.str l x_0=s))/\((s == nth Ty.str l x_0)=false->((aJ (↑x_0:Int))->((aJ (1:Int))->(aJ ((↑x_0:Int) + (1:Int)))/\(∃(x':Nat),(x'<=za/\∀(j:Nat),j < x'->nth Ty.str l j≠s)/\za - x' < za - x_0/\((↑x_0:Int) + (1:Int)=(↑x':Int)/\True)/\True))))))/\((decide ((↑x_0:Int) < (↑za:Int)))=false->(zb=zb/\zc\/(0:Int)<=zb/\Int.toNat zb < za/\nth Ty.str l (Int.toNat zb)=s))))))) (by kernel_rfl) ?_
 dsimp -iota -proj -eta only
 exact fun h0=>⟨(⟨0,⟨by omega,fun j hj=>by omega⟩,⟨rfl,trivial⟩,trivial⟩),fun x_0 q_0=>iL (fun h1=>⟨(by omega),iQ (fun h2=>(by simp_all)) (fun h2 h3 h4=>⟨(by simp only [aJ,aH] at *;omega),(⟨x_0 + 1,⟨by omega,iq q_0.2 fun e=>(by assumption:¬ _) e.symm⟩,by omega,⟨by omega,trivial⟩,(by trivial)⟩)⟩)⟩) (fun h1=>(.inl ⟨rfl,fun j hj=>q_0.2 j (by omega)⟩))⟩
theorem Tryz.Fu:bI Tryz.prog Tryz.B.eT Tryz.X 99 [.slice .str, .str] [.int .i64] (fun _=>True) (fun x y=>(y = -1/\∀j,j < x.1.length->nth .str x.1 j≠x.2)\/(0<=y/\y.toNat < x.1.length/\nth .str x.1 y.toNat=x.2)):=
 bU (X:=Tryz.X) (cm Tryz.cn) Tryz.func99 (by kernel_rfl) (fun x=>wW x.1 x.2) (fun x hw hp=>Ft x.1 x.2 hw)
noncomputable def Tryz.wX:List (FuncId × (Bool × bQ)):=[(99,(true,fq [.slice .str, .str] [.int .i64] (fun _=>True) (fun x y=>(y = -1/\∀j,j < x.1.length->nth .str x.1 j≠x.2)\/(0<=y/\y.toNat < x.1.length/\nth .str x.1 y.toNat=x.2))))]
theorem Tryz.Bn:bZ Tryz.prog Tryz.B Tryz.X Tryz.wX:=
 aO (da Tryz.Fu) (cm Tryz.cn)
theorem Ae (l:List (List UInt8)) (s:List UInt8) (hw:ec [.slice .str, .str] (l,s)):(cD Tryz.B Tryz.wX Tryz.f69 [] [.slice .str, .str] [.bool] (fun x y=>y=(fun x=>x.1.any (· == x.2)) x) (l,s)).holds:=by
 refine holds_of (p:=
  (True)/\(∀x_0:Int,(((x_0=(-1:Int)/\∀(j:Nat),j < List.length l->nth Ty.str l j≠s)\/(0:Int)<=x_0/\Int.toNat x_0 < List.length l/\nth Ty.str l (Int.toNat x_0)=s)->(decide (x_0>=(0:Int))=List.any l fun (x:List UInt8)=>x == s)))) (by kernel_rfl) ?_
 exact ⟨trivial,fun x_0 q_0=>(contains_of q_0)⟩
theorem Tryz.qX:bI Tryz.prog Tryz.B.eT Tryz.X 69 [.slice .str, .str] [.bool] (fun _=>True) (fun x y=>y=(fun x=>x.1.any (· == x.2)) x):=
 bU (X:=Tryz.X) Tryz.Bn Tryz.func69 (by kernel_rfl) (fun _=>[]) (fun x hw hp=>Ae x.1 x.2 hw)
noncomputable def Tryz.wY:List (FuncId × (Bool × bQ)):=[(179,(false,jS Tryz.B [] Tryz.f179 []))]
theorem Tryz.Bo:bZ Tryz.prog Tryz.B Tryz.X Tryz.wY:=
 aO (lp (cm Tryz.cn) Tryz.func179 (by kernel_rfl) []) (cm Tryz.cn)
def wZ:cu:=[(0,fun st=>{X:=Nat,inv:=fun i=>i<=(bO (.slice aD) st 0).length/\∀j,j < i->(nth aD (bO (.slice aD) st 0) j).1≠(JI aD st (Jx st 1 0)).1,aY:=fun i=>(bO (.slice aD) st 0).length - i,aQ:=fun i=>[(8,sI i)],aT:=[0,1,7]})]
noncomputable def Tryz.Cp:List (FuncId × (Bool × bQ)):=[(190,(false,jS Tryz.B Tryz.wY Tryz.f190 wZ))]
theorem Tryz.Fv:bZ Tryz.prog Tryz.B Tryz.X Tryz.Cp:=
 aO (lp Tryz.Bo Tryz.func190 (by kernel_rfl) wZ) (cm Tryz.cn)
noncomputable def Tryz.Cq:List (FuncId × (Bool × bQ)):=[(87,(true,aM [.str] [.err] (fun _=>True) (fun s=>aX (aI s)))),
 (94,(true,aM [.str] [.int .i64] (fun _=>True) (fun s=>aI s))),
 (9,(true,aM [.err, .int .i64] [.bool] (fun _=>True) (fun x=>cV x.1 x.2))),
 (178,(false,jS Tryz.B Tryz.Cp Tryz.f178 []))]
theorem Tryz.Fw:bZ Tryz.prog Tryz.B Tryz.X Tryz.Cq:=
 aO (aG Tryz.fU) (aO (aG Tryz.dJ) (aO (aG Tryz.gH) (aO (lp Tryz.Fv Tryz.func178 (by kernel_rfl) []) (cm Tryz.cn))))
def uN (o:D aA):cu:=[(0,fun st=>{X:=Nat,inv:=fun i=>eI o.2.1.length o.2.2.1 i,aY:=fun i=>o.2.2.1.length - i,aQ:=fun i=>[(9,sI i)],aT:=[1,7,8]})]
theorem Bp (o:D aA) (hw:ec [aA] o):(cD Tryz.B Tryz.Cq Tryz.f156 (uN o) [aA] [.err] (fun x y=>y=(fun o=>aX (dV o.2.1.length [] o.2.2.1)) x) o).holds:=by
 refine holds_of (p:=
  let za:=o.2.2.1
  let zb:=List.length za
  let zc:=List.length o.2.1
  let zd:=fun (x_0:Nat)=>(↑x_0:Int)
  let ze:=fun (x_0:Nat)=>(0:Int)<=zd x_0
  let zf:=fun (x_0:Nat)=>(nth aD za x_0).1
  let zg:=aX (dV zc (@List.nil (List UInt8 × Int × Bool × Unit)) za)
  let zh:=fun (x_0:Nat)=>(nth aD za x_0).2.1
  let zi:=cg.no (1:Int)=zg
  let zj:=fun (x_0:Nat)=>List.drop (0:Nat) (List.take x_0 za)
  let zk:=fun (x_0:Nat)=>List.length (zj x_0)
  let zl:=cg.no (3:Int)=zg
  let zm:=(o.1=o.1/\o.2.1=o.2.1/\za=za/\o.2.2.2.1=o.2.2.2.1/\True)/\True
  let zn:=fun (x_0:Nat)=>((aJ (zd x_0))->((aJ (1:Int))->(aJ (zd x_0 + (1:Int)))/\(∃(x':Nat),eI zc za x'/\zb - x' < zb - x_0/\(zd x_0 + (1:Int)=(↑x':Int)/\True)/\zm)))
  ((zb<=aH)->(∃(x:Nat),eI zc za x/\((0:Int)=(↑x:Int)/\True)/\True)/\(∀x_0:Nat,((eI zc za x_0)->(((decide (zd x_0 < (↑zb:Int)))=true->(ze x_0/\zd x_0 < (↑zb:Int))/\(True)/\(((!cg.isNil (aX (aI (zf x_0))))=true->(aX (aI (zf x_0))=zg))/\((!cg.isNil (aX (aI (zf x_0))))=false->(((decide (zh x_0 < (0:Int)))=true->(zi))/\((decide (zh x_0 < (0:Int)))=false->((zc<=aH)->(((decide (zh x_0>=(↑zc:Int)))=true->(zi))/\((decide (zh x_0>=(↑zc:Int)))=false->((0:Int)<=(0:Int)/\ze x_0/\zd x_0<=(↑zb:Int))/\((zk x_0<=aH)->(∃(x:Nat),(x<=zk x_0/\∀(j:Nat),j < x->(nth aD (zj x_0) j).1≠zf x_0)/\((0:Int)=(↑x:Int)/\True)/\True)/\(∀x_1:Nat,((x_1<=zk x_0/\∀(j:Nat),j < x_1->(nth aD (zj x_0) j).1≠zf x_0)->(((decide (zd x_1 < (↑(zk x_0):Int)))=true->(ze x_1/\zd x_1 < (↑(zk x_0):Int))/\((((nth aD (zj x_0) x_1).1 == zf x_0)=true->(((decide (zd x_1>=(0:Int)))=true->(zl))/\((decide (zd x_1>=(0:Int)))=false->(zn x_0))))/\(((nth aD (zj x_0) x_1).1 == zf x_0)=false->((aJ (zd x_1))->((aJ (1:Int))->(aJ (zd x_1 + (1:Int)))/\(∃(x':Nat),(x'<=zk x_0/\∀(j:Nat),j < x'->(nth aD (zj x_0) j).1≠zf x_0)/\zk x_0 - x' < zk x_0 - x_1/\(zd x_1 + (1:Int)=(↑x':Int)/\True)/\(zf x_0=zf x_0/\zh x_0=zh x_0/\(nth aD za x_0).2.2.1=(nth aD za x_0).2.2.1/\True)/\zm))))))/\((decide (zd x_1 < (↑(zk x_0):Int)))=false->(((decide ((-1:Int)>=(0:Int)))=true->(zl))/\((decide ((-1:Int)>=(0:Int)))=false->(zn x_0))))))))))))))))/\((decide (zd x_0 < (↑zb:Int)))=false->(cg.nil=zg))))))) (by kernel_rfl) ?_
 dsimp -iota -proj -eta only
 refine fun h0=>⟨(⟨0, .zero _ _,⟨rfl,trivial⟩,trivial⟩),fun x_0 q_0=>iL (fun h1=>⟨(by omega),trivial,⟨fun h2 => ?a,fun h2=>iL (fun h3 => ?b) (fun h3 h4=>iE (fun h5 => ?c) (fun h5=>⟨?d,fun h6=>⟨?e,fun x_1 q_1=>iL (fun h7=>⟨?f,iQ (fun h8=>⟨fun h9 => ?g,fun h9=>absurd (show true=false from h9) (by decide)⟩) (fun h8 h9 h10=>⟨?h,?i⟩)⟩) (fun h7=>⟨fun h8=>absurd (show false=true from h8) (by decide),fun h8 h9 h10=>⟨?j,?k⟩⟩)⟩⟩))⟩⟩) (fun h1=>(by rw [q_0.done (by omega)];rfl))⟩
 case a=>
  simp only [bl,reduceCtorEq] at h2
  rw [q_0.fault (by omega) (lh (bK _) h2)]
 case b=>
  simp only [bl,reduceCtorEq] at h2
  rw [q_0.out (by omega) (kx h2) (.inl (by omega))];rfl
 case c=>
  simp only [bl,reduceCtorEq] at h2
  rw [q_0.out (by omega) (kx h2) (.inr (by omega))];rfl
 case d|f=>
  simp only [bl,reduceCtorEq] at h2
  omega
 case e=>
  simp only [bl,reduceCtorEq] at h2
  exact ⟨0,⟨by omega,fun j hj=>by omega⟩,⟨rfl,trivial⟩,trivial⟩
 case g=>
  simp only [bl,reduceCtorEq] at h2
  rw [wA q_0.le] at h7;rw [wz (i:=x_0) (j:=x_1) (by omega)] at h8;rw [q_0.dup (by omega) (kx h2) (fun h=>h.elim (fun h=>absurd h (Int.not_lt.2 h3)) (fun h=>absurd h (Int.not_le.2 h5))) (oX (t:=aD) (j:=x_1) (by omega) q_0.le (by simpa using h8))];rfl
 case h|j=>
  simp only [bl,reduceCtorEq] at h2
  simp only [aJ,aH] at *;omega
 case i=>
  simp only [bl,reduceCtorEq] at h2
  exact ⟨x_1 + 1,⟨by omega,iq q_1.2 (by assumption)⟩,by omega,⟨by omega,trivial⟩,(by trivial)⟩
 case k=>
  simp only [bl,reduceCtorEq] at h2
  have hx:=wA q_0.le;exact ⟨x_0 + 1,q_0.next (by omega) (kx h2) (fun h=>h.elim (fun h=>absurd h (Int.not_lt.2 h3)) (fun h=>absurd h (Int.not_le.2 h5))) (mQ (t:=aD) fun j hj=>by have:=q_1.2 j (by omega);rw [wz hj] at this;simpa using this),by omega,⟨by omega,trivial⟩,(by trivial)⟩
theorem Tryz.Bq:bI Tryz.prog Tryz.B.eT Tryz.X 156 [aA] [.err] (fun _=>True) (fun x y=>y=(fun o=>aX (dV o.2.1.length [] o.2.2.1)) x):=
 bU (X:=Tryz.X) Tryz.Fw Tryz.func156 (by kernel_rfl) (fun x=>uN x) (fun x hw hp=>Bp x hw)
noncomputable def Tryz.Cr:List (FuncId × (Bool × bQ)):=[(87,(true,aM [.str] [.err] (fun _=>True) (fun s=>aX (aI s)))),
 (94,(true,aM [.str] [.int .i64] (fun _=>True) (fun s=>aI s))),
 (9,(true,aM [.err, .int .i64] [.bool] (fun _=>True) (fun x=>cV x.1 x.2))),
 (155,(true,aM [.int .i64] [.bool] (fun _=>True) (fun n=>c6 n)))]
theorem Tryz.Fx:bZ Tryz.prog Tryz.B Tryz.X Tryz.Cr:=
 aO (aG Tryz.fU) (aO (aG Tryz.dJ) (aO (aG Tryz.gH) (aO (aG Tryz.Ad) (cm Tryz.cn))))
def Cs (o:D aA):cu:=[(0,fun st=>{X:=Nat,inv:=fun i=>fI o.2.1.length o.2.2.2.1 i,aY:=fun i=>o.2.2.2.1.length - i,aQ:=fun i=>[(9,sI i)],aT:=[1,7,8]})]
theorem Hd (o:D aA) (hw:ec [aA] o):(cD Tryz.B Tryz.Cr Tryz.f157 (Cs o) [aA] [.err] (fun x y=>y=(fun o=>aX (fr o.2.1.length none o.2.2.2.1)) x) o).holds:=by
 refine holds_of (p:=
  let za:=o.2.2.2.1
  let zb:=List.length za
  let zc:=List.length o.2.1
  let zd:=fun (x_0:Nat)=>(↑x_0:Int)
  let ze:=fun (x_0:Nat)=>(nth aL za x_0).1
  let zf:=aX (fr zc none za)
  let zg:=cg.no (1:Int)=zf
  let zh:=fun (x_0:Nat)=>(nth aL za x_0).2.1
  let zi:=cg.no (3:Int)=zf
  let zj:=fun (x_0:Nat)=>zd x_0 - (1:Int)
  let zk:=fun (x_0:Nat)=>((aJ (zd x_0))->((aJ (1:Int))->(aJ (zd x_0 + (1:Int)))/\(∃(x':Nat),fI zc za x'/\zb - x' < zb - x_0/\(zd x_0 + (1:Int)=(↑x':Int)/\True)/\(o.1=o.1/\o.2.1=o.2.1/\o.2.2.1=o.2.2.1/\za=za/\True)/\True)))
  let zl:=fun (x_0:Nat)=>aX (aI (nth aL za x_0).2.2.2.1)
  let zm:=fun (x_0:Nat)=>(((zh x_0 == (1:Int))=true->(((!(nth aL za x_0).2.2.2.1 == @List.nil UInt8)=true->(zi))/\((!(nth aL za x_0).2.2.2.1 == @List.nil UInt8)=false->((((nth aL za x_0).2.2.2.2.1)=true->(zi))/\(((nth aL za x_0).2.2.2.2.1)=false->(zk x_0))))))/\((zh x_0 == (1:Int))=false->(True)/\(((!cg.isNil (zl x_0))=true->(zl x_0=zf))/\((!cg.isNil (zl x_0))=false->(zk x_0)))))
  ((zb<=aH)->(∃(x:Nat),fI zc za x/\((0:Int)=(↑x:Int)/\True)/\True)/\(∀x_0:Nat,((fI zc za x_0)->(((decide (zd x_0 < (↑zb:Int)))=true->((0:Int)<=zd x_0/\zd x_0 < (↑zb:Int))/\(((decide (ze x_0 < (0:Int)))=true->(zg))/\((decide (ze x_0 < (0:Int)))=false->((zc<=aH)->(((decide (ze x_0>=(↑zc:Int)))=true->(zg))/\((decide (ze x_0>=(↑zc:Int)))=false->(True)/\(((!c6 (nth aL za x_0).2.2.1)=true->(zg))/\((!c6 (nth aL za x_0).2.2.1)=false->(((decide (zh x_0 < (1:Int)))=true->(zi))/\((decide (zh x_0 < (1:Int)))=false->(((decide (zh x_0 > (3:Int)))=true->(zi))/\((decide (zh x_0 > (3:Int)))=false->(((decide (zd x_0 > (0:Int)))=true->((aJ (zd x_0))->((aJ (1:Int))->(aJ (zj x_0))/\((0:Int)<=zj x_0/\zj x_0 < (↑zb:Int))/\(((decide ((nth aL za (Int.toNat (zj x_0))).1>=ze x_0))=true->(zi))/\((decide ((nth aL za (Int.toNat (zj x_0))).1>=ze x_0))=false->(zm x_0))))))/\((decide (zd x_0 > (0:Int)))=false->(zm x_0)))))))))))))))/\((decide (zd x_0 < (↑zb:Int)))=false->(cg.nil=zf))))))) (by kernel_rfl) ?_
 dsimp -iota -proj -eta only
 refine fun h0=>⟨(⟨0, .zero _ _,⟨rfl,trivial⟩,trivial⟩),fun x_0 q_0=>iL (fun h1=>⟨(by omega),iL (fun h2 => ?a) (fun h2 h3=>iE (fun h4 => ?b) (fun h4=>⟨trivial,⟨fun h5 => ?c,fun h5=>iL (fun h6 => ?d) (fun h6=>iL (fun h7 => ?e) (fun h7=>iL (fun h8 h9 h10=>⟨?f,?g,iE (fun h11 => ?h) (fun h11=>iQ (fun h12=>⟨fun h13 => ?i,fun h13=>⟨fun h14 => ?j,fun h14 h15 h16=>⟨?k,?l⟩⟩⟩) (fun h12=>⟨trivial,⟨fun h13 => ?m,fun h13 h14 h15=>⟨?n,?o⟩⟩⟩))⟩) (fun h8=>iQ (fun h9=>⟨fun h10 => ?p,fun h10=>⟨fun h11 => ?q,fun h11 h12 h13=>⟨?r,?s⟩⟩⟩) (fun h9=>⟨trivial,⟨fun h10 => ?t,fun h10 h11 h12=>⟨?u,?v⟩⟩⟩))))⟩⟩))⟩) (fun h1=>(by rw [q_0.done (by omega)];rfl))⟩
 case a|b=>rw [q_0.fault (by omega) (f:=1) (by unfold dL;grind) (by decide)];rfl
 case c=>
  simp only [bl,reduceCtorEq] at h5
  rw [q_0.fault (by omega) (f:=1) (by unfold dL;grind) (by decide)];rfl
 case d|e|h=>
  simp only [bl,reduceCtorEq] at h5
  rw [q_0.fault (by omega) (f:=3) (by unfold dL ek dG;grind) (by decide)];rfl
 case f=>
  simp only [bl,reduceCtorEq] at h5
  simp only [aJ,aH] at *;omega
 case g=>
  simp only [bl,reduceCtorEq] at h5
  omega
 case i|j=>
  simp only [bl,reduceCtorEq] at h5 h13
  rw [q_0.fault (by omega) (f:=3) (by unfold dL ek dG;grind) (by decide)];rfl
 case k|n=>
  simp only [bl,reduceCtorEq] at h5 h13
  simp only [aJ,aH] at *;omega
 case l=>
  simp only [bl,reduceCtorEq] at h5 h13
  exact ⟨x_0 + 1,q_0.next (by omega) (by unfold dL ek dG;grind),by omega,⟨by omega,trivial⟩,(by trivial)⟩
 case m=>
  simp only [bl,reduceCtorEq] at h5 h13
  rw [q_0.fault (by omega) (f:=aI (nth aL o.2.2.2.1 x_0).2.2.2.1) (by unfold dL ek dG;grind) (by have:=lh (bK _) h13;omega)]
 case o=>
  simp only [bl,reduceCtorEq] at h5 h13
  have:=bN.1 h13;exact ⟨x_0 + 1,q_0.next (by omega) (by unfold dL ek dG;grind),by omega,⟨by omega,trivial⟩,(by trivial)⟩
 case p|q=>
  simp only [bl,reduceCtorEq] at h5 h10
  rw [q_0.fault (by omega) (f:=3) (by unfold dL ek dG;grind) (by decide)];rfl
 case r|u=>
  simp only [bl,reduceCtorEq] at h5 h10
  simp only [aJ,aH] at *;omega
 case s=>
  simp only [bl,reduceCtorEq] at h5 h10
  exact ⟨x_0 + 1,q_0.next (by omega) (by unfold dL ek dG;grind),by omega,⟨by omega,trivial⟩,(by trivial)⟩
 case t=>
  simp only [bl,reduceCtorEq] at h5 h10
  rw [q_0.fault (by omega) (f:=aI (nth aL o.2.2.2.1 x_0).2.2.2.1) (by unfold dL ek dG;grind) (by have:=lh (bK _) h10;omega)]
 case v=>
  simp only [bl,reduceCtorEq] at h5 h10
  have:=bN.1 h10;exact ⟨x_0 + 1,q_0.next (by omega) (by unfold dL ek dG;grind),by omega,⟨by omega,trivial⟩,(by trivial)⟩
theorem Tryz.He:bI Tryz.prog Tryz.B.eT Tryz.X 157 [aA] [.err] (fun _=>True) (fun x y=>y=(fun o=>aX (fr o.2.1.length none o.2.2.2.1)) x):=
 bU (X:=Tryz.X) Tryz.Fx Tryz.func157 (by kernel_rfl) (fun x=>Cs x) (fun x hw hp=>Hd x hw)
noncomputable def Tryz.w4:List (FuncId × (Bool × bQ)):=[(87,(true,aM [.str] [.err] (fun _=>True) (fun s=>aX (aI s)))),
 (94,(true,aM [.str] [.int .i64] (fun _=>True) (fun s=>aI s))),
 (9,(true,aM [.err, .int .i64] [.bool] (fun _=>True) (fun x=>cV x.1 x.2))),
 (69,(true,aM [.slice .str, .str] [.bool] (fun _=>True) (fun x=>x.1.any (· == x.2)))),
 (155,(true,aM [.int .i64] [.bool] (fun _=>True) (fun n=>c6 n))),
 (156,(true,aM [aA] [.err] (fun _=>True) (fun o=>aX (dV o.2.1.length [] o.2.2.1)))),
 (157,(true,aM [aA] [.err] (fun _=>True) (fun o=>aX (fr o.2.1.length none o.2.2.2.1))))]
theorem Tryz.Br:bZ Tryz.prog Tryz.B Tryz.X Tryz.w4:=
 aO (aG Tryz.fU) (aO (aG Tryz.dJ) (aO (aG Tryz.gH) (aO (aG Tryz.qX) (aO (aG Tryz.Ad) (aO (aG Tryz.Bq) (aO (aG Tryz.He) (cm Tryz.cn)))))))
def w5 (o:D aA):cu:=[
 (0,fun st=>{X:=Nat,inv:=fun i=>ej o.1 i,aY:=fun i=>o.1.length - i,aQ:=fun i=>[(41,sI i)],aT:=[1,39,40]}),
 (2,fun st=>{X:=Nat,inv:=fun i=>eM o.2.1 i,aY:=fun i=>o.2.1.length - i,aQ:=fun i=>[(62,sI i)],aT:=[1,60,61]})]
theorem Fy (o:D aA) (hw:ec [aA] o):(cD Tryz.B Tryz.w4 Tryz.f126 (w5 o) [aA] [.err] (fun x y=>y=(fun o=>aX (bA o)) x) o).holds:=by
 refine holds_of (p:=
  let za:=List.length o.1
  let zb:=(↑za:Int)
  let zc:=aX (bA o)
  let zd:=cg.no (2:Int)=zc
  let ze:=o.2.1
  let zf:=List.length ze
  let zg:=zf<=aH
  let zh:=(↑zf:Int)
  let zi:=o.2.2.1
  let zj:=o.2.2.2.1
  let zk:=fun (x_0:Nat)=>(↑x_0:Int)
  let zl:=fun (x_0:Nat)=>(0:Int)<=zk x_0
  let zm:=fun (x_0:Nat)=>aX (aI (nth Ty.str o.1 x_0))
  let zn:=(o.1=o.1/\ze=ze/\zi=zi/\zj=zj/\True)/\True
  let zo:=aX (dV zf (@List.nil (List UInt8 × Int × Bool × Unit)) zi)
  ((za<=aH)->(((decide (zb > (4:Int)))=true->(zd))/\((decide (zb > (4:Int)))=false->((zg)->(((decide (zh < (1:Int)))=true->(zd))/\((decide (zh < (1:Int)))=false->((zg)->(((decide (zh > (40:Int)))=true->(zd))/\((decide (zh > (40:Int)))=false->((List.length zi<=aH)->(((decide ((↑(List.length zi):Int) > (8:Int)))=true->(zd))/\((decide ((↑(List.length zi):Int) > (8:Int)))=false->((List.length zj<=aH)->(((decide ((↑(List.length zj):Int) > (6:Int)))=true->(zd))/\((decide ((↑(List.length zj):Int) > (6:Int)))=false->((za<=aH)->(∃(x:Nat),ej o.1 x/\((0:Int)=(↑x:Int)/\True)/\True)/\(∀x_0:Nat,((ej o.1 x_0)->(((decide (zk x_0 < zb))=true->(zl x_0/\zk x_0 < zb)/\(True)/\(((!cg.isNil (zm x_0))=true->(zm x_0=zc))/\((!cg.isNil (zm x_0))=false->((0:Int)<=(0:Int)/\zl x_0/\zk x_0<=zb)/\(True)/\(((List.any (List.drop (0:Nat) (List.take x_0 o.1)) fun (x:List UInt8)=>x == nth Ty.str o.1 x_0)=true->(cg.no (3:Int)=zc))/\((List.any (List.drop (0:Nat) (List.take x_0 o.1)) fun (x:List UInt8)=>x == nth Ty.str o.1 x_0)=false->((aJ (zk x_0))->((aJ (1:Int))->(aJ (zk x_0 + (1:Int)))/\(∃(x':Nat),ej o.1 x'/\za - x' < za - x_0/\(zk x_0 + (1:Int)=(↑x':Int)/\True)/\zn))))))))/\((decide (zk x_0 < zb))=false->((zg)->(∃(x:Nat),eM ze x/\((0:Int)=(↑x:Int)/\True)/\True)/\(∀x_1:Nat,((eM ze x_1)->(((decide (zk x_1 < zh))=true->(zl x_1/\zk x_1 < zh)/\(True)/\(((!c6 (nth (Ty.int IntKind.i64) ze x_1))=true->(cg.no (1:Int)=zc))/\((!c6 (nth (Ty.int IntKind.i64) ze x_1))=false->((aJ (zk x_1))->((aJ (1:Int))->(aJ (zk x_1 + (1:Int)))/\(∃(x':Nat),eM ze x'/\zf - x' < zf - x_1/\(zk x_1 + (1:Int)=(↑x':Int)/\True)/\zn))))))/\((decide (zk x_1 < zh))=false->(True)/\(((!cg.isNil zo)=true->(zo=zc))/\((!cg.isNil zo)=false->(True)/\(aX (fr zf none zj)=zc))))))))))))))))))))))))))))) (by kernel_rfl) ?_
 dsimp -iota -proj -eta only
 refine fun h0=>iL (fun h1 => ?a) (fun h1 h2=>iL (fun h3 => ?b) (fun h3 h4=>iL (fun h5 => ?c) (fun h5 h6=>iL (fun h7 => ?d) (fun h7 h8=>iL (fun h9 => ?e) (fun h9 h10=>⟨?f,fun x_0 q_0=>iL (fun h11=>⟨?g,trivial,⟨fun h12 => ?h,fun h12=>⟨?i,trivial,⟨fun h13 => ?j,fun h13 h14 h15=>⟨?k,?l⟩⟩⟩⟩⟩) (fun h11 h12=>⟨?m,fun x_1 q_1=>iL (fun h13=>⟨?n,trivial,⟨fun h14 => ?o,fun h14 h15 h16=>⟨?p,?q⟩⟩⟩) (fun h13=>⟨trivial,⟨fun h14 => ?r,fun h14=>⟨trivial,?s⟩⟩⟩)⟩)⟩)))))
 case a|b|c|d|e=>rw [rY (by unfold cW;omega)];rfl
 case f|m=>exact ⟨0, .zero _,⟨rfl,trivial⟩,trivial⟩
 case g|n=>omega
 case h=>
  simp only [bl,reduceCtorEq] at h12
  have hf:=lh (bK _) h12;rw [jY (by unfold cW;omega) (q_0.fault (by omega) hf) (by omega)]
 case i=>
  simp only [bl,reduceCtorEq] at h12
  omega
 case j=>
  simp only [bl,reduceCtorEq] at h12
  rw [List.drop_zero] at h13;rw [jY (by unfold cW;omega) (q_0.dup (by omega) (kx h12) h13) (by decide)];rfl
 case k=>
  simp only [bl,reduceCtorEq] at h12
  simp only [aJ,aH] at *;omega
 case l=>
  simp only [bl,reduceCtorEq] at h12
  rw [List.drop_zero] at h13;exact ⟨x_0 + 1,q_0.next (by omega) (kx h12) h13,by omega,⟨by omega,trivial⟩,(by trivial)⟩
 case o=>
  simp only [bl,reduceCtorEq] at h14
  rw [qB (by unfold cW;omega) (q_0.done (by omega)) (q_1.fault (by omega) h14) (by decide)];rfl
 case p=>
  simp only [bl,reduceCtorEq] at h14
  simp only [aJ,aH] at *;omega
 case q=>
  simp only [bl,reduceCtorEq] at h14
  exact ⟨x_1 + 1,q_1.next (by omega) h14,by omega,⟨by omega,trivial⟩,(by trivial)⟩
 case r=>
  simp only [bl,reduceCtorEq] at h14
  have hf:=lh (me _ _ _) h14;rw [iS (by unfold cW;omega) (q_0.done (by omega)) (q_1.done (by omega)) rfl (by omega)]
 case s=>
  simp only [bl,reduceCtorEq] at h14
  rw [ed (by unfold cW;omega) (q_0.done (by omega)) (q_1.done (by omega)) (bN.1 h14) rfl]
theorem Tryz.Fz:bI Tryz.prog Tryz.B.eT Tryz.X 126 [aA] [.err] (fun _=>True) (fun x y=>y=(fun o=>aX (bA o)) x):=
 bU (X:=Tryz.X) Tryz.Br Tryz.func126 (by kernel_rfl) (fun x=>w5 x) (fun x hw hp=>Fy x hw)
def w6 (o:D aA):cu:=[
 (0,fun st=>{X:=Nat,inv:=fun i=>ej o.1 i,aY:=fun i=>o.1.length - i,aQ:=fun i=>[(3,sI i)],aT:=[1]}),
 (2,fun st=>{X:=Nat,inv:=fun k=>k<=(Int.toNat (bO (.int .i64) st 3))/\∀j,j < k->nth .str o.1 j≠nth .str o.1 (Int.toNat (bO (.int .i64) st 3)),aY:=fun k=>(Int.toNat (bO (.int .i64) st 3)) - k,aQ:=fun k=>[(5,sI k)],aT:=[1,3,4,44,45,46,47,48,51,52,53,54,55,56,57,58,59]}),
 (4,fun st=>{X:=Nat,inv:=fun i=>eM o.2.1 i,aY:=fun i=>o.2.1.length - i,aQ:=fun i=>[(6,sI i)],aT:=[1]}),
 (6,fun st=>{X:=Nat,inv:=fun i=>eI o.2.1.length o.2.2.1 i,aY:=fun i=>o.2.2.1.length - i,aQ:=fun i=>[(8,sI i)],aT:=[1]}),
 (8,fun st=>{X:=Nat,inv:=fun k=>k<=(Int.toNat (bO (.int .i64) st 8))/\∀j,j < k->(nth aD o.2.2.1 j).1≠(nth aD o.2.2.1 (Int.toNat (bO (.int .i64) st 8))).1,aY:=fun k=>(Int.toNat (bO (.int .i64) st 8)) - k,aQ:=fun k=>[(11,sI k)],aT:=[1,8,9,10,91,92,93,94,95,98,99,100,101,102,103,104,105,106,107,108,109,110,111,112,113,114,115,116,117,118,119]}),
 (10,fun st=>{X:=Nat,inv:=fun i=>fI o.2.1.length o.2.2.2.1 i,aY:=fun i=>o.2.2.2.1.length - i,aQ:=fun i=>[(12,sI i)],aT:=[1]})]
noncomputable def Tryz.w7:List (FuncId × (Bool × bQ)):=[(87,(true,aM [.str] [.err] (fun _=>True) (fun s=>aX (aI s)))),
 (94,(true,aM [.str] [.int .i64] (fun _=>True) (fun s=>aI s))),
 (9,(true,aM [.err, .int .i64] [.bool] (fun _=>True) (fun x=>cV x.1 x.2))),
 (95,(true,aM [.int .i64] [.bool] (fun _=>True) (fun n=>c6 n)))]
theorem Tryz.Bs:bZ Tryz.prog Tryz.B Tryz.X Tryz.w7:=
 aO (aG Tryz.fU) (aO (aG Tryz.dJ) (aO (aG Tryz.gH) (aO (aG Tryz.Bm) (cm Tryz.cn))))
theorem FA (o:D aA) (hw:ec [aA] o):(cD Tryz.B Tryz.w7 Tryz.f103 (w6 o) [aA] [.int .i64] (fun x y=>y=(fun o=>bA o) x) o).holds:=by
 refine holds_of (p:=
  let za:=o.1
  let zb:=List.length za
  let zc:=bA o
  let zd:=(2:Int)=zc
  let ze:=o.2.1
  let zf:=List.length ze
  let zg:=zf<=aH
  let zh:=(↑zf:Int)
  let zi:=o.2.2.1
  let zj:=List.length zi
  let zk:=o.2.2.2.1
  let zl:=List.length zk
  let zm:=(↑zl:Int)
  let zn:=fun (x_0:Nat)=>(↑x_0:Int)
  let zo:=fun (x_0:Nat)=>(0:Int)<=zn x_0
  let zp:=fun (x_0:Nat)=>zo x_0/\zn x_0 < (↑zb:Int)
  let zq:=fun (x_0:Nat)=>nth Ty.str za x_0
  let zr:=(3:Int)=zc
  let zs:=fun (x_1:Nat)=>aJ (zn x_1)
  let zt:=aJ (1:Int)
  let zu:=fun (x_1:Nat)=>zn x_1 + (1:Int)
  let zv:=fun (x_1:Nat)=>aJ (zu x_1)
  let zw:=(za=za/\ze=ze/\zi=zi/\zk=zk/\True)/\True
  let zx:=(1:Int)=zc
  let zy:=fun (x_2:Nat)=>zo x_2/\zn x_2 < (↑zj:Int)
  let zz:=fun (x_2:Nat)=>(nth aD zi x_2).1
  let zaa:=fun (x_2:Nat)=>(nth aD zi x_2).2.1
  let zab:=fun (x_3:Nat)=>(nth aL zk x_3).1
  let zac:=fun (x_3:Nat)=>(nth aL zk x_3).2.1
  let zad:=fun (x_3:Nat)=>zn x_3 - (1:Int)
  let zae:=fun (x_3:Nat)=>aI (nth aL zk x_3).2.2.2.1
  let zaf:=fun (x_3:Nat)=>((zs x_3)->((zt)->(zv x_3)/\(∃(x':Nat),fI zf zk x'/\zl - x' < zl - x_3/\(zu x_3=(↑x':Int)/\True)/\zw)))
  let zag:=fun (x_3:Nat)=>(((decide (zac x_3 > (1:Int)))=true->(True)/\(((decide (zae x_3 > (0:Int)))=true->(zae x_3=zc))/\((decide (zae x_3 > (0:Int)))=false->(zaf x_3))))/\((decide (zac x_3 > (1:Int)))=false->(zaf x_3)))
  let zah:=fun (x_3:Nat)=>(((zac x_3 == (1:Int))=true->(((!(nth aL zk x_3).2.2.2.1 == @List.nil UInt8)=true->(zr))/\((!(nth aL zk x_3).2.2.2.1 == @List.nil UInt8)=false->((((nth aL zk x_3).2.2.2.2.1)=true->(zr))/\(((nth aL zk x_3).2.2.2.2.1)=false->(zag x_3))))))/\((zac x_3 == (1:Int))=false->(zag x_3)))
  ((zb<=aH)->(((decide ((↑zb:Int) > (4:Int)))=true->(zd))/\((decide ((↑zb:Int) > (4:Int)))=false->((zg)->(((decide (zh < (1:Int)))=true->(zd))/\((decide (zh < (1:Int)))=false->((zg)->(((decide (zh > (40:Int)))=true->(zd))/\((decide (zh > (40:Int)))=false->((zj<=aH)->(((decide ((↑zj:Int) > (8:Int)))=true->(zd))/\((decide ((↑zj:Int) > (8:Int)))=false->((zl<=aH)->(((decide (zm > (6:Int)))=true->(zd))/\((decide (zm > (6:Int)))=false->(∃(x:Nat),ej za x/\((0:Int)=(↑x:Int)/\True)/\True)/\(∀x_0:Nat,((ej za x_0)->((zb<=aH)->(((decide (zn x_0 < (↑zb:Int)))=true->(zp x_0)/\(True)/\(((decide (aI (zq x_0) > (0:Int)))=true->(aI (zq x_0)=zc))/\((decide (aI (zq x_0) > (0:Int)))=false->(∃(x:Nat),(x<=x_0/\∀(j:Nat),j < x->nth Ty.str za j≠zq x_0)/\((0:Int)=(↑x:Int)/\True)/\True)/\(∀x_1:Nat,((x_1<=x_0/\∀(j:Nat),j < x_1->nth Ty.str za j≠zq x_0)->(((decide (zn x_1 < zn x_0))=true->(zp x_1)/\(zp x_0)/\(((zq x_1 == zq x_0)=true->(zr))/\((zq x_1 == zq x_0)=false->((zs x_1)->((zt)->(zv x_1)/\(∃(x':Nat),(x'<=x_0/\∀(j:Nat),j < x'->nth Ty.str za j≠zq x_0)/\x_0 - x' < x_0 - x_1/\(zu x_1=(↑x':Int)/\True)/\zw))))))/\((decide (zn x_1 < zn x_0))=false->((zs x_0)->((zt)->(zv x_0)/\(∃(x':Nat),ej za x'/\zb - x' < zb - x_0/\(zu x_0=(↑x':Int)/\True)/\zw))))))))))/\((decide (zn x_0 < (↑zb:Int)))=false->(∃(x:Nat),eM ze x/\((0:Int)=(↑x:Int)/\True)/\True)/\(∀x_1:Nat,((eM ze x_1)->((zg)->(((decide (zn x_1 < zh))=true->(zo x_1/\zn x_1 < zh)/\(True)/\(((!c6 (nth (Ty.int IntKind.i64) ze x_1))=true->(zx))/\((!c6 (nth (Ty.int IntKind.i64) ze x_1))=false->((zs x_1)->((zt)->(zv x_1)/\(∃(x':Nat),eM ze x'/\zf - x' < zf - x_1/\(zu x_1=(↑x':Int)/\True)/\zw))))))/\((decide (zn x_1 < zh))=false->(∃(x:Nat),eI zf zi x/\((0:Int)=(↑x:Int)/\True)/\True)/\(∀x_2:Nat,((eI zf zi x_2)->((zj<=aH)->(((decide (zn x_2 < (↑zj:Int)))=true->(zy x_2)/\(True)/\(((decide (aI (zz x_2) > (0:Int)))=true->(aI (zz x_2)=zc))/\((decide (aI (zz x_2) > (0:Int)))=false->(((decide (zaa x_2 < (0:Int)))=true->(zx))/\((decide (zaa x_2 < (0:Int)))=false->((zg)->(((decide (zaa x_2>=zh))=true->(zx))/\((decide (zaa x_2>=zh))=false->(∃(x:Nat),(x<=x_2/\∀(j:Nat),j < x->(nth aD zi j).1≠zz x_2)/\((0:Int)=(↑x:Int)/\True)/\True)/\(∀x_3:Nat,((x_3<=x_2/\∀(j:Nat),j < x_3->(nth aD zi j).1≠zz x_2)->(((decide (zn x_3 < zn x_2))=true->(zy x_3)/\(((zz x_3 == zz x_2)=true->(zr))/\((zz x_3 == zz x_2)=false->((zs x_3)->((zt)->(zv x_3)/\(∃(x':Nat),(x'<=x_2/\∀(j:Nat),j < x'->(nth aD zi j).1≠zz x_2)/\x_2 - x' < x_2 - x_3/\(zu x_3=(↑x':Int)/\True)/\(zz x_2=zz x_2/\zaa x_2=zaa x_2/\(nth aD zi x_2).2.2.1=(nth aD zi x_2).2.2.1/\True)/\zw))))))/\((decide (zn x_3 < zn x_2))=false->((zs x_2)->((zt)->(zv x_2)/\(∃(x':Nat),eI zf zi x'/\zj - x' < zj - x_2/\(zu x_2=(↑x':Int)/\True)/\zw)))))))))))))))/\((decide (zn x_2 < (↑zj:Int)))=false->(∃(x:Nat),fI zf zk x/\((0:Int)=(↑x:Int)/\True)/\True)/\(∀x_3:Nat,((fI zf zk x_3)->((zl<=aH)->(((decide (zn x_3 < zm))=true->(zo x_3/\zn x_3 < zm)/\(True)/\(((decide (zab x_3 < (0:Int)))=true->(zx))/\((decide (zab x_3 < (0:Int)))=false->((zg)->(((decide (zab x_3>=zh))=true->(zx))/\((decide (zab x_3>=zh))=false->(((!c6 (nth aL zk x_3).2.2.1)=true->(zx))/\((!c6 (nth aL zk x_3).2.2.1)=false->(((decide (zac x_3 < (1:Int)))=true->(zr))/\((decide (zac x_3 < (1:Int)))=false->(((decide (zac x_3 > (3:Int)))=true->(zr))/\((decide (zac x_3 > (3:Int)))=false->(((decide (zn x_3 > (0:Int)))=true->((zs x_3)->((zt)->(aJ (zad x_3))/\((0:Int)<=zad x_3/\zad x_3 < zm)/\(((decide (zab x_3<=(nth aL zk (Int.toNat (zad x_3))).1))=true->(zr))/\((decide (zab x_3<=(nth aL zk (Int.toNat (zad x_3))).1))=false->(zah x_3))))))/\((decide (zn x_3 > (0:Int)))=false->(zah x_3)))))))))))))))/\((decide (zn x_3 < zm))=false->((0:Int)=zc))))))))))))))))))))))))))))))))))))) (by kernel_rfl) ?_
 dsimp -iota -proj -eta only
 refine fun h0=>iL (fun h1 => ?a) (fun h1 h2=>iL (fun h3 => ?b) (fun h3 h4=>iL (fun h5 => ?c) (fun h5 h6=>iL (fun h7 => ?d) (fun h7 h8=>iL (fun h9 => ?e) (fun h9=>⟨?f,fun x_0 q_0 h10=>iL (fun h11=>⟨?g,trivial,iL (fun h12=>(by rw [jY (by unfold cW;omega) (q_0.fault (by omega) h12) (by omega)])) (fun h12=>⟨?h,fun x_1 q_1=>iL (fun h13=>⟨?i,?j,iQ (fun h14=>(by rw [jY (by unfold cW;omega) (q_0.dup (by omega) (by omega) (oX (t:=.str) (j:=x_1) (by omega) q_0.le (by simpa using h14))) (by decide)])) (fun h14 h15 h16=>⟨?k,(⟨x_1 + 1,⟨by omega,iq q_1.2 (by assumption)⟩,by omega,⟨by omega,trivial⟩,(by trivial)⟩)⟩)⟩) (fun h13 h14 h15=>⟨?l,(⟨x_0 + 1,q_0.next (by omega) (by omega) (mQ (t:=.str) fun j hj=>by simpa using q_1.2 j (by omega)),by omega,⟨by omega,trivial⟩,(by trivial)⟩)⟩)⟩)⟩) (fun h11=>⟨?m,fun x_1 q_1 h12=>iL (fun h13=>⟨?n,trivial,⟨fun h14 => ?o,fun h14 h15 h16=>⟨?p,?q⟩⟩⟩) (fun h13=>⟨?r,fun x_2 q_2 h14=>iL (fun h15=>⟨?s,trivial,iL (fun h16=>(by rw [iS (by unfold cW;omega) (q_0.done (by omega)) (q_1.done (by omega)) (q_2.fault (by omega) h16) (by omega)])) (fun h16=>iL (fun h17=>(by rw [iS (by unfold cW;omega) (q_0.done (by omega)) (q_1.done (by omega)) (q_2.out (by omega) (by omega) (.inl (by omega))) (by decide)])) (fun h17 h18=>iE (fun h19=>(by rw [iS (by unfold cW;omega) (q_0.done (by omega)) (q_1.done (by omega)) (q_2.out (by omega) (by omega) (.inr (by omega))) (by decide)])) (fun h19=>⟨?t,fun x_3 q_3=>iL (fun h20=>⟨?u,iQ (fun h21=>(by rw [iS (by unfold cW;omega) (q_0.done (by omega)) (q_1.done (by omega)) (q_2.dup (by omega) (by omega) (fun h=>h.elim (fun h=>absurd h (Int.not_lt.2 h17)) (fun h=>absurd h (Int.not_le.2 h19))) (oX (t:=aD) (j:=x_3) (by omega) q_2.le (by simpa using h21))) (by decide)])) (fun h21 h22 h23=>⟨?v,(⟨x_3 + 1,⟨by omega,iq q_3.2 (by assumption)⟩,by omega,⟨by omega,trivial⟩,(by trivial)⟩)⟩)⟩) (fun h20 h21 h22=>⟨?w,(⟨x_2 + 1,q_2.next (by omega) (by omega) (fun h=>h.elim (fun h=>absurd h (Int.not_lt.2 h17)) (fun h=>absurd h (Int.not_le.2 h19))) (mQ (t:=aD) fun j hj=>by simpa using q_3.2 j (by omega)),by omega,⟨by omega,trivial⟩,(by trivial)⟩)⟩)⟩)))⟩) (fun h15=>⟨?x,fun x_3 q_3 h16=>iL (fun h17=>⟨?y,trivial,iL (fun h18 => ?z) (fun h18 h19=>iE (fun h20 => ?a0) (fun h20=>⟨fun h21 => ?a1,fun h21=>iL (fun h22 => ?a2) (fun h22=>iL (fun h23 => ?a3) (fun h23=>iL (fun h24 h25 h26=>⟨?a4,?a5,iE (fun h27 => ?a6) (fun h27=>iQ (fun h28=>⟨fun h29 => ?a7,fun h29=>⟨fun h30 => ?a8,fun h30=>iL (fun h31=>⟨trivial,iL (fun h32 => ?a9) (fun h32 h33 h34=>⟨?aa,?ab⟩)⟩) (fun h31 h32 h33=>⟨?ac,?ad⟩)⟩⟩) (fun h28=>iL (fun h29=>⟨trivial,iL (fun h30 => ?ae) (fun h30 h31 h32=>⟨?af,?ag⟩)⟩) (fun h29 h30 h31=>⟨?ah,?ai⟩)))⟩) (fun h24=>iQ (fun h25=>⟨fun h26 => ?aj,fun h26=>⟨fun h27 => ?ak,fun h27=>iL (fun h28=>⟨trivial,iL (fun h29 => ?al) (fun h29 h30 h31=>⟨?am,?an⟩)⟩) (fun h28 h29 h30=>⟨?ao,?ap⟩)⟩⟩) (fun h25=>iL (fun h26=>⟨trivial,iL (fun h27 => ?aq) (fun h27 h28 h29=>⟨?ar,?au⟩)⟩) (fun h26 h27 h28=>⟨?av,?aw⟩)))))⟩))⟩) (fun h17=>(by rw [ed (by unfold cW;omega) (q_0.done (by omega)) (q_1.done (by omega)) (q_2.done (by omega)) (q_3.done (by omega))]))⟩)⟩)⟩)⟩)))))
 case a|b|c|d|e=>rw [rY (by unfold cW;omega)]
 case f|m=>exact ⟨0, .zero _,⟨rfl,trivial⟩,trivial⟩
 case g|i|j|n|s|u|y=>omega
 case h|t=>exact ⟨0,⟨by omega,fun j hj=>by omega⟩,⟨rfl,trivial⟩,trivial⟩
 case k|l|v|w=>simp only [aJ,aH] at *;omega
 case o=>
  simp only [bl,reduceCtorEq] at h14
  rw [qB (by unfold cW;omega) (q_0.done (by omega)) (q_1.fault (by omega) h14) (by decide)]
 case p=>
  simp only [bl,reduceCtorEq] at h14
  simp only [aJ,aH] at *;omega
 case q=>
  simp only [bl,reduceCtorEq] at h14
  exact ⟨x_1 + 1,q_1.next (by omega) h14,by omega,⟨by omega,trivial⟩,(by trivial)⟩
 case r|x=>exact ⟨0, .zero _ _,⟨rfl,trivial⟩,trivial⟩
 case z|a0=>rw [ed (by unfold cW;omega) (q_0.done (by omega)) (q_1.done (by omega)) (q_2.done (by omega)) (q_3.fault (by omega) (f:=1) (by unfold dL ek dG;grind) (by decide))]
 case a1=>
  simp only [bl,reduceCtorEq] at h21
  rw [ed (by unfold cW;omega) (q_0.done (by omega)) (q_1.done (by omega)) (q_2.done (by omega)) (q_3.fault (by omega) (f:=1) (by unfold dL ek dG;grind) (by decide))]
 case a2|a3|a6=>
  simp only [bl,reduceCtorEq] at h21
  rw [ed (by unfold cW;omega) (q_0.done (by omega)) (q_1.done (by omega)) (q_2.done (by omega)) (q_3.fault (by omega) (f:=3) (by unfold dL ek dG;grind) (by decide))]
 case a4|af|ar=>
  simp only [bl,reduceCtorEq] at h21
  simp only [aJ,aH] at *;omega
 case a5=>
  simp only [bl,reduceCtorEq] at h21
  omega
 case a7|a8=>
  simp only [bl,reduceCtorEq] at h21 h29
  rw [ed (by unfold cW;omega) (q_0.done (by omega)) (q_1.done (by omega)) (q_2.done (by omega)) (q_3.fault (by omega) (f:=3) (by unfold dL ek dG;grind) (by decide))]
 case a9=>
  simp only [bl,reduceCtorEq] at h21 h29
  rw [ed (by unfold cW;omega) (q_0.done (by omega)) (q_1.done (by omega)) (q_2.done (by omega)) (q_3.fault (by omega) (f:=aI (nth aL o.2.2.2.1 x_3).2.2.2.1) (by unfold dL ek dG;grind) (by omega))]
 case aa=>
  simp only [bl,reduceCtorEq] at h21 h29
  dsimp only [D] at *;omega
 case ab|ad=>
  simp only [bl,reduceCtorEq] at h21 h29
  have:=bK (nth aL o.2.2.2.1 x_3).2.2.2.1;exact ⟨x_3 + 1,q_3.next (by omega) (by unfold dL ek dG;grind),by omega,⟨by omega,trivial⟩,(by trivial)⟩
 case ac=>
  simp only [bl,reduceCtorEq] at h21 h29
  simp only [aJ,aH] at *;omega
 case ae|aq=>
  simp only [bl,reduceCtorEq] at h21
  rw [ed (by unfold cW;omega) (q_0.done (by omega)) (q_1.done (by omega)) (q_2.done (by omega)) (q_3.fault (by omega) (f:=aI (nth aL o.2.2.2.1 x_3).2.2.2.1) (by unfold dL ek dG;grind) (by omega))]
 case ag|ai|au|aw=>
  simp only [bl,reduceCtorEq] at h21
  have:=bK (nth aL o.2.2.2.1 x_3).2.2.2.1;exact ⟨x_3 + 1,q_3.next (by omega) (by unfold dL ek dG;grind),by omega,⟨by omega,trivial⟩,(by trivial)⟩
 case ah|av=>
  simp only [bl,reduceCtorEq] at h21
  dsimp only [D] at *;omega
 case aj|ak=>
  simp only [bl,reduceCtorEq] at h21 h26
  rw [ed (by unfold cW;omega) (q_0.done (by omega)) (q_1.done (by omega)) (q_2.done (by omega)) (q_3.fault (by omega) (f:=3) (by unfold dL ek dG;grind) (by decide))]
 case al=>
  simp only [bl,reduceCtorEq] at h21 h26
  rw [ed (by unfold cW;omega) (q_0.done (by omega)) (q_1.done (by omega)) (q_2.done (by omega)) (q_3.fault (by omega) (f:=aI (nth aL o.2.2.2.1 x_3).2.2.2.1) (by unfold dL ek dG;grind) (by omega))]
 case am=>
  simp only [bl,reduceCtorEq] at h21 h26
  dsimp only [D] at *;omega
 case an|ap=>
  simp only [bl,reduceCtorEq] at h21 h26
  have:=bK (nth aL o.2.2.2.1 x_3).2.2.2.1;exact ⟨x_3 + 1,q_3.next (by omega) (by unfold dL ek dG;grind),by omega,⟨by omega,trivial⟩,(by trivial)⟩
 case ao=>
  simp only [bl,reduceCtorEq] at h21 h26
  simp only [aJ,aH] at *;omega
theorem Tryz.FB:bI Tryz.prog Tryz.B.eT Tryz.X 103 [aA] [.int .i64] (fun _=>True) (fun x y=>y=(fun o=>bA o) x):=
 bU (X:=Tryz.X) Tryz.Bs Tryz.func103 (by kernel_rfl) (fun x=>w6 x) (fun x hw hp=>FA x hw)
theorem DQ (b:Bool) (hw:ec [.bool] b):(cD Tryz.B [] Tryz.f127 [] [.bool] [.str] (fun x y=>y=(fun b=>cP b) x) b).holds:=by
 refine holds_of (p:=
  (((b)=true->([(119:UInt8),101,97,107,32]=cP b))/\((b)=false->(@List.nil UInt8=cP b)))) (by kernel_rfl) ?_
 refine ⟨fun h0 => ?a,fun h0 => ?b⟩
 case a|b=>cases b <;> first | rfl | simp_all
theorem Tryz.DR:bI Tryz.prog Tryz.B.eT Tryz.X 127 [.bool] [.str] (fun _=>True) (fun x y=>y=(fun b=>cP b) x):=
 bU (X:=Tryz.X) (cm Tryz.cn) Tryz.func127 (by kernel_rfl) (fun _=>[]) (fun x hw hp=>DQ x hw)
end Go.Proofs.YtgokjhhcfemnhaaGreatDoor

namespace Go.Proofs.YtgokjhhcfemnhaaGreatDoor
open Go.RowKit Go.Vg
theorem Tryz.JF:(Tryz.prog.info? 214).map (·.size)=some 2:=by kernel_rfl
theorem Tryz.JS:liesAt Tryz.prog Tryz.prog.depth 214 (2 / Tryz.prog.cellsOf 214) 0 214 1=true:=by kernel_rfl
set_option maxHeartbeats 1000000 in
set_option maxRecDepth 100000 in
theorem Tryz.DS (b:Nat) (v:Value) (w:World) (hb:w.heap[b]?=some (.cells #[.pointer (some ⟨b,0,none⟩),v] 214 (0,0))) :
  Calls Tryz.prog 142 #[.pointer (some ⟨b,0,none⟩)] w fun e w'=>e = .returned (.tuple #[])/\w'=w:=by
 obtain ⟨j,hj,_⟩:=Option.map_eq_some_iff.1 Tryz.JF
 have h0:w.cell? ⟨b,0,none⟩=some (.pointer (some ⟨b,0,none⟩)):=by rw [Lib.cell_of_heap hb];rfl
 go_enter Tryz.func142,Tryz.ntmps142
 go_wp2
 rw [Lib.run_neq_ptr_same w _ Tryz.underlying212 hj]
 go_wp2
 go_end0
 exact ⟨rfl,rfl⟩
set_option maxHeartbeats 1000000 in
set_option maxRecDepth 100000 in
theorem Tryz.Bt (b:Nat) (v:Value) (w:World) (hb:w.heap[b]?=some (.cells #[.pointer none,v] 214 (0,0))) :
  Calls Tryz.prog 142 #[.pointer (some ⟨b,0,none⟩)] w fun e w'=>e = .returned (.tuple #[])/\w'=w.setCell ⟨b,0,none⟩ (.pointer (some ⟨b,0,none⟩)):=by
 obtain ⟨j,hj,hjs⟩:=Option.map_eq_some_iff.1 Tryz.JF
 have h0:w.cell? ⟨b,0,none⟩=some (.pointer none):=by rw [Lib.cell_of_heap hb];rfl
 have hsh:w.shape? b=some (214,2):=by simp [World.shape?,hb]
 have hfz:w.frozen? ⟨b,0,none⟩=false:=Lib.frozen_of_heap hb 0
 go_enter Tryz.func142,Tryz.ntmps142
 go_wp2
 rw [Lib.run_to_unsafe w ⟨b,0,none⟩ Tryz.underlying212 Tryz.underlying251 hj (by rw [hjs];decide) hsh (Nat.zero_lt_succ 1)]
 simp only [Result.andThen]
 rw [Oper.upon_value]
 go_wp2
 rw [run_callFunc_extern Tryz.func170 (by kernel_rfl) (by kernel_rfl) (by kernel_rfl) (e:=Extern.AbiNoEscape.same) (by kernel_rfl)]
 rw [Lib.run_noEscape]
 simp only [Result.andThen]
 rw [Oper.upon_value]
 go_wp2
 rw [Lib.run_from_unsafe w ⟨b,0,none⟩ Tryz.underlying251 Tryz.underlying212 hj hsh Tryz.JS]
 simp only [Result.andThen]
 rw [Oper.upon_value]
 go_wp2
 go_end0
 exact ⟨rfl,rfl⟩
theorem Tryz.JT:(Tryz.prog.info? 5).map (fun i=>(i.zero,i.size,i.bytes))=some (some (.int .u8 0),1,1):=by kernel_rfl
theorem Tryz.JM:Tryz.prog.cellsOf 5=1:=by kernel_rfl
set_option maxHeartbeats 2000000 in
set_option maxRecDepth 100000 in
theorem Tryz.FC (b:Nat) (p v:Value) (xs:List Value) (s:ByteArray) (w:World) (hb:w.heap[b]?=some (.cells #[p,v] 214 (0,0))) (hp:p = .pointer none\/p = .pointer (some ⟨b,0,none⟩))
  (hown:w.ownsRow 0 5 1 v xs.length xs) (hne:v.ownBlock≠some b) (hcap:∀a n c,v = .slice (some a) n c->0 < c) (hlen:xs.length + s.size<=140737488355328) :
  Calls Tryz.prog 119 #[.pointer (some ⟨b,0,none⟩), .string s] w fun e w'=>e = .returned (.tuple #[.int .i64 s.size, .nilIface])/\
   ∃v',w'.heap[b]?=some (.cells #[.pointer (some ⟨b,0,none⟩),v'] 214 (0,0))/\w'.ownsRow 0 5 1 v' (xs.length + s.size) (xs++Lib.strCells s)/\v'.ownBlock≠some b/\Kept b v w w'/\
    (∀a n c,v' = .slice (some a) n c->0 < c)/\(∀g,v'.ownBlock=some g->v.ownBlock=some g\/w.heap.size<=g):=by
 obtain ⟨i0,hi,hz0⟩:=Option.map_eq_some_iff.1 Tryz.JT
 simp only [Prod.mk.injEq] at hz0
 obtain ⟨hz0,hz1,hz2⟩:=hz0
 have hchk:Calls Tryz.prog 142 #[.pointer (some ⟨b,0,none⟩)] w fun e w1=>e = .returned (.tuple #[])/\w1.heap[b]?=some (.cells #[.pointer (some ⟨b,0,none⟩),v] 214 (0,0))/\
   w1.os=w.os/\w1.output=w.output/\w1.heap.size=w.heap.size/\∀k,k≠b->w1.heap[k]?=w.heap[k]?:=by
  rcases hp with rfl | rfl
  ·refine (Tryz.Bt b v w hb).mono ?_
   rintro e w1 ⟨rfl,rfl⟩
   exact ⟨rfl,(IY hb).trans (by simp),rfl,rfl,Go.Deep.nblk_setCell _ _ _,fun k hk=>Go.Deep.blk_setCell_other _ _ _ _ hk⟩
  ·refine (Tryz.DS b v w hb).mono ?_
   rintro e w1 ⟨rfl,rfl⟩
   exact ⟨rfl,hb,rfl,rfl,rfl,fun _ _=>rfl⟩
 go_enter Tryz.func119,Tryz.ntmps119
 go_wp2_with (go_at_call 142;refine hchk.mono ?_)
 rintro e w1 ⟨rfl,hb1,ho1,hu1,hs1,hk1⟩
 have hown1:w1.ownsRow 0 5 1 v xs.length xs:=by
  refine ⟨hown.1,?_⟩
  rcases hown.2 with h | ⟨g,cap,cur,h1,h2,h3,h4⟩
  ·exact .inl h
  ·refine .inr ⟨g,cap,cur,h1,h2,?_,h4⟩
   rw [hk1 g (fun e=>hne (by rw [h1,e];rfl))];exact h3
 have c0:w1.cell? ⟨b,0,none⟩=some (.pointer (some ⟨b,0,none⟩)):=by rw [Lib.cell_of_heap hb1];rfl
 have c1:w1.cell? ⟨b,1,none⟩=some v:=by rw [Lib.cell_of_heap hb1];rfl
 obtain ⟨v',w2,hrun,hown',hgrow,hcap',hnew⟩:=H6 (t:=153) (u:=9) (ty:=153) Tryz.underlying153 Tryz.underlying9 hi hz0 hz1 hz2 hown1 hcap s hlen
 have hlt:b < w1.heap.size:=(Array.getElem?_eq_some_iff.1 hb1).1
 have hb2:w2.heap[b]?=some (.cells #[.pointer (some ⟨b,0,none⟩),v] 214 (0,0)):=by rw [hgrow.block b hlt (fun e=>hne e.symm)];exact hb1
 have d1:w2.cell? ⟨b,1,none⟩=some v:=by rw [Lib.cell_of_heap hb2];rfl
 have f1:w2.frozen? ⟨b,1,none⟩=false:=Lib.frozen_of_heap hb2 1
 have hne':v'.ownBlock≠some b:=by
  intro e
  rcases hown'.2 with ⟨h,_⟩ | ⟨g',cap,cur,h,_,h3,_⟩
  ·rw [h] at e;cases e
  ·rw [h] at e
   cases e
   rw [hb2] at h3
   cases h3
 have hv1:∃a n c,v' = .slice a n c:=by
  rcases hown'.2 with ⟨h,_⟩ | ⟨g',cap,cur,h,_⟩ <;> exact ⟨_,_,_,h⟩
 obtain ⟨va,vn,vc,rfl⟩:=hv1
 rw [hs1] at hnew
 go_wp2_with (at_builtin;refine rH rfl _ _ 153 9 rfl rfl rfl hrun ?_)
 go_ret2
 refine ⟨rfl, .slice va vn vc,(IY hb2).trans (by simp),⟨hown'.1,?_⟩,hne',⟨hgrow.os.trans ho1,hgrow.output.trans hu1,?_,fun k h1 h2 h3 => ?_⟩,hcap',hnew⟩
 ·rcases hown'.2 with h | ⟨g,cap,cur,h1,h2,h3,h4⟩
  ·exact .inl h
  ·refine .inr ⟨g,cap,cur,h1,h2,?_,h4⟩
   rw [Go.Deep.blk_setCell_other _ _ _ _ (fun e=>hne' (by rw [h1,show g=b from e];rfl))]
   exact h3
 ·rw [Go.Deep.nblk_setCell];have:=hgrow.size;omega
 ·rw [Go.Deep.blk_setCell_other _ _ _ _ (show k≠b from h2),hgrow.block k (by omega) (fun e=>h3 e.symm),hk1 k h2]
set_option maxHeartbeats 2000000 in
set_option maxRecDepth 100000 in
theorem Tryz.DT (b:Nat) (p v:Value) (l:List UInt8) (w:World) (hb:w.heap[b]?=some (.cells #[p,v] 214 (0,0))) (hown:w.ownsRow 0 5 1 v l.length (l.map fun c=>Value.int .u8 c.toNat)) (hcap:∀a n c,v = .slice (some a) n c->0 < c) :
  Calls Tryz.prog 120 #[.pointer (some ⟨b,0,none⟩)] w fun e w'=>e = .returned (.string ⟨l.toArray⟩)/\C7 v w w':=by
 have c1:w.drew.cell? ⟨b,1,none⟩=some v:=by
  have:w.drew.heap[b]?=some (.cells #[p,v] 214 (0,0)):=hb
  rw [Lib.cell_of_heap this];rfl
 have mixed:Tryz.prog.follows .mixedOrders=true:=by kernel_rfl
 by_cases h0:l = []
 ·subst h0
  obtain ⟨q,n,c,rfl,hn,hSD⟩:∃q n c,v = .slice q n c/\n=0/\(Builtin.unsafeSliceData_ #[153] 233 #[v]).run Tryz.prog w.drew = .ok (.pointer q) w.drew:=by
   rcases hown.2 with ⟨rfl,_⟩ | ⟨g,cap,cur,rfl,_⟩
   ·exact ⟨none,0,0,rfl,rfl,Lib.run_unsafeSliceData_nil _ _ _ _ _⟩
   ·exact ⟨_,_,_,rfl,rfl,Lib.run_unsafeSliceData_row _ _ _ _ _ _ (by have:=hcap _ _ _ rfl;omega)⟩
  subst hn
  have hUS:(Builtin.unsafeString_ #[233,3] 9 #[.pointer q, .int .i64 0]).run Tryz.prog w.drew = .ok (.string .empty) w.drew:=Lib.run_unsafeString_none _ _ _ _ q
  go_enter Tryz.func120,Tryz.ntmps120
  go_wp2
  go_region_o
  all_goals (go_wp2;go_ret;exact ⟨rfl,rfl,rfl,rfl,fun _ _=>rfl⟩)
 ·have hl0:l.length≠0:=by simpa using h0
  rcases hown.2 with ⟨_,hz⟩ | ⟨g,cap,cur,rfl,hbg,hg,hnc,hcm,hcs,htake⟩
  ·exact absurd hz hl0
  have hSD:(Builtin.unsafeSliceData_ #[153] 233 #[.slice (some ⟨g,0,none⟩) l.length cap]).run Tryz.prog w.drew = .ok (.pointer (some ⟨g,0,none⟩)) w.drew:=Lib.run_unsafeSliceData_row _ _ _ _ _ _ (by omega)
  have hUS:(Builtin.unsafeString_ #[233,3] 9 #[.pointer (some ⟨g,0,none⟩), .int .i64 l.length]).run Tryz.prog w.drew = .ok (.string ⟨l.toArray⟩) (w.drew.freeze ⟨g,0,none⟩ l.length):=by
   refine Lib.run_unsafeString_row w.drew 233 3 9 5 Tryz.underlying233 Tryz.JM g cur.size (by have hg':w.drew.heap[g]?=some (.cells cur 5 (0,0)):=hg;simp [World.shape?,hg']) l h0 (by omega) (by unfold maxLen at hcm;omega) ?_
   intro j x hx
   exact hown.cells (g:=g) rfl j (.int .u8 x.toNat) (by simp [hx])
  go_enter Tryz.func120,Tryz.ntmps120
  go_wp2
  go_region_o
  all_goals (go_wp2;go_ret;exact ⟨rfl,AW⟩)
theorem Tryz.Iu (b:Nat) (p _q:Value) (a:Option Addr) (n c:Nat) (w:World) (hb:w.heap[b]?=some (.cells #[p, .slice a n c] 214 (0,0))) :
  Calls Tryz.prog 128 #[.pointer (some ⟨b,0,none⟩)] w fun r w'=>r = .returned (.int .i64 n)/\w'=w:=by
 have c1:w.cell? ⟨b,1,none⟩=some (.slice a n c):=by rw [Lib.cell_of_heap hb];rfl
 go_enter Tryz.func128,Tryz.ntmps128
 go_wp2
 go_ret
 exact ⟨rfl,rfl⟩
theorem Tryz.Bu:cG Tryz.prog Tryz.B.eT Tryz.X 119 false (oU 214 5):=
 uf ⟨Tryz.f119,Tryz.func119,by kernel_rfl,by kernel_rfl⟩ Tryz.FC
theorem Tryz.Af:cG Tryz.prog Tryz.B.eT Tryz.X 120 false (mM 214 5):=
 sP ⟨Tryz.f120,Tryz.func120,by kernel_rfl,by kernel_rfl⟩ Tryz.DT
theorem Tryz.FD:cG Tryz.prog Tryz.B.eT Tryz.X 128 true (ue 214 5):=
 xA ⟨Tryz.f128,Tryz.func128,by kernel_rfl,by kernel_rfl⟩ Tryz.Iu
end Go.Proofs.YtgokjhhcfemnhaaGreatDoor

namespace Go.Proofs.YtgokjhhcfemnhaaGreatDoor
open Go.Vg Go.Mrl
noncomputable def Tryz.Ag:List (FuncId × (Bool × bQ)):=[(87,(true,aM [.str] [.err] (fun _=>True) (fun s=>aX (aI s)))),
 (94,(true,aM [.str] [.int .i64] (fun _=>True) (fun s=>aI s))),
 (9,(true,aM [.err, .int .i64] [.bool] (fun _=>True) (fun x=>cV x.1 x.2))),
 (119,(false,oU 214 5)),
 (120,(false,mM 214 5)),
 (128,(true,ue 214 5)),
 (118,(true,aM [.int .i64] [.str] (fun _=>True) (fun n=>Lib.itoa n))),
 (126,(true,aM [aA] [.err] (fun _=>True) (fun o=>aX (bA o)))),
 (127,(true,aM [.bool] [.str] (fun _=>True) (fun b=>cP b)))]
theorem Tryz.DU:bZ Tryz.prog Tryz.B Tryz.X Tryz.Ag:=
 aO (aG Tryz.fU) (aO (aG Tryz.dJ) (aO (aG Tryz.gH) (aO (Tryz.Bu) (aO (Tryz.Af) (aO (Tryz.FD) (aO (aG Tryz.po) (aO (aG Tryz.Fz) (aO (aG Tryz.DR) (cm Tryz.cn)))))))))
def Ah (o:D aA):cu:=[
 (0,fun st=>{X:=Nat,inv:=fun i=>i<=o.1.length,aY:=fun i=>o.1.length - i,aQ:=fun i=>[(23,sI i)],aT:=[1,2,3,5,6,21,22],aE:=fun i=>[(bD st 5, .ext 2 fO (cf (fh o i),(214:Int),(5:Int),()))],fg:=[bD st 5]}),
 (2,fun st=>{X:=Nat,inv:=fun i=>i<=o.2.1.length,aY:=fun i=>o.2.1.length - i,aQ:=fun i=>[(35,sI i)],aT:=[1,2,3,5,6,33,34],aE:=fun i=>[(bD st 5, .ext 2 fO (cf (eO o i),(214:Int),(5:Int),()))],fg:=[bD st 5]}),
 (4,fun st=>{X:=Nat,inv:=fun i=>i<=o.2.2.1.length,aY:=fun i=>o.2.2.1.length - i,aQ:=fun i=>[(49,sI i)],aT:=[1,2,3,5,6,47,48],aE:=fun i=>[(bD st 5, .ext 2 fO (cf (dI o i),(214:Int),(5:Int),()))],fg:=[bD st 5]}),
 (6,fun st=>{X:=Nat,inv:=fun i=>i<=o.2.2.2.1.length,aY:=fun i=>o.2.2.2.1.length - i,aQ:=fun i=>[(72,sI i)],aT:=[2,3,5,6,70,71],aE:=fun i=>[(bD st 5, .ext 2 fO (cf (cz o i),(214:Int),(5:Int),()))],fg:=[bD st 5]})]
theorem Hf (o:D aA) (hw:ec [aA] o):(cD (lG Tryz.B [41,64,91,85,104,110,123,129]) Tryz.Ag Tryz.f98 (Ah o) [aA] [.str, .err] (fun x y=>y=(fun o=>ft o) x) o).holds:=by
 refine holds_of (p:=
  let za:=aX (bA o)
  let zb:=ft o
  let zc:=List.length o.1
  let zd:=(↑(214:Nat):Int)
  let ze:=fun (b:UInt8)=>(↑(UInt8.toNat b):Int)
  let zf:=((214:Int),(5:Int),())
  let zg:=fun (x_0:Nat)=>(↑x_0:Int)
  let zh:=fun (x_0:Nat)=>(0:Int)<=zg x_0
  let zi:=[(110:UInt8),101,101,100,32]
  let zj:=[(10:UInt8)]
  let zk:=List.length zj
  let zl:=(214:Int)=zd
  let zm:=(↑(5:Nat):Int)
  let zn:=(5:Int)=zm
  let zo:=fun (x_0:Nat)=>List.map ze (fh o x_0)
  let zp:=fun (x_0:Nat)=>zi++nth Ty.str o.1 x_0++zj
  let zq:=fun (x_0:Nat)=>aJ (zg x_0)
  let zr:=aJ (1:Int)
  let zs:=fun (x_0:Nat)=>zg x_0 + (1:Int)
  let zt:=fun (x_0:Nat)=>aJ (zs x_0)
  let zu:=(zd,zm,())
  let zv:=o.2.1
  let zw:=o.2.2.1
  let zx:=o.2.2.2.1
  let zy:=(o.1=o.1/\zv=zv/\zw=zw/\zx=zx/\True)/\True
  let zz:=List.length zv
  let zaa:=[(119:UInt8),111,114,100,32]
  let zab:=fun (x_1:Nat)=>zaa++Lib.itoa (nth (Ty.int IntKind.i64) zv x_1)
  let zac:=fun (x_1:Nat)=>List.map ze (eO o x_1)
  let zad:=List.length zw
  let zae:=fun (x_2:Nat)=>cP (nth aD zw x_2).2.2.1
  let zaf:=[(115:UInt8),121,109,98,111,108,32]
  let zag:=fun (x_2:Nat)=>zae x_2++zaf++(nth aD zw x_2).1
  let zah:=[(32:UInt8)]
  let zai:=List.length zah
  let zaj:=fun (x_2:Nat)=>Lib.itoa (nth aD zw x_2).2.1
  let zak:=fun (x_2:Nat)=>List.map ze (dI o x_2)
  let zal:=fun (x_2:Nat)=>zag x_2++zah++zaj x_2++zj
  let zam:=List.length zx
  let zan:=[(98:UInt8),97,115,101,32]
  let zao:=fun (x_3:Nat)=>Lib.itoa (nth aL zx x_3).1
  let zap:=fun (x_3:Nat)=>Lib.itoa (nth aL zx x_3).2.2.1
  let zaq:=fun (x_3:Nat)=>zan++zao x_3++zah++zap x_3
  let zar:=fun (x_3:Nat)=>List.map ze (cz o x_3)
  let zas:=fun (x_3:Nat)=>List.length (zar x_3)
  let zat:=fun (x_3:Nat)=>cP (nth aL zx x_3).2.2.2.2.1
  let zau:=[(119:UInt8),104,111,108,101,32]
  let zav:=fun (x_3:Nat)=>zat x_3++zau++zao x_3++zah
  let zaw:=fun (x_3:Nat)=>(nth aL zx x_3).2.2.2.1
  let zax:=fun (x_3:Nat)=>zav x_3++zap x_3++zah++zaw x_3
  let zay:=[(110:UInt8),101,97,114,32]
  let zaz:=fun (x_3:Nat)=>zat x_3++zay++zao x_3++zah
  let zba:=fun (x_3:Nat)=>zaz x_3++zap x_3++zah++zaw x_3
  (True)/\(((!cg.isNil za)=true->(([],za)=zb))/\((!cg.isNil za)=false->((zc<=aH)->(∃(x:Nat),x<=zc/\((0:Int)=(↑x:Int)/\True)/\([],zd,(↑(5:TypeId):Int),())=(List.map ze (fh o x),zf)/\True)/\(∀x_0:Nat,((x_0<=zc)->(((decide (zg x_0 < (↑zc:Int)))=true->(zh x_0/\zg x_0 < (↑zc:Int))/\(List.length zi + List.length (nth Ty.str o.1 x_0)<=aH)/\(List.length (zi++nth Ty.str o.1 x_0) + zk<=aH)/\(zl/\zn/\List.length (zo x_0) + List.length (zp x_0)<=(140737488355328:Nat))/\((zq x_0)->((zr)->(zt x_0)/\(∃(x':Nat),x'<=zc/\zc - x' < zc - x_0/\(zs x_0=(↑x':Int)/\True)/\(zo x_0++List.map ze (zp x_0),zu)=(List.map ze (fh o x'),zf)/\zy))))/\((decide (zg x_0 < (↑zc:Int)))=false->((zz<=aH)->(∃(x:Nat),x<=zz/\((0:Int)=(↑x:Int)/\True)/\(zo x_0,zf)=(List.map ze (eO o x),zf)/\True)/\(∀x_1:Nat,((x_1<=zz)->(((decide (zg x_1 < (↑zz:Int)))=true->(zh x_1/\zg x_1 < (↑zz:Int))/\(True)/\(List.length zaa + List.length (Lib.itoa (nth (Ty.int IntKind.i64) zv x_1))<=aH)/\(List.length (zab x_1) + zk<=aH)/\(zl/\zn/\List.length (zac x_1) + List.length (zab x_1++zj)<=(140737488355328:Nat))/\((zq x_1)->((zr)->(zt x_1)/\(∃(x':Nat),x'<=zz/\zz - x' < zz - x_1/\(zs x_1=(↑x':Int)/\True)/\(zac x_1++List.map ze (zab x_1++zj),zu)=(List.map ze (eO o x'),zf)/\zy))))/\((decide (zg x_1 < (↑zz:Int)))=false->((zad<=aH)->(∃(x:Nat),x<=zad/\((0:Int)=(↑x:Int)/\True)/\(zac x_1,zf)=(List.map ze (dI o x),zf)/\True)/\(∀x_2:Nat,((x_2<=zad)->(((decide (zg x_2 < (↑zad:Int)))=true->(zh x_2/\zg x_2 < (↑zad:Int))/\(True)/\(List.length (zae x_2) + List.length zaf<=aH)/\(List.length (zae x_2++zaf) + List.length (nth aD zw x_2).1<=aH)/\(List.length (zag x_2) + zai<=aH)/\(True)/\(List.length (zag x_2++zah) + List.length (zaj x_2)<=aH)/\(List.length (zag x_2++zah++zaj x_2) + zk<=aH)/\(zl/\zn/\List.length (zak x_2) + List.length (zal x_2)<=(140737488355328:Nat))/\((zq x_2)->((zr)->(zt x_2)/\(∃(x':Nat),x'<=zad/\zad - x' < zad - x_2/\(zs x_2=(↑x':Int)/\True)/\(zak x_2++List.map ze (zal x_2),zu)=(List.map ze (dI o x'),zf)/\zy))))/\((decide (zg x_2 < (↑zad:Int)))=false->((zam<=aH)->(∃(x:Nat),x<=zam/\((0:Int)=(↑x:Int)/\True)/\(zak x_2,zf)=(List.map ze (cz o x),zf)/\True)/\(∀x_3:Nat,((x_3<=zam)->(((decide (zg x_3 < (↑zam:Int)))=true->(zh x_3/\zg x_3 < (↑zam:Int))/\((((nth aL zx x_3).2.1 == (1:Int))=true->(True)/\(List.length zan + List.length (zao x_3)<=aH)/\(List.length (zan++zao x_3) + zai<=aH)/\(True)/\(List.length (zan++zao x_3++zah) + List.length (zap x_3)<=aH)/\(List.length (zaq x_3) + zk<=aH)/\(zl/\zn/\zas x_3 + List.length (zaq x_3++zj)<=(140737488355328:Nat))/\((zq x_3)->((zr)->(zt x_3)/\(∃(x':Nat),x'<=zam/\zam - x' < zam - x_3/\(zs x_3=(↑x':Int)/\True)/\(zar x_3++List.map ze (zaq x_3++zj),zu)=(List.map ze (cz o x'),zf)/\zy))))/\(((nth aL zx x_3).2.1 == (1:Int))=false->((((nth aL zx x_3).2.1 == (2:Int))=true->(True)/\(List.length (zat x_3) + List.length zau<=aH)/\(True)/\(List.length (zat x_3++zau) + List.length (zao x_3)<=aH)/\(List.length (zat x_3++zau++zao x_3) + zai<=aH)/\(True)/\(List.length (zav x_3) + List.length (zap x_3)<=aH)/\(List.length (zav x_3++zap x_3) + zai<=aH)/\(List.length (zav x_3++zap x_3++zah) + List.length (zaw x_3)<=aH)/\(List.length (zax x_3) + zk<=aH)/\(zl/\zn/\zas x_3 + List.length (zax x_3++zj)<=(140737488355328:Nat))/\((zq x_3)->((zr)->(zt x_3)/\(∃(x':Nat),x'<=zam/\zam - x' < zam - x_3/\(zs x_3=(↑x':Int)/\True)/\(zar x_3++List.map ze (zax x_3++zj),zu)=(List.map ze (cz o x'),zf)/\zy))))/\(((nth aL zx x_3).2.1 == (2:Int))=false->(True)/\(List.length (zat x_3) + List.length zay<=aH)/\(True)/\(List.length (zat x_3++zay) + List.length (zao x_3)<=aH)/\(List.length (zat x_3++zay++zao x_3) + zai<=aH)/\(True)/\(List.length (zaz x_3) + List.length (zap x_3)<=aH)/\(List.length (zaz x_3++zap x_3) + zai<=aH)/\(List.length (zaz x_3++zap x_3++zah) + List.length (zaw x_3)<=aH)/\(List.length (zba x_3) + zk<=aH)/\(zl/\zn/\zas x_3 + List.length (zba x_3++zj)<=(140737488355328:Nat))/\((zq x_3)->((zr)->(zt x_3)/\(∃(x':Nat),x'<=zam/\zam - x' < zam - x_3/\(zs x_3=(↑x':Int)/\True)/\(zar x_3++List.map ze (zba x_3++zj),zu)=(List.map ze (cz o x'),zf)/\zy))))))))/\((decide (zg x_3 < (↑zam:Int)))=false->(zl/\zn)/\(((decide ((↑(zas x_3):Int) > (1200:Int)))=true->(([],cg.no (2:Int))=zb))/\((decide ((↑(zas x_3):Int) > (1200:Int)))=false->(zl/\zn)/\((bytesOf (zar x_3),cg.nil)=zb)))))))))))))))))))))))))) (by kernel_rfl) ?_
 dsimp -iota -proj -eta only
 refine ⟨trivial,⟨fun h0 => ?a,fun h0 h1=>⟨?b,fun x_0 q_0=>iL (fun h2=>⟨?c,?d,?e,?f,fun h3 h4=>⟨?g,?h⟩⟩) (fun h2 h3=>⟨?i,fun x_1 q_1=>iL (fun h4=>⟨?j,trivial,?k,?l,?m,fun h5 h6=>⟨?n,?o⟩⟩) (fun h4 h5=>⟨?p,fun x_2 q_2=>iL (fun h6=>⟨?q,trivial,?r,?s,?t,trivial,?u,?v,?w,fun h7 h8=>⟨?x,?y⟩⟩) (fun h6 h7=>⟨?z,fun x_3 q_3=>iL (fun h8=>⟨?a0,iQ (fun h9=>⟨trivial,?a1,?a2,trivial,?a3,?a4,?a5,fun h10 h11=>⟨?a6,?a7⟩⟩) (fun h9=>iQ (fun h10=>⟨trivial,?a8,trivial,?a9,?aa,trivial,?ab,?ac,?ad,?ae,?af,fun h11 h12=>⟨?ag,?ah⟩⟩) (fun h10=>⟨trivial,?ai,trivial,?aj,?ak,trivial,?al,?am,?an,?ao,?ap,fun h11 h12=>⟨?aq,?ar⟩⟩))⟩) (fun h8=>⟨?au,iL (fun h9 => ?av) (fun h9=>⟨?aw,?ax⟩)⟩)⟩)⟩)⟩)⟩⟩⟩
 case a=>
  simp only [bl,reduceCtorEq] at h0
  rw [wG (fun e=>by rw [bN.2 e] at h0;cases h0)]
 case b=>
  simp only [bl,reduceCtorEq] at h0
  exact ⟨0,by omega,⟨rfl,trivial⟩,rfl,trivial⟩
 case c|j|q|a0=>
  simp only [bl,reduceCtorEq] at h0
  omega
 case d|e=>
  simp only [bl,reduceCtorEq] at h0
  have a:=qJ (dC (bN.1 h0)) (i:=x_0) (by omega);simp only [List.length_append,List.length_cons,List.length_nil,List.length_map,aH];omega
 case f|m|w|a5|af|ap=>
  simp only [bl,reduceCtorEq] at h0
  exact ⟨rfl,rfl,by first | (have a:=sU (dC (bN.1 h0)) (i:=x_3) (by omega);simp only [List.length_append,List.length_cons,List.length_nil,List.length_map,aH];omega) | (have a:=sR (dC (bN.1 h0)) (i:=x_2) (by omega);simp only [List.length_append,List.length_cons,List.length_nil,List.length_map,aH];omega) | (have a:=qK (dC (bN.1 h0)) (i:=x_1) (by omega);simp only [List.length_append,List.length_cons,List.length_nil,List.length_map,aH];omega) | (have a:=qJ (dC (bN.1 h0)) (i:=x_0) (by omega);simp only [List.length_append,List.length_cons,List.length_nil,List.length_map,aH];omega)⟩
 case g|n|x|a6|ag|aq=>
  simp only [bl,reduceCtorEq] at h0
  simp only [aJ,aH] at *;omega
 case h=>
  simp only [bl,reduceCtorEq] at h0
  exact ⟨x_0 + 1,by omega,by omega,⟨by omega,trivial⟩,ky (wB (by omega)),(by trivial)⟩
 case i=>
  simp only [bl,reduceCtorEq] at h0
  exact ⟨0,by omega,⟨rfl,trivial⟩,sV (by rw [wD,show x_0=o.1.length by omega]),trivial⟩
 case k|l=>
  simp only [bl,reduceCtorEq] at h0
  have a:=qK (dC (bN.1 h0)) (i:=x_1) (by omega);simp only [List.length_append,List.length_cons,List.length_nil,List.length_map,aH];omega
 case o=>
  simp only [bl,reduceCtorEq] at h0
  exact ⟨x_1 + 1,by omega,by omega,⟨by omega,trivial⟩,ky (wC (by omega)),(by trivial)⟩
 case p=>
  simp only [bl,reduceCtorEq] at h0
  exact ⟨0,by omega,⟨rfl,trivial⟩,sV (by rw [wE,show x_1=o.2.1.length by omega]),trivial⟩
 case r|s|t|u|v=>
  simp only [bl,reduceCtorEq] at h0
  have a:=sR (dC (bN.1 h0)) (i:=x_2) (by omega);simp only [List.length_append,List.length_cons,List.length_nil,List.length_map,aH];omega
 case y=>
  simp only [bl,reduceCtorEq] at h0
  exact ⟨x_2 + 1,by omega,by omega,⟨by omega,trivial⟩,ky (qH (by omega)),(by trivial)⟩
 case z=>
  simp only [bl,reduceCtorEq] at h0
  exact ⟨0,by omega,⟨rfl,trivial⟩,sV (by rw [wF,show x_2=o.2.2.1.length by omega]),trivial⟩
 case a1|a2|a3|a4|a8|a9|aa|ab|ac|ad|ae|ai|aj|ak|al|am|an|ao=>
  simp only [bl,reduceCtorEq] at h0
  have a:=sU (dC (bN.1 h0)) (i:=x_3) (by omega);simp only [List.length_append,List.length_cons,List.length_nil,List.length_map,aH];omega
 case a7=>
  simp only [bl,reduceCtorEq] at h0
  exact ⟨x_3 + 1,by omega,by omega,⟨by omega,trivial⟩,ky (uw (by omega) h9),(by trivial)⟩
 case ah=>
  simp only [bl,reduceCtorEq] at h0
  exact ⟨x_3 + 1,by omega,by omega,⟨by omega,trivial⟩,ky (o5 (by omega) h9 h10),(by trivial)⟩
 case ar=>
  simp only [bl,reduceCtorEq] at h0
  exact ⟨x_3 + 1,by omega,by omega,⟨by omega,trivial⟩,ky (o6 (by omega) h9 h10),(by trivial)⟩
 case au|aw=>
  simp only [bl,reduceCtorEq] at h0
  trivial
 case av=>
  simp only [bl,reduceCtorEq] at h0
  rw [ux (bN.1 h0) (show x_3=_ by omega) (by simp only [List.length_map] at h9;omega)]
 case ax=>
  simp only [bl,reduceCtorEq] at h0
  rw [o7 (bN.1 h0) (show x_3=_ by omega) (by simp only [List.length_map] at h9;omega)];exact congrArg (·,cg.nil) (C8 _)
theorem Tryz.Hg:bI Tryz.prog Tryz.B.eT Tryz.X 98 [aA] [.str, .err] (fun _=>True) (fun x y=>y=(fun o=>ft o) x):=
 bU (B:=(lG Tryz.B [41,64,91,85,104,110,123,129])) (X:=Tryz.X) (bZ.hint (l:=[41,64,91,85,104,110,123,129]) Tryz.DU) Tryz.func98 (by kernel_rfl) (fun x=>Ah x) (fun x hw hp=>Hf x hw)
end Go.Proofs.YtgokjhhcfemnhaaGreatDoor

namespace Go.Proofs.YtgokjhhcfemnhaaGreatDoor
open Go.Vg Go.Mrl
noncomputable def Tryz.Ai:List (FuncId × (Bool × bQ)):=[(118,(true,aM [.int .i64] [.str] (fun _=>True) (fun n=>Lib.itoa n))),
 (117,(true,aM [.str] [.int .i64, .err] (fun s=>s.length<=281474976710656) (fun s=>cO s))),
 (124,(true,aM [.str, .str] [.str, .bool] (fun _=>True) (fun x=>(Lib.trimPrefix x.1 x.2,Lib.hasPrefix x.1 x.2)))),
 (82,(true,aM [.str, .str] [.str] (fun _=>True) (fun x=>Lib.trimSuffix x.1 x.2))),
 (81,(true,aM [.str, .str] [.slice .str] (fun x=>x.1.length < 4294967281/\x.2.length=1) (fun x=>parts (HE x.2) x.1))),
 (98,(true,aM [aA] [.str, .err] (fun _=>True) (fun o=>ft o))),
 (97,(false,bG Tryz.jB [.obj 0, .d .str, .obj 5] (fun a x=>a.1.length<=1000000/\x.2.1.length<=1000000/\x.2.2.1.length<=1000000/\x.2.2.2.1.length<=1000000/\x.2.2.2.2.1.length<=1000000) Tryz.ta))]
theorem Tryz.DV:bZ Tryz.prog Tryz.B Tryz.X Tryz.Ai:=
 aO (aG Tryz.po) (aO (aG Tryz.s7) (aO (aG Tryz.mm) (aO (aG Tryz.lu) (aO (aG Tryz.s9) (aO (aG Tryz.Hg) (aO (Tryz.Hb) (cm Tryz.cn)))))))
def Aj (s:List UInt8):cu:=[(200000,fun st=>{X:=Nat × D aA × Bool,inv:=fun x=>gg (parts 10 (Lib.trimSuffix s [10])) x.1 x.2.1 x.2.2,aY:=fun x=>List.length (parts 10 (Lib.trimSuffix s [10])) - x.1,aQ:=fun x=>[(19,sI x.1)],aT:=[0,2,3,4,5,17,18],aK:=Tryz.jB,refs:=[(4,0),(5,5)],pd:=fun x=>E6 x.2})]
theorem FF (s:List UInt8) (hw:ec [.str] s):(cD Tryz.B Tryz.Ai Tryz.f68 (Aj s) [.str] [aA, .err] (fun x y=>y=(fun s=>iT s) x) s).holds:=by
 refine holds_of (p:=
  let za:=([],[],[],[],())
  let zb:=iT s
  let zc:=Lib.trimSuffix s [(10:UInt8)]
  let zd:=parts (10:UInt8) zc
  let ze:=@List.nil (List UInt8) = @List.nil (List UInt8)
  let zf:=@List.nil Int = @List.nil Int
  let zg:=@List.nil (List UInt8 × Int × Bool × Unit) = @List.nil (List UInt8 × Int × Bool × Unit)
  let zh:=@List.nil (Int × Int × Int × List UInt8 × Bool × Unit) = @List.nil (Int × Int × Int × List UInt8 × Bool × Unit)
  let zi:=List UInt8
  let zj:=Nat × (List zi × List Int × List (zi × Int × Bool × Unit) × List (Int × Int × Int × zi × Bool × Unit) × Unit) × Bool
  let zk:=(ze/\zf/\zg/\zh/\True)/\zh/\zg/\zf/\ze/\True
  let zl:=!false
  let zm:=(zl && (zl && (zl && (zl && (zl && true)))))=true
  let zn:=fun (x_0:Nat × (List (List UInt8) × List Int × List (List UInt8 × Int × Bool × Unit) × List (Int × Int × Int × List UInt8 × Bool × Unit) × Unit) × Bool)=>(↑x_0.1:Int) < (↑(List.length zd):Int)
  let zo:=fun (x_0:Nat × (List (List UInt8) × List Int × List (List UInt8 × Int × Bool × Unit) × List (Int × Int × Int × List UInt8 × Bool × Unit) × Unit) × Bool)=>x_0.2.1.2.2.1
  let zp:=fun (x_0:Nat × (List (List UInt8) × List Int × List (List UInt8 × Int × Bool × Unit) × List (Int × Int × Int × List UInt8 × Bool × Unit) × Unit) × Bool)=>x_0.2.1.2.2.2.1
  let zq:=fun (x_0:Nat × (List (List UInt8) × List Int × List (List UInt8 × Int × Bool × Unit) × List (Int × Int × Int × List UInt8 × Bool × Unit) × Unit) × Bool)=>du (GH ((),x_0.2.1.1,x_0.2.1.2.1,zo x_0,zp x_0,(x_0.2.2,()),())) x_0.2.2 (nth Ty.str zd x_0.1)
  let zr:=fun (x_0:Nat × (List (List UInt8) × List Int × List (List UInt8 × Int × Bool × Unit) × List (Int × Int × Int × List UInt8 × Bool × Unit) × Unit) × Bool)=>(zq x_0).1.2.2.2.1
  let zs:=(za,cg.no (4:Int))=zb
  ((List.length s<=aH)->(((decide ((↑(List.length s):Int) > (1200:Int)))=true->((za,cg.no (2:Int))=zb))/\((decide ((↑(List.length s):Int) > (1200:Int)))=false->(True)/\(List.length zc < (4294967281:Nat)/\List.length [(10:UInt8)]=(1:Nat))/\((List.length zd<=aH)->(((ze/\zf/\zg/\zh/\∃(x':zj),gg zd (Prod.fst x') (Prod.snd x').1 (Prod.snd x').2/\True/\((0:Int)=(↑(Prod.fst x'):Int)/\True)/\zk/\zm/\((),[],[],[],[],(false,()),())=E6 (Prod.snd x')))/\((∀x_0:Nat × (List (List UInt8) × List Int × List (List UInt8 × Int × Bool × Unit) × List (Int × Int × Int × List UInt8 × Bool × Unit) × Unit) × Bool,((gg zd x_0.1 x_0.2.1 x_0.2.2)->(((decide (zn x_0))=true->((0:Int)<=(↑x_0.1:Int)/\zn x_0)/\(x_0.2.1.1=x_0.2.1.1)/\(x_0.2.1.2.1=x_0.2.1.2.1)/\(zo x_0=zo x_0)/\(zp x_0=zp x_0)/\(List.length (nth Ty.str zd x_0.1)<=(1000000:Nat)/\List.length x_0.2.1.1<=(1000000:Nat)/\List.length x_0.2.1.2.1<=(1000000:Nat)/\List.length (zo x_0)<=(1000000:Nat)/\List.length (zp x_0)<=(1000000:Nat))/\((True)->((aJ (↑x_0.1:Int))->((aJ (1:Int))->(aJ ((↑x_0.1:Int) + (1:Int)))/\((zq x_0).1.1=(zq x_0).1.1/\(zq x_0).1.2.1=(zq x_0).1.2.1/\(zq x_0).1.2.2.1=(zq x_0).1.2.2.1/\zr x_0=zr x_0/\∃(x':zj),gg zd (Prod.fst x') (Prod.snd x').1 (Prod.snd x').2/\List.length zd - Prod.fst x' < List.length zd - x_0.1/\((↑x_0.1:Int) + (1:Int)=(↑(Prod.fst x'):Int)/\True)/\zk/\zm/\((),(zq x_0).1.1,(zq x_0).1.2.1,(zq x_0).1.2.2.1,zr x_0,((zq x_0).2,()),())=E6 (Prod.snd x'))))))/\((decide (zn x_0))=false->(True)/\(((x_0.2.2)=true->(zs))/\((x_0.2.2)=false->(((!cg.isNil (ft x_0.2.1).2)=true->(zs))/\((!cg.isNil (ft x_0.2.1).2)=false->(((!(ft x_0.2.1).1 == s)=true->(zs))/\((!(ft x_0.2.1).1 == s)=false->((x_0.2.1,cg.nil)=zb)))))))))))))))))) (by kernel_rfl) ?_
 dsimp -iota -proj -eta only
 refine fun h0=>iL (fun h1=>(Dz (by omega))) (fun h1=>⟨trivial,(by have:=Ib s [10];exact ⟨by omega,rfl⟩),fun h2=>⟨(⟨rfl,rfl,rfl,rfl,(0,bL aA,false),gg.zero _,trivial,⟨rfl,trivial⟩,⟨⟨rfl,rfl,rfl,rfl,trivial⟩,rfl,rfl,rfl,rfl,trivial⟩,rfl,rfl⟩),fun x_0 q_0=>iL (fun h3=>⟨(by omega),rfl,rfl,rfl,rfl,?a,fun h4 h5 h6=>⟨(by simp only [aJ,aH] at *;omega),(by exact ⟨rfl,rfl,rfl,rfl,(x_0.1 + 1,du x_0.2.1 x_0.2.2 (nth .str (parts 10 (Lib.trimSuffix s [10])) x_0.1)),q_0.next (by omega),by simp only;omega,⟨by simp only;omega,trivial⟩,(by trivial),rfl,rfl⟩)⟩⟩) (fun h3=>⟨trivial,⟨fun h4=>(qP q_0 (by omega) (by omega) (.inl h4)),fun h4=>⟨fun h5 => ?b,fun h5=>⟨fun h6 => ?c,fun h6 => ?d⟩⟩⟩⟩)⟩⟩)
 case a=>
  have hf:=Fb s (by omega);have a0:=q_0.le;have a1:=q_0.l1;have a2:=q_0.l2;have a3:=q_0.l3;have a4:=q_0.l4
  exact ⟨Nat.le_trans (DA (by omega) _) (by decide),by omega,by omega,by omega,by omega⟩
 case b=>
  simp only [bl,reduceCtorEq] at h5
  exact qP q_0 (by omega) (by omega) (.inr (.inl h5))
 case c=>
  simp only [bl,reduceCtorEq] at h5 h6
  exact qP q_0 (by omega) (by omega) (.inr (.inr h6))
 case d=>
  simp only [bl,reduceCtorEq] at h5 h6
  exact GO (by omega) ‹cg.isNil _=true› h6
theorem Tryz.FG:bI Tryz.prog Tryz.B.eT Tryz.X 68 [.str] [aA, .err] (fun _=>True) (fun x y=>y=(fun s=>iT s) x):=
 bU (X:=Tryz.X) Tryz.DV Tryz.func68 (by kernel_rfl) (fun x=>Aj x) (fun x hw hp=>FF x hw)
end Go.Proofs.YtgokjhhcfemnhaaGreatDoor

namespace Go.Proofs.YtgokjhhcfemnhaaGreatDoor
open Go.Vg Go.Mrl
noncomputable def Tryz.FH:List (FuncId × (Bool × bQ)):=[(64,(false,bG Tryz.bz [.obj 0, .d .str] (fun _ _=>True) Tryz.na)),
 (68,(true,aM [.str] [aA, .err] (fun _=>True) (fun s=>iT s))),
 (69,(true,aM [.slice .str, .str] [.bool] (fun _=>True) (fun x=>x.1.any (· == x.2))))]
theorem Tryz.Hh:bZ Tryz.prog Tryz.B Tryz.X Tryz.FH:=
 aO (Tryz.z7) (aO (aG Tryz.FG) (aO (aG Tryz.qX) (cm Tryz.cn)))
def Tryz.FI (s:List UInt8) (f:eH):cu:=[
 (0,fun st=>{X:=Nat × List (List UInt8) × List (D aA),inv:=fun y=>e8 (bF f) s y.1 y.2.1 y.2.2,aY:=fun y=>7 - y.1,aQ:=fun y=>[(9,sI y.1),(7, .s (.one (.app .str y.2.1 (bD st 7)))),(8, .s (.one (.app aA y.2.2 (bD st 8))))],aE:=fun y=>[(bD st 7, .tok .str y.2.1),(bD st 8, .tok aA y.2.2)],aT:=[0],fg:=[bD st 7,bD st 8]}),
 (2,fun st=>{X:=Nat,inv:=fun k=>k<=List.length (bO (.slice .str) st 50),aY:=fun k=>List.length (bO (.slice .str) st 50) - k,aQ:=fun k=>[(52,sI k),(7, .s (.one (.app .str (cC (bO (.slice .str) st 7) (List.take k (bO (.slice .str) st 50))) (bD st 7))))],aE:=fun k=>[(bD st 7, .tok .str (cC (bO (.slice .str) st 7) (List.take k (bO (.slice .str) st 50))))],aT:=[0,4,5,6,8,9,10,12,13,18,19,20,21,24,25,26,27,28,29,30,31,32,33,34,35,36,37,38,39,40,41,42,43,44,45,46,47,48,49,50,51],fg:=[bD st 7]})]
noncomputable def Tryz.rE:List (Alt Tryz.bz [.obj 0, .d .str]):=[{bE:=Tryz.bz,res:=[.d (.slice .str), .d (.slice aA), .d .err],out:=fun _ x=>x,ret:=fun a x=>((ck (bF x) a.1).1,(ck (bF x) a.1).2.1,aX (ck (bF x) a.1).2.2,())}]
theorem Bv (s:List UInt8) (f:eH) (hw:hP [.obj 0, .d .str] (s,())) (hp:(fun _ x=>x.2.1.1.length<=6) (s,()) f):(dR (lG Tryz.B [17]) Tryz.FH Tryz.f25 (Tryz.FI s f) Tryz.bz [.obj 0, .d .str] Tryz.rE (s,()) f).holds:=by
 refine holds_of (p:=
  let za:=List UInt8
  let zb:=Nat × List za × List (List za × List Int × List (za × Int × Bool × Unit) × List (Int × Int × Int × za × Bool × Unit) × Unit)
  let zc:=bF f
  let zd:=fun (x_0:Nat × List (List UInt8) × List (List (List UInt8) × List Int × List (List UInt8 × Int × Bool × Unit) × List (Int × Int × Int × List UInt8 × Bool × Unit) × Unit))=>(↑x_0.1:Int) < (↑(List.length x_0.2.1):Int)
  let ze:=fun (x_0:Nat × List (List UInt8) × List (List (List UInt8) × List Int × List (List UInt8 × Int × Bool × Unit) × List (Int × Int × Int × List UInt8 × Bool × Unit) × Unit))=>bF f (nth Ty.str x_0.2.1 x_0.1)
  let zf:=ck zc s
  let zg:=(zf.1,zf.2.1,aX zf.2.2,())
  let zh:=fun (x_0:Nat × List (List UInt8) × List (List (List UInt8) × List Int × List (List UInt8 × Int × Bool × Unit) × List (Int × Int × Int × List UInt8 × Bool × Unit) × Unit))=>(bJ (ze x_0).1).1.1
  let zi:=fun (x_0:Nat × List (List UInt8) × List (List (List UInt8) × List Int × List (List UInt8 × Int × Bool × Unit) × List (Int × Int × Int × List UInt8 × Bool × Unit) × Unit))=>List.length (zh x_0)
  let zj:=fun (x_0:Nat × List (List UInt8) × List (List (List UInt8) × List Int × List (List UInt8 × Int × Bool × Unit) × List (Int × Int × Int × List UInt8 × Bool × Unit) × Unit)) (x_1:Nat)=>cC x_0.2.1 (List.take x_1 (zh x_0))
  let zk:=aJ (1:Int)
  let zl:=fun (x_1:Nat)=>(↑x_1:Int) + (1:Int)
  let zm:=@List.nil (List UInt8) = @List.nil (List UInt8)
  let zn:=C.dh (1:Nat)=C.dh (1:Nat)/\f.1.1=f.1.1/\True
  let zo:=f.2.1=f.2.1
  let zp:=fun (x_0:Nat × List (List UInt8) × List (List (List UInt8) × List Int × List (List UInt8 × Int × Bool × Unit) × List (Int × Int × Int × List UInt8 × Bool × Unit) × Unit))=>x_0.2.2++[(bJ (ze x_0).1).1]
  let zq:=@List.nil (List (List UInt8) × List Int × List (List UInt8 × Int × Bool × Unit) × List (Int × Int × Int × List UInt8 × Bool × Unit) × Unit) = @List.nil (List (List UInt8) × List Int × List (List UInt8 × Int × Bool × Unit) × List (Int × Int × Int × List UInt8 × Bool × Unit) × Unit)
  let zr:=fun (x_0:Nat × List (List UInt8) × List (List (List UInt8) × List Int × List (List UInt8 × Int × Bool × Unit) × List (Int × Int × Int × List UInt8 × Bool × Unit) × Unit))=>(zh x_0=zh x_0/\(bJ (ze x_0).1).1.2.1=(bJ (ze x_0).1).1.2.1/\(bJ (ze x_0).1).1.2.2.1=(bJ (ze x_0).1).1.2.2.1/\(bJ (ze x_0).1).1.2.2.2.1=(bJ (ze x_0).1).1.2.2.2.1/\True)/\@List.nil (Int × Int × Int × List UInt8 × Bool × Unit) = @List.nil (Int × Int × Int × List UInt8 × Bool × Unit)/\@List.nil (List UInt8 × Int × Bool × Unit) = @List.nil (List UInt8 × Int × Bool × Unit)/\@List.nil Int = @List.nil Int/\zm/\zn/\zo/\zp x_0=zp x_0/\zq/\zm/\True
  (∃(x:zb),e8 zc s (Prod.fst x) (Prod.snd x).1 (Prod.snd x).2/\((0:Int)=(↑(Prod.fst x):Int)/\[s]=(Prod.snd x).1/\@List.nil (List (List UInt8) × List Int × List (List UInt8 × Int × Bool × Unit) × List (Int × Int × Int × List UInt8 × Bool × Unit) × Unit)=(Prod.snd x).2/\True)/\[s]=(Prod.snd x).1/\@List.nil (List (List UInt8) × List Int × List (List UInt8 × Int × Bool × Unit) × List (Int × Int × Int × List UInt8 × Bool × Unit) × Unit)=(Prod.snd x).2/\True)/\(∀x_0:Nat × List (List UInt8) × List (List (List UInt8) × List Int × List (List UInt8 × Int × Bool × Unit) × List (Int × Int × Int × List UInt8 × Bool × Unit) × Unit),((e8 zc s x_0.1 x_0.2.1 x_0.2.2)->((List.length x_0.2.1<=aH)->(((decide (zd x_0))=true->((0:Int)<=(↑x_0.1:Int)/\zd x_0)/\(True)/\((True)->(((!cg.isNil (aX (ze x_0).2.2))=true->(True/\f=f/\([],[],aX (ze x_0).2.2,())=zg))/\((!cg.isNil (aX (ze x_0).2.2))=false->(True)/\(((!cg.isNil (aX (bJ (ze x_0).1).2))=true->(True/\f=f/\([],[],aX (bJ (ze x_0).1).2,())=zg))/\((!cg.isNil (aX (bJ (ze x_0).1).2))=false->(x_0.2.2=x_0.2.2/\List.length x_0.2.2 + List.length [(bJ (ze x_0).1).1]<=(1000000000:Nat))/\((zi x_0<=aH)->(∃(x:Nat),x<=zi x_0/\((0:Int)=(↑x:Int)/\x_0.2.1=cC x_0.2.1 (List.take x (zh x_0))/\True)/\x_0.2.1=cC x_0.2.1 (List.take x (zh x_0))/\True)/\(∀x_1:Nat,((x_1<=zi x_0)->(((decide ((↑x_1:Int) < (↑(zi x_0):Int)))=true->((0:Int)<=(↑x_1:Int)/\(↑x_1:Int) < (↑(zi x_0):Int))/\(True)/\(((!List.any (zj x_0 x_1) fun (x:za)=>x == nth Ty.str (zh x_0) x_1)=true->(zj x_0 x_1=zj x_0 x_1/\List.length (zj x_0 x_1) + List.length [nth Ty.str (zh x_0) x_1]<=(1000000000:Nat))/\((aJ (↑x_1:Int))->((zk)->(aJ (zl x_1))/\(∃(x':Nat),x'<=zi x_0/\zi x_0 - x' < zi x_0 - x_1/\(zl x_1=(↑x':Int)/\zj x_0 x_1++[nth Ty.str (zh x_0) x_1]=cC x_0.2.1 (List.take x' (zh x_0))/\True)/\zj x_0 x_1++[nth Ty.str (zh x_0) x_1]=cC x_0.2.1 (List.take x' (zh x_0))/\zr x_0))))/\((!List.any (zj x_0 x_1) fun (x:za)=>x == nth Ty.str (zh x_0) x_1)=false->((aJ (↑x_1:Int))->((zk)->(aJ (zl x_1))/\(∃(x':Nat),x'<=zi x_0/\zi x_0 - x' < zi x_0 - x_1/\(zl x_1=(↑x':Int)/\zj x_0 x_1=cC x_0.2.1 (List.take x' (zh x_0))/\True)/\zj x_0 x_1=cC x_0.2.1 (List.take x' (zh x_0))/\zr x_0))))))/\((decide ((↑x_1:Int) < (↑(zi x_0):Int)))=false->((aJ (↑x_0.1:Int))->((zk)->(aJ ((↑x_0.1:Int) + (1:Int)))/\(∃(x':zb),e8 zc s (Prod.fst x') (Prod.snd x').1 (Prod.snd x').2/\(7:Nat) - Prod.fst x' < (7:Nat) - x_0.1/\((↑x_0.1:Int) + (1:Int)=(↑(Prod.fst x'):Int)/\zj x_0 x_1=(Prod.snd x').1/\zp x_0=(Prod.snd x').2/\True)/\zj x_0 x_1=(Prod.snd x').1/\zp x_0=(Prod.snd x').2/\zq/\zm/\zn/\zo/\True))))))))))))))/\((decide (zd x_0))=false->(True/\f=f/\(x_0.2.1,x_0.2.2,cg.nil,())=zg))))))) (by kernel_rfl) ?_
 dsimp -iota -proj -eta only
 refine ⟨(⟨(0,[s],[]),e8.zero _ _,⟨rfl,rfl,rfl,trivial⟩,(by trivial)⟩),fun x_0 q_0 h0=>iL (fun h1=>⟨(by omega),trivial,fun h2=>⟨fun h3 => ?a,fun h3=>⟨trivial,⟨fun h4 => ?b,fun h4=>⟨?c,fun h5=>⟨?d,fun x_1 q_1=>iL (fun h6=>⟨?e,trivial,⟨fun h7=>⟨?f,fun h8 h9=>⟨?g,?h⟩⟩,fun h7 h8 h9=>⟨?i,?j⟩⟩⟩) (fun h6 h7 h8=>⟨?k,?l⟩)⟩⟩⟩⟩⟩⟩) (fun h1=>(by rw [q_0.done (by omega)];exact ⟨trivial,rfl,rfl⟩))⟩
 case a=>
  simp only [bl,reduceCtorEq] at h3
  rw [q_0.zP (mY hp) (by omega) (fun e=>by rw [bN.2 e] at h3;cases h3)];exact ⟨trivial,rfl,rfl⟩
 case b=>
  simp only [bl,reduceCtorEq] at h3 h4
  rw [q_0.Cg (by omega) (bN.1 h3) (fun e=>by rw [bN.2 e] at h4;cases h4)];exact ⟨trivial,rfl,rfl⟩
 case c=>
  simp only [bl,reduceCtorEq] at h3 h4
  exact ⟨rfl,q_0.Jh⟩
 case d=>
  simp only [bl,reduceCtorEq] at h3 h4
  exact ⟨0,Nat.zero_le _,⟨rfl,rfl,trivial⟩,rfl,trivial⟩
 case e=>
  simp only [bl,reduceCtorEq] at h3 h4
  omega
 case f=>
  simp only [bl,reduceCtorEq] at h3 h4 h7
  exact ⟨rfl,q_0.Fe (mY hp) (lP (bN.1 h3) (bN.1 h4)) _⟩
 case g|i=>
  simp only [bl,reduceCtorEq] at h3 h4 h7
  simp only [aJ,aH] at *;omega
 case h=>
  simp only [bl,reduceCtorEq] at h3 h4 h7
  exact ⟨x_1 + 1,by omega,by omega,⟨by omega,ru (by omega) (by assumption),trivial⟩,ru (by omega) (by assumption),(by trivial)⟩
 case j=>
  simp only [bl,reduceCtorEq] at h3 h4 h7
  exact ⟨x_1 + 1,by omega,by omega,⟨by omega,rv (by omega) (by assumption),trivial⟩,rv (by omega) (by assumption),(by trivial)⟩
 case k=>
  simp only [bl,reduceCtorEq] at h3 h4
  simp only [aJ,aH] at *;omega
 case l=>
  simp only [bl,reduceCtorEq] at h3 h4
  exact ⟨(x_0.1 + 1,_,_),q_0.next (mY hp) (by omega) (lP (bN.1 h3) (bN.1 h4)),by have:=q_0.room (mY hp) (by omega) (lP (bN.1 h3) (bN.1 h4));simp only;omega,⟨by simp only;omega,ry (by omega),rfl,trivial⟩,ry (by omega),rfl,(by trivial)⟩
theorem Tryz.sa:cG Tryz.prog Tryz.B.eT Tryz.X 25 false (bG Tryz.bz [.obj 0, .d .str] (fun _ x=>x.2.1.1.length<=6) Tryz.rE):=
 ch (B:=(lG Tryz.B [17])) (X:=Tryz.X) (bZ.hint (l:=[17]) Tryz.Hh) Tryz.func25 (by kernel_rfl) (fun (a:CD [.obj 0, .d .str]) (x:PD Tryz.bz)=>Tryz.FI a.1 x) (fun (a:CD [.obj 0, .d .str]) (x:PD Tryz.bz) hw hp=>Bv a.1 x hw hp)
end Go.Proofs.YtgokjhhcfemnhaaGreatDoor

namespace Go.Proofs.YtgokjhhcfemnhaaGreatDoor
open Go.Vg Go.Mrl
@[reducible] def Tryz.aZ:List Ob:=[.box 123 [.d (.slice bR), .d (.int .i64)]]
def Ak (s:List UInt8) (f:RS):cu:=[(0,fun st=>{X:=Nat,inv:=fun i=>i<=f.1.length/\∀j,j < i->¬ (nth bR f.1 j).1=s,aY:=fun i=>f.1.length - i,aQ:=fun i=>[(7,sI i)],aT:=[0,1]})]
def Tryz.lk:List (Alt Tryz.aZ [.obj 0, .d .str]):=[{bE:=Tryz.aZ,res:=[.d .str, .d (.int .i64), .d (.int .i64)],out:=fun _ x=>x,ret:=fun a x=>((bX x.1.1 a.1).1,(bX x.1.1 a.1).2.1,(bX x.1.1 a.1).2.2,())}]
theorem Hi (s:List UInt8) (f:RS) (hw:hP [.obj 0, .d .str] (s,())):(dR Tryz.B [] Tryz.f65 (Ak s f) Tryz.aZ [.obj 0, .d .str] Tryz.lk (s,()) (f,())).holds:=by
 refine holds_of (p:=
  let za:=List.length f.1
  let zb:=fun (x_0:Nat)=>(↑x_0:Int) < (↑(List.length f.1):Int)
  let zc:=fun (x_0:Nat)=>(0:Int)<=(↑x_0:Int)/\zb x_0
  let zd:=(f,())=(f,())
  let ze:=bX f.1 s
  let zf:=(ze.1,ze.2.1,ze.2.2,())
  (∃(x:Nat),(x<=za/\∀(j:Nat),j < x->¬(nth bR f.1 j).1=s)/\((0:Int)=(↑x:Int)/\True)/\True)/\(∀x_0:Nat,((x_0<=za/\∀(j:Nat),j < x_0->¬(nth bR f.1 j).1=s)->((List.length f.1<=aH)->(((decide (zb x_0))=true->(zc x_0)/\((((nth bR f.1 x_0).1 == s)=true->(zc x_0)/\(zc x_0)/\(True/\zd/\((nth bR f.1 x_0).2.1,(nth bR f.1 x_0).2.2.1,(0:Int),())=zf))/\(((nth bR f.1 x_0).1 == s)=false->((aJ (↑x_0:Int))->((aJ (1:Int))->(aJ ((↑x_0:Int) + (1:Int)))/\(∃(x':Nat),(x'<=za/\∀(j:Nat),j < x'->¬(nth bR f.1 j).1=s)/\za - x' < za - x_0/\((↑x_0:Int) + (1:Int)=(↑x':Int)/\True)/\(f.1=f.1/\f.2.1=f.2.1/\True)/\True))))))/\((decide (zb x_0))=false->(True/\zd/\([],(0:Int),(5:Int),())=zf))))))) (by kernel_rfl) ?_
 dsimp -iota -proj -eta only
 refine ⟨(⟨0,⟨by omega,fun j hj=>by omega⟩,⟨rfl,trivial⟩,trivial⟩),fun x_0 q_0 h0=>iL (fun h1=>⟨?a,iQ (fun h2=>⟨?b,?c,(by rw [y8 q_0.2 (by omega) h2];exact ⟨trivial,rfl,rfl⟩)⟩) (fun h2 h3 h4=>⟨(by simp only [aJ,aH] at *;omega),(⟨x_0 + 1,⟨by omega,ql q_0.2 h2⟩,by omega,⟨by omega,trivial⟩,(by trivial)⟩)⟩)⟩) (fun h1=>(by rw [EP fun j hj=>q_0.2 j (by omega)];exact ⟨trivial,rfl,rfl⟩))⟩
 case a|b|c=>omega
theorem Tryz.tc:cG Tryz.prog Tryz.B.eT Tryz.X 65 false (bG Tryz.aZ [.obj 0, .d .str] (fun _ _=>True) Tryz.lk):=
 ch (X:=Tryz.X) (cm Tryz.cn) Tryz.func65 (by kernel_rfl) (fun (a:CD [.obj 0, .d .str]) (x:PD Tryz.aZ)=>Ak a.1 x.1) (fun (a:CD [.obj 0, .d .str]) (x:PD Tryz.aZ) hw hp=>Hi a.1 x.1 hw)
noncomputable def Tryz.Al:List (FuncId × (Bool × bQ)):=[(87,(true,aM [.str] [.err] (fun _=>True) (fun s=>aX (aI s)))),
 (94,(true,aM [.str] [.int .i64] (fun _=>True) (fun s=>aI s))),
 (9,(true,aM [.err, .int .i64] [.bool] (fun _=>True) (fun x=>cV x.1 x.2))),
 (65,(false,bG Tryz.aZ [.obj 0, .d .str] (fun _ _=>True) Tryz.lk))]
theorem Tryz.DW:bZ Tryz.prog Tryz.B Tryz.X Tryz.Al:=
 aO (aG Tryz.fU) (aO (aG Tryz.dJ) (aO (aG Tryz.gH) (aO (Tryz.tc) (cm Tryz.cn))))
def w8 (s:List UInt8) (t:List UInt8) (f:RS):cu:=[(0,fun st=>{X:=Nat × Bool × List (D bR),inv:=fun x=>x.1<=f.1.length/\bT f.1 s (s,t,f.2.1 + 1,()) x.1 x.2.1 x.2.2,aY:=fun x=>f.1.length - x.1,aQ:=fun x=>[(13,sI x.1),(12,sB x.2.1),(11, .s (.one (.app bR x.2.2 (bD st 11))))],aE:=fun x=>[(bD st 11, .tok bR x.2.2)],aT:=[0,1,2,6],fg:=[bD st 11]})]
def Tryz.pr:List (Alt Tryz.aZ [.obj 0, .d .str, .d .str]):=[{bE:=Tryz.aZ,res:=[.d (.int .i64)],out:=fun a x=>((dH x.1 a.1 a.2.1).1,()),ret:=fun a x=>((dH x.1 a.1 a.2.1).2,())}]
theorem FJ (s:List UInt8) (t:List UInt8) (f:RS) (hw:hP [.obj 0, .d .str, .d .str] (s,t,())) (hp:(fun _ x=>x.1.1.length<=6/\0<=x.1.2.1/\x.1.2.1<=1000000) (s,t,()) (f,())):(dR Tryz.B Tryz.Al Tryz.f61 (w8 s t f) Tryz.aZ [.obj 0, .d .str, .d .str] Tryz.pr (s,t,()) (f,())).holds:=by
 refine holds_of (p:=
  let za:=dH f s t
  let zb:=(za.1,())
  let zc:=(f,())=zb
  let zd:=(za.2,())
  let ze:=List.length f.1<=aH
  let zf:=(↑(List.length f.1):Int)
  let zg:=True/\zc/\((8:Int),())=zd
  let zh:=aJ (1:Int)
  let zi:=f.2.1 + (1:Int)
  let zj:=Nat × Bool × List (List UInt8 × List UInt8 × Int × Unit)
  let zk:=List.length f.1
  let zl:=(s,t,f.2.1 + (1:Int),())
  let zm:=fun (x_0:Nat × Bool × List (List UInt8 × List UInt8 × Int × Unit))=>(0:Int)<=(↑x_0.1:Int)/\(↑x_0.1:Int) < zf
  let zn:=fun (x_0:Nat × Bool × List (List UInt8 × List UInt8 × Int × Unit))=>(nth bR f.1 x_0.1).1
  let zo:=(zi,())
  let zp:=[(s,t,zo)]
  let zq:=fun (x_0:Nat × Bool × List (List UInt8 × List UInt8 × Int × Unit))=>x_0.2.2=x_0.2.2/\List.length x_0.2.2 + List.length zp<=(1000000000:Nat)
  let zr:=fun (x_0:Nat × Bool × List (List UInt8 × List UInt8 × Int × Unit))=>x_0.2.2++zp
  let zs:=fun (x_0:Nat × Bool × List (List UInt8 × List UInt8 × Int × Unit))=>[nth bR f.1 x_0.1]
  let zt:=fun (x_0:Nat × Bool × List (List UInt8 × List UInt8 × Int × Unit))=>aJ (↑x_0.1:Int)
  let zu:=fun (x_0:Nat × Bool × List (List UInt8 × List UInt8 × Int × Unit))=>(↑x_0.1:Int) + (1:Int)
  let zv:=(f.1=f.1/\zi=zi/\True)/\True
  let zw:=fun (x_0:Nat × Bool × List (List UInt8 × List UInt8 × Int × Unit))=>(zm x_0)/\(((!zn x_0 == s)=true->(zm x_0)/\(x_0.2.2=x_0.2.2/\List.length x_0.2.2 + List.length (zs x_0)<=(1000000000:Nat))/\((zt x_0)->((zh)->(aJ (zu x_0))/\(∃(x':zj),(Prod.fst x'<=zk/\bT f.1 s zl (Prod.fst x') (Prod.snd x').1 (Prod.snd x').2)/\zk - Prod.fst x' < zk - x_0.1/\(zu x_0=(↑(Prod.fst x'):Int)/\x_0.2.1=(Prod.snd x').1/\x_0.2.2++zs x_0=(Prod.snd x').2/\True)/\x_0.2.2++zs x_0=(Prod.snd x').2/\zv))))/\((!zn x_0 == s)=false->((zt x_0)->((zh)->(aJ (zu x_0))/\(∃(x':zj),(Prod.fst x'<=zk/\bT f.1 s zl (Prod.fst x') (Prod.snd x').1 (Prod.snd x').2)/\zk - Prod.fst x' < zk - x_0.1/\(zu x_0=(↑(Prod.fst x'):Int)/\x_0.2.1=(Prod.snd x').1/\x_0.2.2=(Prod.snd x').2/\True)/\x_0.2.2=(Prod.snd x').2/\zv)))))
  let zx:=((0:Int),())=zd
  let zy:=(((f.2.1 == (1000000:Int))=true->(zg))/\((f.2.1 == (1000000:Int))=false->((aJ f.2.1)->((zh)->(aJ zi)/\(∃(x:zj),(Prod.fst x<=zk/\bT f.1 s zl (Prod.fst x) (Prod.snd x).1 (Prod.snd x).2)/\((0:Int)=(↑(Prod.fst x):Int)/\false=(Prod.snd x).1/\@List.nil (List UInt8 × List UInt8 × Int × Unit)=(Prod.snd x).2/\True)/\@List.nil (List UInt8 × List UInt8 × Int × Unit)=(Prod.snd x).2/\True)/\(∀x_0:Nat × Bool × List (List UInt8 × List UInt8 × Int × Unit),((x_0.1<=zk/\bT f.1 s zl x_0.1 x_0.2.1 x_0.2.2)->((ze)->(((decide ((↑x_0.1:Int) < zf))=true->(((!x_0.2.1)=true->(zm x_0)/\(((Op.bytesLess s (zn x_0) || s == zn x_0)=true->(zq x_0)/\(zm x_0)/\(((!zn x_0 == s)=true->(zm x_0)/\(zr x_0=zr x_0/\List.length (zr x_0) + List.length (zs x_0)<=(1000000000:Nat))/\((zt x_0)->((zh)->(aJ (zu x_0))/\(∃(x':zj),(Prod.fst x'<=zk/\bT f.1 s zl (Prod.fst x') (Prod.snd x').1 (Prod.snd x').2)/\zk - Prod.fst x' < zk - x_0.1/\(zu x_0=(↑(Prod.fst x'):Int)/\true=(Prod.snd x').1/\zr x_0++zs x_0=(Prod.snd x').2/\True)/\zr x_0++zs x_0=(Prod.snd x').2/\zv))))/\((!zn x_0 == s)=false->((zt x_0)->((zh)->(aJ (zu x_0))/\(∃(x':zj),(Prod.fst x'<=zk/\bT f.1 s zl (Prod.fst x') (Prod.snd x').1 (Prod.snd x').2)/\zk - Prod.fst x' < zk - x_0.1/\(zu x_0=(↑(Prod.fst x'):Int)/\true=(Prod.snd x').1/\zr x_0=(Prod.snd x').2/\True)/\zr x_0=(Prod.snd x').2/\zv))))))/\((Op.bytesLess s (zn x_0) || s == zn x_0)=false->(zw x_0))))/\((!x_0.2.1)=false->(zw x_0))))/\((decide ((↑x_0.1:Int) < zf))=false->(((!x_0.2.1)=true->(zq x_0)/\(True/\((zr x_0,zo),())=zb/\zx))/\((!x_0.2.1)=false->(True/\((x_0.2.2,zo),())=zb/\zx))))))))))))
  (True)/\(((decide (aI s > (0:Int)))=true->(True/\zc/\(aI s,())=zd))/\((decide (aI s > (0:Int)))=false->((List.length t<=aH)->(((decide ((↑(List.length t):Int) > (1200:Int)))=true->(True/\zc/\((2:Int),())=zd))/\((decide ((↑(List.length t):Int) > (1200:Int)))=false->(True)/\((True)->(((decide ((bX f.1 s).2.2 > (0:Int)))=true->((ze)->(((zf == (6:Int))=true->(zg))/\((zf == (6:Int))=false->(zy)))))/\((decide ((bX f.1 s).2.2 > (0:Int)))=false->(zy)))))))))) (by kernel_rfl) ?_
 dsimp -iota -proj -eta only
 dsimp only at hp
 refine ⟨trivial,iL (fun h0=>(by rw [A0 (by omega)];exact ⟨trivial,rfl,rfl⟩)) (fun h0 h1=>iL (fun h2 => ?a) (fun h2=>⟨trivial,fun h3=>iL (fun h4 h5=>iQ (fun h6 => ?b) (fun h6=>iQ (fun h7 => ?c) (fun h7 h8 h9=>⟨?d,?e,fun x_0 q_0 h10=>iL (fun h11=>⟨fun h12=>⟨?f,⟨fun h13=>⟨?g,?h,⟨fun h14=>⟨?i,?j,fun h15 h16=>⟨?k,?l⟩⟩,fun h14 h15 h16=>⟨?m,?n⟩⟩⟩,fun h13=>⟨?o,⟨fun h14=>⟨?p,?q,fun h15 h16=>⟨?r,?s⟩⟩,fun h14 h15 h16=>⟨?t,?u⟩⟩⟩⟩⟩,fun h12=>⟨?v,⟨fun h13=>⟨?w,?x,fun h14 h15=>⟨?y,?z⟩⟩,fun h13 h14 h15=>⟨?a0,?a1⟩⟩⟩⟩) (fun h11=>⟨fun h12=>⟨?a2,?a3⟩,fun h12 => ?a4⟩)⟩))) (fun h4=>iQ (fun h5 => ?a5) (fun h5 h6 h7=>⟨?a6,?a7,fun x_0 q_0 h8=>iL (fun h9=>⟨fun h10=>⟨?a8,⟨fun h11=>⟨?a9,?aa,⟨fun h12=>⟨?ab,?ac,fun h13 h14=>⟨?ad,?ae⟩⟩,fun h12 h13 h14=>⟨?af,?ag⟩⟩⟩,fun h11=>⟨?ah,⟨fun h12=>⟨?ai,?aj,fun h13 h14=>⟨?ak,?al⟩⟩,fun h12 h13 h14=>⟨?am,?an⟩⟩⟩⟩⟩,fun h10=>⟨?ao,⟨fun h11=>⟨?ap,?aq,fun h12 h13=>⟨?ar,?au⟩⟩,fun h11 h12 h13=>⟨?av,?aw⟩⟩⟩⟩) (fun h9=>⟨fun h10=>⟨?ax,?ay⟩,fun h10 => ?az⟩)⟩))⟩))⟩
 case a=>
  have hnn:=bK s;have hn0:aI s=0:=(by omega)
  rw [A4 hn0 (by omega)];exact ⟨trivial,rfl,rfl⟩
 case b|c|a5=>
  have hnn:=bK s;have hn0:aI s=0:=(by omega)
  rw [A5 hn0 (by omega) (by omega)];exact ⟨trivial,rfl,rfl⟩
 case d|a6=>simp only [aJ,aH] at *;omega
 case e|a7=>exact ⟨(0,false,[]),⟨by omega,bT.start _ _ _⟩,⟨rfl,rfl,rfl,trivial⟩,rfl,trivial⟩
 case f|v=>
  simp only [bl,reduceCtorEq] at h12
  omega
 case g|x=>
  simp only [bl,reduceCtorEq] at h12 h13
  have:=q_0.2.2.2.1;exact ⟨rfl,by simp only [List.length_singleton];omega⟩
 case h|o|w=>
  simp only [bl,reduceCtorEq] at h12 h13
  omega
 case i|p=>
  simp only [bl,reduceCtorEq] at h12 h13 h14
  omega
 case j=>
  simp only [bl,reduceCtorEq] at h12 h13 h14
  have:=q_0.2.2.2.1;exact ⟨rfl,by simp only [List.length_append,List.length_singleton];omega⟩
 case k|m|r|t=>
  simp only [bl,reduceCtorEq] at h12 h13 h14
  simp only [aJ,aH] at *;omega
 case l=>
  simp only [bl,reduceCtorEq] at h12 h13 h14
  have hl:x_0.2.1=false:=(by assumption);have hv:bT f.1 s (s,t,f.2.1 + 1,()) x_0.1 false x_0.2.2:=(by have:=q_0.2;rwa [hl] at this)
  exact ⟨(x_0.1 + 1,true,_),⟨by omega,hv.put (by omega) (by simp_all) (by assumption)⟩,by simp only;omega,⟨by simp only;omega,rfl,rfl,trivial⟩,rfl,(by trivial)⟩
 case n=>
  simp only [bl,reduceCtorEq] at h12 h13 h14
  have hl:x_0.2.1=false:=(by assumption);have hv:bT f.1 s (s,t,f.2.1 + 1,()) x_0.1 false x_0.2.2:=(by have:=q_0.2;rwa [hl] at this)
  exact ⟨(x_0.1 + 1,true,_),⟨by omega,hv.B4 (by omega) (by simp_all) (by assumption)⟩,by simp only;omega,⟨by simp only;omega,rfl,rfl,trivial⟩,rfl,(by trivial)⟩
 case q=>
  simp only [bl,reduceCtorEq] at h12 h13 h14
  have:=q_0.2.2.2.1;exact ⟨rfl,by simp only [List.length_singleton];omega⟩
 case s=>
  simp only [bl,reduceCtorEq] at h12 h13 h14
  have hl:x_0.2.1=false:=(by assumption);have hv:bT f.1 s (s,t,f.2.1 + 1,()) x_0.1 false x_0.2.2:=(by have:=q_0.2;rwa [hl] at this)
  exact ⟨(x_0.1 + 1,false,_),⟨by omega,hv.low (by omega) (by simp_all)⟩,by simp only;omega,⟨by simp only;omega,hl,rfl,trivial⟩,rfl,(by trivial)⟩
 case u=>
  simp only [bl,reduceCtorEq] at h12 h13 h14
  simp_all
 case y|a0=>
  simp only [bl,reduceCtorEq] at h12 h13
  simp only [aJ,aH] at *;omega
 case z=>
  simp only [bl,reduceCtorEq] at h12 h13
  have hl:x_0.2.1=true:=(by assumption);have hv:bT f.1 s (s,t,f.2.1 + 1,()) x_0.1 true x_0.2.2:=(by have:=q_0.2;rwa [hl] at this)
  exact ⟨(x_0.1 + 1,true,_),⟨by omega,hv.high (by omega) (by assumption)⟩,by simp only;omega,⟨by simp only;omega,hl,rfl,trivial⟩,rfl,(by trivial)⟩
 case a1=>
  simp only [bl,reduceCtorEq] at h12 h13
  have hl:x_0.2.1=true:=(by assumption);have hv:bT f.1 s (s,t,f.2.1 + 1,()) x_0.1 true x_0.2.2:=(by have:=q_0.2;rwa [hl] at this)
  exact ⟨(x_0.1 + 1,true,_),⟨by omega,hv.skip (by omega) (by assumption)⟩,by simp only;omega,⟨by simp only;omega,hl,rfl,trivial⟩,rfl,(by trivial)⟩
 case a2=>
  simp only [bl,reduceCtorEq] at h12
  have:=q_0.2.2.2.1;exact ⟨rfl,by simp only [List.length_singleton];omega⟩
 case a3=>
  simp only [bl,reduceCtorEq] at h12
  have hl:x_0.2.1=false:=(by assumption);have hv:bT f.1 s (s,t,f.2.1 + 1,()) x_0.1 false x_0.2.2:=(by have:=q_0.2;rwa [hl] at this)
  have hnn:=bK s;have hn0:aI s=0:=(by omega)
  rw [mT hn0 (by omega) (by omega),<-hv.last (by omega)];exact ⟨trivial,rfl,rfl⟩
 case a4=>
  simp only [bl,reduceCtorEq] at h12
  have hl:x_0.2.1=true:=(by assumption);have hv:bT f.1 s (s,t,f.2.1 + 1,()) x_0.1 true x_0.2.2:=(by have:=q_0.2;rwa [hl] at this)
  have hnn:=bK s;have hn0:aI s=0:=(by omega)
  rw [mT hn0 (by omega) (by omega),<-hv.all (by omega)];exact ⟨trivial,rfl,rfl⟩
 case a8|ao=>
  simp only [bl,reduceCtorEq] at h10
  omega
 case a9|aq=>
  simp only [bl,reduceCtorEq] at h10 h11
  have:=q_0.2.2.2.1;exact ⟨rfl,by simp only [List.length_singleton];omega⟩
 case aa|ah|ap=>
  simp only [bl,reduceCtorEq] at h10 h11
  omega
 case ab|ai=>
  simp only [bl,reduceCtorEq] at h10 h11 h12
  omega
 case ac=>
  simp only [bl,reduceCtorEq] at h10 h11 h12
  have:=q_0.2.2.2.1;exact ⟨rfl,by simp only [List.length_append,List.length_singleton];omega⟩
 case ad|af|ak|am=>
  simp only [bl,reduceCtorEq] at h10 h11 h12
  simp only [aJ,aH] at *;omega
 case ae=>
  simp only [bl,reduceCtorEq] at h10 h11 h12
  have hl:x_0.2.1=false:=(by assumption);have hv:bT f.1 s (s,t,f.2.1 + 1,()) x_0.1 false x_0.2.2:=(by have:=q_0.2;rwa [hl] at this)
  exact ⟨(x_0.1 + 1,true,_),⟨by omega,hv.put (by omega) (by simp_all) (by assumption)⟩,by simp only;omega,⟨by simp only;omega,rfl,rfl,trivial⟩,rfl,(by trivial)⟩
 case ag=>
  simp only [bl,reduceCtorEq] at h10 h11 h12
  have hl:x_0.2.1=false:=(by assumption);have hv:bT f.1 s (s,t,f.2.1 + 1,()) x_0.1 false x_0.2.2:=(by have:=q_0.2;rwa [hl] at this)
  exact ⟨(x_0.1 + 1,true,_),⟨by omega,hv.B4 (by omega) (by simp_all) (by assumption)⟩,by simp only;omega,⟨by simp only;omega,rfl,rfl,trivial⟩,rfl,(by trivial)⟩
 case aj=>
  simp only [bl,reduceCtorEq] at h10 h11 h12
  have:=q_0.2.2.2.1;exact ⟨rfl,by simp only [List.length_singleton];omega⟩
 case al=>
  simp only [bl,reduceCtorEq] at h10 h11 h12
  have hl:x_0.2.1=false:=(by assumption);have hv:bT f.1 s (s,t,f.2.1 + 1,()) x_0.1 false x_0.2.2:=(by have:=q_0.2;rwa [hl] at this)
  exact ⟨(x_0.1 + 1,false,_),⟨by omega,hv.low (by omega) (by simp_all)⟩,by simp only;omega,⟨by simp only;omega,hl,rfl,trivial⟩,rfl,(by trivial)⟩
 case an=>
  simp only [bl,reduceCtorEq] at h10 h11 h12
  simp_all
 case ar|av=>
  simp only [bl,reduceCtorEq] at h10 h11
  simp only [aJ,aH] at *;omega
 case au=>
  simp only [bl,reduceCtorEq] at h10 h11
  have hl:x_0.2.1=true:=(by assumption);have hv:bT f.1 s (s,t,f.2.1 + 1,()) x_0.1 true x_0.2.2:=(by have:=q_0.2;rwa [hl] at this)
  exact ⟨(x_0.1 + 1,true,_),⟨by omega,hv.high (by omega) (by assumption)⟩,by simp only;omega,⟨by simp only;omega,hl,rfl,trivial⟩,rfl,(by trivial)⟩
 case aw=>
  simp only [bl,reduceCtorEq] at h10 h11
  have hl:x_0.2.1=true:=(by assumption);have hv:bT f.1 s (s,t,f.2.1 + 1,()) x_0.1 true x_0.2.2:=(by have:=q_0.2;rwa [hl] at this)
  exact ⟨(x_0.1 + 1,true,_),⟨by omega,hv.skip (by omega) (by assumption)⟩,by simp only;omega,⟨by simp only;omega,hl,rfl,trivial⟩,rfl,(by trivial)⟩
 case ax=>
  simp only [bl,reduceCtorEq] at h10
  have:=q_0.2.2.2.1;exact ⟨rfl,by simp only [List.length_singleton];omega⟩
 case ay=>
  simp only [bl,reduceCtorEq] at h10
  have hl:x_0.2.1=false:=(by assumption);have hv:bT f.1 s (s,t,f.2.1 + 1,()) x_0.1 false x_0.2.2:=(by have:=q_0.2;rwa [hl] at this)
  have hnn:=bK s;have hn0:aI s=0:=(by omega)
  rw [mT hn0 (by omega) (by omega),<-hv.last (by omega)];exact ⟨trivial,rfl,rfl⟩
 case az=>
  simp only [bl,reduceCtorEq] at h10
  have hl:x_0.2.1=true:=(by assumption);have hv:bT f.1 s (s,t,f.2.1 + 1,()) x_0.1 true x_0.2.2:=(by have:=q_0.2;rwa [hl] at this)
  have hnn:=bK s;have hn0:aI s=0:=(by omega)
  rw [mT hn0 (by omega) (by omega),<-hv.all (by omega)];exact ⟨trivial,rfl,rfl⟩
theorem Tryz.FK:cG Tryz.prog Tryz.B.eT Tryz.X 61 false (bG Tryz.aZ [.obj 0, .d .str, .d .str] (fun _ x=>x.1.1.length<=6/\0<=x.1.2.1/\x.1.2.1<=1000000) Tryz.pr):=
 ch (X:=Tryz.X) Tryz.DW Tryz.func61 (by kernel_rfl) (fun (a:CD [.obj 0, .d .str, .d .str]) (x:PD Tryz.aZ)=>w8 a.1 a.2.1 x.1) (fun (a:CD [.obj 0, .d .str, .d .str]) (x:PD Tryz.aZ) hw hp=>FJ a.1 a.2.1 x.1 hw hp)
def uO (s:List UInt8) (f:RS):cu:=[(0,fun st=>{X:=Nat × List (D bR),inv:=fun x=>x.1<=f.1.length/\x.2++(f.1.drop x.1).filter (c7 s)=f.1.filter (c7 s)/\x.2.length<=x.1,aY:=fun x=>f.1.length - x.1,aQ:=fun x=>[(6,sI x.1),(5, .s (.one (.app bR x.2 (bD st 5))))],aE:=fun x=>[(bD st 5, .tok bR x.2)],aT:=[0,1,4],fg:=[bD st 5]})]
def Tryz.nA:List (Alt Tryz.aZ [.obj 0, .d .str]):=[{bE:=Tryz.aZ,res:=[.d (.int .i64)],out:=fun a x=>((dB x.1 a.1).1,()),ret:=fun a x=>((dB x.1 a.1).2,())}]
theorem DX (s:List UInt8) (f:RS) (hw:hP [.obj 0, .d .str] (s,())) (hp:(fun _ x=>x.1.1.length<=6) (s,()) (f,())):(dR Tryz.B [] Tryz.f63 (uO s f) Tryz.aZ [.obj 0, .d .str] Tryz.nA (s,()) (f,())).holds:=by
 refine holds_of (p:=
  let za:=Nat × List (List UInt8 × List UInt8 × Int × Unit)
  let zb:=List.length f.1
  let zc:=c7 s
  let zd:=List.filter zc f.1
  let ze:=List.length f.1<=aH
  let zf:=(↑(List.length f.1):Int)
  let zg:=fun (x_0:Nat × List (List UInt8 × List UInt8 × Int × Unit))=>(0:Int)<=(↑x_0.1:Int)/\(↑x_0.1:Int) < zf
  let zh:=fun (x_0:Nat × List (List UInt8 × List UInt8 × Int × Unit))=>(↑x_0.1:Int) + (1:Int)
  let zi:=fun (x_0:Nat × List (List UInt8 × List UInt8 × Int × Unit))=>x_0.2++[nth bR f.1 x_0.1]
  let zj:=(f.1=f.1/\f.2.1=f.2.1/\True)/\True
  let zk:=((dB f s).1,())
  let zl:=((dB f s).2,())
  (∃(x:za),(Prod.fst x<=zb/\Prod.snd x++List.filter zc (List.drop (Prod.fst x) f.1)=zd/\List.length (Prod.snd x)<=Prod.fst x)/\((0:Int)=(↑(Prod.fst x):Int)/\@List.nil (List UInt8 × List UInt8 × Int × Unit)=Prod.snd x/\True)/\@List.nil (List UInt8 × List UInt8 × Int × Unit)=Prod.snd x/\True)/\(∀x_0:Nat × List (List UInt8 × List UInt8 × Int × Unit),((x_0.1<=zb/\x_0.2++List.filter zc (List.drop x_0.1 f.1)=zd/\List.length x_0.2<=x_0.1)->((ze)->(((decide ((↑x_0.1:Int) < zf))=true->(zg x_0)/\(((!(nth bR f.1 x_0.1).1 == s)=true->(zg x_0)/\(x_0.2=x_0.2/\List.length x_0.2 + List.length [nth bR f.1 x_0.1]<=(1000000000:Nat))/\((aJ (↑x_0.1:Int))->((aJ (1:Int))->(aJ (zh x_0))/\(∃(x':za),(Prod.fst x'<=zb/\Prod.snd x'++List.filter zc (List.drop (Prod.fst x') f.1)=zd/\List.length (Prod.snd x')<=Prod.fst x')/\zb - Prod.fst x' < zb - x_0.1/\(zh x_0=(↑(Prod.fst x'):Int)/\zi x_0=Prod.snd x'/\True)/\zi x_0=Prod.snd x'/\zj))))/\((!(nth bR f.1 x_0.1).1 == s)=false->((aJ (↑x_0.1:Int))->((aJ (1:Int))->(aJ (zh x_0))/\(∃(x':za),(Prod.fst x'<=zb/\Prod.snd x'++List.filter zc (List.drop (Prod.fst x') f.1)=zd/\List.length (Prod.snd x')<=Prod.fst x')/\zb - Prod.fst x' < zb - x_0.1/\(zh x_0=(↑(Prod.fst x'):Int)/\x_0.2=Prod.snd x'/\True)/\x_0.2=Prod.snd x'/\zj))))))/\((decide ((↑x_0.1:Int) < zf))=false->((List.length x_0.2<=aH)->((ze)->((((↑(List.length x_0.2):Int) == zf)=true->(True/\(f,())=zk/\((5:Int),())=zl))/\(((↑(List.length x_0.2):Int) == zf)=false->(True/\((x_0.2,f.2),())=zk/\((0:Int),())=zl))))))))))) (by kernel_rfl) ?_
 dsimp -iota -proj -eta only
 dsimp only at hp
 refine ⟨(⟨(0,[]),⟨by omega,rfl,by simp⟩,⟨rfl,rfl,trivial⟩,rfl,trivial⟩),fun x_0 q_0 h0=>iL (fun h1=>⟨(by omega),⟨fun h2=>⟨?a,?b,fun h3 h4=>⟨?c,?d⟩⟩,fun h2 h3 h4=>⟨?e,?f⟩⟩⟩) (fun h1 h2 h3=>iQ (fun h4=>(by have he:=y9 q_0.2.1 (by omega);rw [Dg (by rw [<-he];omega)];exact ⟨trivial,rfl,rfl⟩)) (fun h4=>(by have he:=y9 q_0.2.1 (by omega);rw [A6 (by rw [<-he];omega),<-he];exact ⟨trivial,rfl,rfl⟩)))⟩
 case a=>
  simp only [bl,reduceCtorEq] at h2
  omega
 case b=>
  simp only [bl,reduceCtorEq] at h2
  have:=q_0.2.2;exact ⟨rfl,by simp only [List.length_singleton];omega⟩
 case c|e=>
  simp only [bl,reduceCtorEq] at h2
  simp only [aJ,aH] at *;omega
 case d=>
  simp only [bl,reduceCtorEq] at h2
  exact ⟨(x_0.1 + 1,_),⟨by omega,ER q_0.2.1 (by omega) h2,by simp only [List.length_append,List.length_singleton];omega⟩,by simp only;omega,⟨by simp only;omega,rfl,trivial⟩,rfl,(by trivial)⟩
 case f=>
  simp only [bl,reduceCtorEq] at h2
  exact ⟨(x_0.1 + 1,x_0.2),⟨by omega,ES q_0.2.1 (by omega) h2,by simp only;omega⟩,by simp only;omega,⟨by simp only;omega,rfl,trivial⟩,rfl,(by trivial)⟩
theorem Tryz.DY:cG Tryz.prog Tryz.B.eT Tryz.X 63 false (bG Tryz.aZ [.obj 0, .d .str] (fun _ x=>x.1.1.length<=6) Tryz.nA):=
 ch (X:=Tryz.X) (cm Tryz.cn) Tryz.func63 (by kernel_rfl) (fun (a:CD [.obj 0, .d .str]) (x:PD Tryz.aZ)=>uO a.1 x.1) (fun (a:CD [.obj 0, .d .str]) (x:PD Tryz.aZ) hw hp=>DX a.1 x.1 hw hp)
def Am (f:RS):cu:=[(0,fun st=>{X:=Nat,inv:=fun i=>i<=f.1.length,aY:=fun i=>f.1.length - i,aQ:=fun i=>[(4,sI i),(3, .s (.one (.app .str ((f.1.take i).map dK) (bD st 3))))],aE:=fun i=>[(bD st 3, .tok .str ((f.1.take i).map dK))],aT:=[0,2],fg:=[bD st 3]})]
def Tryz.qY:List (Alt Tryz.aZ [.obj 0]):=[{bE:=Tryz.aZ,res:=[.d (.slice .str)],out:=fun _ x=>x,ret:=fun _ x=>(x.1.1.map dK,())}]
theorem Hj (f:RS) (hw:hP [.obj 0] ()) (hp:(fun _ x=>x.1.1.length<=6) () (f,())):(dR Tryz.B [] Tryz.f67 (Am f) Tryz.aZ [.obj 0] Tryz.qY () (f,())).holds:=by
 refine holds_of (p:=
  let za:=List.length f.1
  let zb:=fun (x_0:Nat)=>(↑x_0:Int) < (↑(List.length f.1):Int)
  let zc:=fun (x_0:Nat)=>List.map dK (List.take x_0 f.1)
  let zd:=fun (x_0:Nat)=>zc x_0++[(nth bR f.1 x_0).1]
  (∃(x:Nat),x<=za/\((0:Int)=(↑x:Int)/\@List.nil (List UInt8)=List.map dK (List.take x f.1)/\True)/\@List.nil (List UInt8)=List.map dK (List.take x f.1)/\True)/\(∀x_0:Nat,((x_0<=za)->((List.length f.1<=aH)->(((decide (zb x_0))=true->((0:Int)<=(↑x_0:Int)/\zb x_0)/\(zc x_0=zc x_0/\List.length (zc x_0) + List.length [(nth bR f.1 x_0).1]<=(1000000000:Nat))/\((aJ (↑x_0:Int))->((aJ (1:Int))->(aJ ((↑x_0:Int) + (1:Int)))/\(∃(x':Nat),x'<=za/\za - x' < za - x_0/\((↑x_0:Int) + (1:Int)=(↑x':Int)/\zd x_0=List.map dK (List.take x' f.1)/\True)/\zd x_0=List.map dK (List.take x' f.1)/\@List.nil (List UInt8) = @List.nil (List UInt8)/\(f.1=f.1/\f.2.1=f.2.1/\True)/\True))))/\((decide (zb x_0))=false->(True/\(f,())=(f,())/\(zc x_0,())=(List.map dK f.1,())))))))) (by kernel_rfl) ?_
 dsimp -iota -proj -eta only
 dsimp only at hp
 exact ⟨(⟨0,by omega,⟨rfl,rfl,trivial⟩,rfl,trivial⟩),fun x_0 q_0 h0=>iL (fun h1=>⟨(by omega),(by exact ⟨rfl,by simp only [List.length_map,List.length_take,List.length_singleton];omega⟩),fun h2 h3=>⟨(by simp only [aJ,aH] at *;omega),(⟨x_0 + 1,by omega,by omega,⟨by omega,uo (by omega),trivial⟩,uo (by omega),(by trivial)⟩)⟩⟩) (fun h1=>(by rw [List.take_of_length_le (by omega)];exact ⟨trivial,rfl,rfl⟩))⟩
theorem Tryz.Hk:cG Tryz.prog Tryz.B.eT Tryz.X 67 false (bG Tryz.aZ [.obj 0] (fun _ x=>x.1.1.length<=6) Tryz.qY):=
 ch (X:=Tryz.X) (cm Tryz.cn) Tryz.func67 (by kernel_rfl) (fun (a:CD [.obj 0]) (x:PD Tryz.aZ)=>Am x.1) (fun (a:CD [.obj 0]) (x:PD Tryz.aZ) hw hp=>Hj x.1 hw hp)
end Go.Proofs.YtgokjhhcfemnhaaGreatDoor

namespace Go.Proofs.YtgokjhhcfemnhaaGreatDoor
open Go.Vg Go.Mrl
noncomputable def Tryz.DZ (k:Nat):List (FuncId × (Bool × bQ)):=(129,(true,aM [.int .i64] [.str] (fun x=>(fun _=>True) x/\(fun n=>mD n) x < k) (fun n=>Lib.itoa n))) :: []
theorem D0 (k:Nat) (n:Int) (hw:ec [.int .i64] n) (hp:(fun _=>True) n/\(fun n=>mD n) n < k + 1):(cD Tryz.B (Tryz.DZ k) Tryz.f129 [] [.int .i64] [.str] (fun x y=>y=(fun n=>Lib.itoa n) x) n).holds:=by
 refine holds_of (p:=
  let za:=Lib.itoa n
  let zb:=(0:Int) - n
  let zc:=[IntKind.wrap IntKind.u8 ((48:Int) + n)]
  let zd:=(10:Int)≠(0:Int)
  let ze:=fun (x_1:Int)=>List.length [IntKind.wrap IntKind.u8 ((48:Int) + x_1)]<=aH
  let zf:=fun (x_1:Int)=>bytesOf [IntKind.wrap IntKind.u8 ((48:Int) + x_1)]
  let zg:=fun (x_0:Int) (x_1:Int)=>(List.length (Lib.itoa x_0) + List.length (zf x_1)<=aH)/\(Lib.itoa x_0++zf x_1=za)
  (((decide (n < (0:Int)))=true->(((n == (-9223372036854775808:Int))=true->([(45:UInt8),57,50,50,51,51,55,50,48,51,54,56,53,52,55,55,53,56,48,56]=za))/\((n == (-9223372036854775808:Int))=false->((aJ (0:Int))->((aJ n)->(aJ zb)/\(True/\mD zb < k)/\(List.length [(45:UInt8)] + List.length (Lib.itoa zb)<=aH)/\([(45:UInt8)]++Lib.itoa zb=za))))))/\((decide (n < (0:Int)))=false->(((decide (n < (10:Int)))=true->((aJ (48:Int))->((aJ n)->(aJ ((48:Int) + n))/\(List.length zc<=aH)/\(bytesOf zc=za))))/\((decide (n < (10:Int)))=false->(zd)/\(∀x_0:Int,((x_0=Int.tdiv n (10:Int))->((aJ n)->((aJ (10:Int))->(aJ x_0)/\(zd)/\(∀x_1:Int,((x_1=Int.tmod n (10:Int))->((aJ (48:Int))->((aJ x_1)->(aJ ((48:Int) + x_1))/\((fun a0 a1:Prop=>a0/\a0/\a1) ((True/\mD x_0 < k)/\(ze x_1)/\(zg x_0 x_1)) ((ze x_1)/\(True/\mD x_0 < k)/\(zg x_0 x_1)))))))))))))))) (by kernel_rfl) ?_
 dsimp -iota -proj -eta only
 dsimp only at hp
 refine iL (fun h0=>iQ (fun h1=>(by rw [h1,GA])) (fun h1 h2 h3=>⟨?a,(by have:=I2 h0;rw [Int.zero_sub];exact ⟨trivial,by omega⟩),(by unfold aJ at h3;have:=B7 (n:=-n) (by omega) (by omega);rw [Int.zero_sub];simp only [List.length_cons,List.length_nil,aH];omega),(by rw [Int.zero_sub,wx h0])⟩)) (fun h0=>iL (fun h1 h2 h3=>⟨?b,?c,(by rw [vo (by omega) (by omega),mh (by omega) (by omega)])⟩) (fun h1=>⟨?d,fun x_0 q_0 h2 h3=>⟨(by rw [q_0,Int.tdiv_eq_ediv_of_nonneg h0];unfold aJ at *;omega),?e,fun x_1 q_1 h4 h5=>⟨(by rw [q_1,Int.tmod_eq_emod_of_nonneg h0];unfold aJ at *;omega),(show ∀{a0 a1:Prop},a0->a1->a0/\a0/\a1 from fun g0 g1=>⟨g0,g0,g1⟩) (⟨?f,?g,?h,?i⟩) (⟨?j,?k,?l,?m⟩)⟩⟩⟩))
 case a|b=>simp only [aJ,aH] at *;omega
 case c|g|j=>show 1<=aH;decide
 case d|e=>trivial
 case f|k=>rw [q_0,Int.tdiv_eq_ediv_of_nonneg h0];have:=I3 h1;exact ⟨trivial,by omega⟩
 case h|l=>rw [q_0,q_1,Int.tdiv_eq_ediv_of_nonneg h0,Int.tmod_eq_emod_of_nonneg h0,vo (by omega) (by omega)];have:=B7 (n:=n / 10) (by unfold aJ at *;omega) (by unfold aJ at *;omega);simp only [List.length_cons,List.length_nil,aH];omega
 case i|m=>rw [q_0,q_1,Int.tdiv_eq_ediv_of_nonneg h0,Int.tmod_eq_emod_of_nonneg h0,vo (by omega) (by omega),wy h1]
theorem Tryz.nB:∀k:Nat,bI Tryz.prog Tryz.B.eT Tryz.X 129 [.int .i64] [.str] (fun x=>(fun _=>True) x/\(fun n=>mD n) x < k) (fun x y=>y=(fun n=>Lib.itoa n) x)
 | 0=>⟨⟨Tryz.f129,Tryz.func129,by kernel_rfl,by kernel_rfl⟩,fun _ _ _ _ _ _ _ hp=>absurd hp.2 (Nat.not_lt_zero _)⟩
 | k + 1=>bU (X:=Tryz.X) (aO (aG (Tryz.nB k)) (cm Tryz.cn)) Tryz.func129 (by kernel_rfl) (fun _=>[]) (fun x hw hp=>D0 k x hw hp)
theorem Tryz.D1:bI Tryz.prog Tryz.B.eT Tryz.X 129 [.int .i64] [.str] (fun _=>True) (fun x y=>y=(fun n=>Lib.itoa n) x):=
 ⟨(Tryz.nB 0).1,fun O w x vs hG hO ha hp=>(Tryz.nB ((fun n=>mD n) x + 1)).2 O w x vs hG hO ha ⟨hp,Nat.lt_succ_self _⟩⟩
end Go.Proofs.YtgokjhhcfemnhaaGreatDoor

namespace Go.Proofs.YtgokjhhcfemnhaaGreatDoor
open Go.Vg Go.Mrl
noncomputable def Tryz.w9:List (FuncId × (Bool × bQ)):=[(129,(true,aM [.int .i64] [.str] (fun _=>True) (fun n=>Lib.itoa n)))]
theorem Tryz.Bw:bZ Tryz.prog Tryz.B Tryz.X Tryz.w9:=
 aO (aG Tryz.D1) (cm Tryz.cn)
def xa (o:D aA):cu:=[
 (0,fun st=>{X:=Nat,inv:=fun i=>i<=o.1.length,aY:=fun i=>o.1.length - i,aQ:=fun i=>[(5,sI i),(4,sS (fh o i))],aT:=[1,2,3]}),
 (2,fun st=>{X:=Nat,inv:=fun i=>i<=o.2.1.length,aY:=fun i=>o.2.1.length - i,aQ:=fun i=>[(6,sI i),(4,sS (eO o i))],aT:=[1,2,3]}),
 (4,fun st=>{X:=Nat,inv:=fun i=>i<=o.2.2.1.length,aY:=fun i=>o.2.2.1.length - i,aQ:=fun i=>[(7,sI i),(4,sS (dI o i))],aT:=[1,2,3]}),
 (6,fun st=>{X:=Nat,inv:=fun i=>i<=o.2.2.2.1.length,aY:=fun i=>o.2.2.2.1.length - i,aQ:=fun i=>[(9,sI i),(4,sS (cz o i))],aT:=[1,2,3,8]})]
theorem FL (o:D aA) (hw:ec [aA] o) (hp:(fun o=>bA o=0) o):(cD Tryz.B Tryz.w9 Tryz.f104 (xa o) [aA] [.str, .int .i64] (fun x y=>y=(fun o=>fN o) x) o).holds:=by
 refine holds_of (p:=
  let za:=List.length o.1
  let zb:=fun (x_0:Nat)=>(↑x_0:Int)
  let zc:=[(110:UInt8),101,101,100,32]
  let zd:=fun (x_0:Nat)=>(0:Int)<=zb x_0
  let ze:=fun (x_0:Nat)=>fh o x_0++zc++nth Ty.str o.1 x_0
  let zf:=[(10:UInt8)]
  let zg:=List.length zf
  let zh:=fun (x_0:Nat)=>aJ (zb x_0)
  let zi:=aJ (1:Int)
  let zj:=fun (x_0:Nat)=>zb x_0 + (1:Int)
  let zk:=fun (x_0:Nat)=>aJ (zj x_0)
  let zl:=o.2.1
  let zm:=o.2.2.1
  let zn:=o.2.2.2.1
  let zo:=(o.1=o.1/\zl=zl/\zm=zm/\zn=zn/\True)/\True
  let zp:=List.length zl
  let zq:=[(119:UInt8),111,114,100,32]
  let zr:=fun (x_1:Nat)=>eO o x_1++zq++Lib.itoa (nth (Ty.int IntKind.i64) zl x_1)
  let zs:=List.length zm
  let zt:=fun (x_2:Nat)=>zd x_2/\zb x_2 < (↑zs:Int)
  let zu:=[(119:UInt8),101,97,107,32]
  let zv:=[(115:UInt8),121,109,98,111,108,32]
  let zw:=fun (x_2:Nat)=>dI o x_2++zu++zv
  let zx:=fun (x_2:Nat)=>(nth aD zm x_2).1
  let zy:=[(32:UInt8)]
  let zz:=List.length zy
  let zaa:=fun (x_2:Nat)=>Lib.itoa (nth aD zm x_2).2.1
  let zab:=fun (x_2:Nat)=>zw x_2++zx x_2++zy++zaa x_2
  let zac:=fun (x_2:Nat)=>dI o x_2++zv++zx x_2
  let zad:=List.length zn
  let zae:=fun (x_3:Nat)=>List.length (cz o x_3)
  let zaf:=fun (x_3:Nat)=>(nth aL zn x_3).2.1
  let zag:=[@List.nil UInt8,[(98:UInt8),97,115,101],[(119:UInt8),104,111,108,101],[(110:UInt8),101,97,114]]
  let zah:=fun (x_3:Nat)=>(0:Int)<=zaf x_3/\zaf x_3 < (↑(List.length zag):Int)
  let zai:=fun (x_3:Nat)=>nth Ty.str zag (Int.toNat (zaf x_3))
  let zaj:=fun (x_3:Nat)=>cz o x_3++zu++zai x_3
  let zak:=fun (x_3:Nat)=>Lib.itoa (nth aL zn x_3).1
  let zal:=fun (x_3:Nat)=>zaj x_3++zy++zak x_3++zy
  let zam:=fun (x_3:Nat)=>Lib.itoa (nth aL zn x_3).2.2.1
  let zan:=fun (x_3:Nat)=>zal x_3++zam x_3
  let zao:=fun (x_3:Nat)=>(nth aL zn x_3).2.2.2.1
  let zap:=fun (x_3:Nat)=>cz o x_3++zai x_3++zy
  let zaq:=fun (x_3:Nat)=>zap x_3++zak x_3++zy++zam x_3
  (∃(x:Nat),x<=za/\((0:Int)=(↑x:Int)/\@List.nil UInt8=fh o x/\True)/\True)/\(∀x_0:Nat,((x_0<=za)->((za<=aH)->(((decide (zb x_0 < (↑za:Int)))=true->(List.length (fh o x_0) + List.length zc<=aH)/\(zd x_0/\zb x_0 < (↑za:Int))/\(List.length (fh o x_0++zc) + List.length (nth Ty.str o.1 x_0)<=aH)/\(List.length (ze x_0) + zg<=aH)/\((zh x_0)->((zi)->(zk x_0)/\(∃(x':Nat),x'<=za/\za - x' < za - x_0/\(zj x_0=(↑x':Int)/\ze x_0++zf=fh o x'/\True)/\zo))))/\((decide (zb x_0 < (↑za:Int)))=false->(∃(x:Nat),x<=zp/\((0:Int)=(↑x:Int)/\fh o x_0=eO o x/\True)/\True)/\(∀x_1:Nat,((x_1<=zp)->((zp<=aH)->(((decide (zb x_1 < (↑zp:Int)))=true->(List.length (eO o x_1) + List.length zq<=aH)/\(zd x_1/\zb x_1 < (↑zp:Int))/\(True)/\(List.length (eO o x_1++zq) + List.length (Lib.itoa (nth (Ty.int IntKind.i64) zl x_1))<=aH)/\(List.length (zr x_1) + zg<=aH)/\((zh x_1)->((zi)->(zk x_1)/\(∃(x':Nat),x'<=zp/\zp - x' < zp - x_1/\(zj x_1=(↑x':Int)/\zr x_1++zf=eO o x'/\True)/\zo))))/\((decide (zb x_1 < (↑zp:Int)))=false->(∃(x:Nat),x<=zs/\((0:Int)=(↑x:Int)/\eO o x_1=dI o x/\True)/\True)/\(∀x_2:Nat,((x_2<=zs)->((zs<=aH)->(((decide (zb x_2 < (↑zs:Int)))=true->(zt x_2)/\((((nth aD zm x_2).2.2.1)=true->(List.length (dI o x_2) + List.length zu<=aH)/\(List.length (dI o x_2++zu) + List.length zv<=aH)/\(zt x_2)/\(List.length (zw x_2) + List.length (zx x_2)<=aH)/\(List.length (zw x_2++zx x_2) + zz<=aH)/\(zt x_2)/\(True)/\(List.length (zw x_2++zx x_2++zy) + List.length (zaa x_2)<=aH)/\(List.length (zab x_2) + zg<=aH)/\((zh x_2)->((zi)->(zk x_2)/\(∃(x':Nat),x'<=zs/\zs - x' < zs - x_2/\(zj x_2=(↑x':Int)/\zab x_2++zf=dI o x'/\True)/\zo))))/\(((nth aD zm x_2).2.2.1)=false->(List.length (dI o x_2) + List.length zv<=aH)/\(zt x_2)/\(List.length (dI o x_2++zv) + List.length (zx x_2)<=aH)/\(List.length (zac x_2) + zz<=aH)/\(zt x_2)/\(True)/\(List.length (zac x_2++zy) + List.length (zaa x_2)<=aH)/\(List.length (zac x_2++zy++zaa x_2) + zg<=aH)/\((zh x_2)->((zi)->(zk x_2)/\(∃(x':Nat),x'<=zs/\zs - x' < zs - x_2/\(zj x_2=(↑x':Int)/\zac x_2++zy++zaa x_2++zf=dI o x'/\True)/\zo))))))/\((decide (zb x_2 < (↑zs:Int)))=false->(∃(x:Nat),x<=zad/\((0:Int)=(↑x:Int)/\dI o x_2=cz o x/\True)/\True)/\(∀x_3:Nat,((x_3<=zad)->((zad<=aH)->(((decide (zb x_3 < (↑zad:Int)))=true->(zd x_3/\zb x_3 < (↑zad:Int))/\((((nth aL zn x_3).2.2.2.2.1)=true->(zae x_3 + List.length zu<=aH)/\(zah x_3)/\(List.length (cz o x_3++zu) + List.length (zai x_3)<=aH)/\(List.length (zaj x_3) + zz<=aH)/\(True)/\(List.length (zaj x_3++zy) + List.length (zak x_3)<=aH)/\(List.length (zaj x_3++zy++zak x_3) + zz<=aH)/\(True)/\(List.length (zal x_3) + List.length (zam x_3)<=aH)/\(((decide (zaf x_3 > (1:Int)))=true->(List.length (zan x_3) + zz<=aH)/\(List.length (zan x_3++zy) + List.length (zao x_3)<=aH)/\(List.length (zan x_3++zy++zao x_3) + zg<=aH)/\((zh x_3)->((zi)->(zk x_3)/\(∃(x':Nat),x'<=zad/\zad - x' < zad - x_3/\(zj x_3=(↑x':Int)/\zan x_3++zy++zao x_3++zf=cz o x'/\True)/\zo))))/\((decide (zaf x_3 > (1:Int)))=false->(List.length (zan x_3) + zg<=aH)/\((zh x_3)->((zi)->(zk x_3)/\(∃(x':Nat),x'<=zad/\zad - x' < zad - x_3/\(zj x_3=(↑x':Int)/\zan x_3++zf=cz o x'/\True)/\zo))))))/\(((nth aL zn x_3).2.2.2.2.1)=false->(zah x_3)/\(zae x_3 + List.length (zai x_3)<=aH)/\(List.length (cz o x_3++zai x_3) + zz<=aH)/\(True)/\(List.length (zap x_3) + List.length (zak x_3)<=aH)/\(List.length (zap x_3++zak x_3) + zz<=aH)/\(True)/\(List.length (zap x_3++zak x_3++zy) + List.length (zam x_3)<=aH)/\(((decide (zaf x_3 > (1:Int)))=true->(List.length (zaq x_3) + zz<=aH)/\(List.length (zaq x_3++zy) + List.length (zao x_3)<=aH)/\(List.length (zaq x_3++zy++zao x_3) + zg<=aH)/\((zh x_3)->((zi)->(zk x_3)/\(∃(x':Nat),x'<=zad/\zad - x' < zad - x_3/\(zj x_3=(↑x':Int)/\zaq x_3++zy++zao x_3++zf=cz o x'/\True)/\zo))))/\((decide (zaf x_3 > (1:Int)))=false->(List.length (zaq x_3) + zg<=aH)/\((zh x_3)->((zi)->(zk x_3)/\(∃(x':Nat),x'<=zad/\zad - x' < zad - x_3/\(zj x_3=(↑x':Int)/\zaq x_3++zf=cz o x'/\True)/\zo))))))))/\((decide (zb x_3 < (↑zad:Int)))=false->((zae x_3<=aH)->(((decide ((↑(zae x_3):Int) > (1200:Int)))=true->(([],(2:Int))=fN o))/\((decide ((↑(zae x_3):Int) > (1200:Int)))=false->((cz o x_3,(0:Int))=fN o))))))))))))))))))))))))) (by kernel_rfl) ?_
 dsimp -iota -proj -eta only
 refine ⟨(⟨0,by omega,⟨rfl,rfl,trivial⟩,trivial⟩),fun x_0 q_0 h0=>iL (fun h1=>⟨?a,?b,?c,?d,fun h2 h3=>⟨?e,(⟨x_0 + 1,by omega,by omega,⟨by omega,Jy (by omega),trivial⟩,(by trivial)⟩)⟩⟩) (fun h1=>⟨(⟨0,by omega,⟨rfl,by rw [wD,show x_0=o.1.length by omega],trivial⟩,trivial⟩),fun x_1 q_1 h2=>iL (fun h3=>⟨?f,?g,trivial,?h,?i,fun h4 h5=>⟨?j,(⟨x_1 + 1,by omega,by omega,⟨by omega,Jz (by omega),trivial⟩,(by trivial)⟩)⟩⟩) (fun h3=>⟨(⟨0,by omega,⟨rfl,by rw [wE,show x_1=o.2.1.length by omega],trivial⟩,trivial⟩),fun x_2 q_2 h4=>iL (fun h5=>⟨?k,⟨fun h6=>⟨?l,?m,?n,?o,?p,?q,trivial,?r,?s,fun h7 h8=>⟨?t,(⟨x_2 + 1,by omega,by omega,⟨by omega,Ja (by omega) h6,trivial⟩,(by trivial)⟩)⟩⟩,fun h6=>⟨?u,?v,?w,?x,?y,trivial,?z,?a0,fun h7 h8=>⟨?a1,(⟨x_2 + 1,by omega,by omega,⟨by omega,Jb (by omega) h6,trivial⟩,(by trivial)⟩)⟩⟩⟩⟩) (fun h5=>⟨(⟨0,by omega,⟨rfl,by rw [wF,show x_2=o.2.2.1.length by omega],trivial⟩,trivial⟩),fun x_3 q_3 h6=>iL (fun h7=>⟨?a2,⟨fun h8=>⟨?a3,?a4,?a5,?a6,trivial,?a7,?a8,trivial,?a9,iL (fun h9=>⟨?aa,?ab,?ac,fun h10 h11=>⟨?ad,(⟨x_3 + 1,by omega,by omega,⟨by omega,I7 (by omega) (dC hp) h8 (B8 h9),trivial⟩,(by trivial)⟩)⟩⟩) (fun h9=>⟨?ae,fun h10 h11=>⟨?af,(absurd (h8.symm.trans (((dC hp).tie (i:=x_3) (by omega)).base (E1 (Int.not_lt.2 h9) ((dC hp).kind (by omega)))).2) (by decide))⟩⟩)⟩,fun h8=>⟨?ag,?ah,?ai,trivial,?aj,?ak,trivial,?al,iL (fun h9=>⟨?am,?an,?ao,fun h10 h11=>⟨?ap,(⟨x_3 + 1,by omega,by omega,⟨by omega,I8 (by omega) (dC hp) h8 (B8 h9),trivial⟩,(by trivial)⟩)⟩⟩) (fun h9=>⟨?aq,fun h10 h11=>⟨?ar,(⟨x_3 + 1,by omega,by omega,⟨by omega,I9 (by omega) (E1 (Int.not_lt.2 h9) ((dC hp).kind (by omega))),trivial⟩,(by trivial)⟩)⟩⟩)⟩⟩⟩) (fun h7 h8=>iL (fun h9=>(by rw [uy (show x_3=_ by omega) (by omega)])) (fun h9=>(by rw [o8 (show x_3=_ by omega) (by omega)])))⟩)⟩)⟩)⟩
 case a|c|d=>have a:=qJ (dC hp) (i:=x_0) (by omega);simp only [List.length_append,List.length_cons,List.length_nil,List.length_map,aH];omega
 case b|g|k|n|q|v|y|a2=>omega
 case e|j|t|a1|ad|af|ap|ar=>simp only [aJ,aH] at *;omega
 case f|h|i=>have a:=qK (dC hp) (i:=x_1) (by omega);simp only [List.length_append,List.length_cons,List.length_nil,List.length_map,aH];omega
 case l|m|o|p|r|s|u|w|x|z|a0=>have a:=sR (dC hp) (i:=x_2) (by omega);simp only [List.length_append,List.length_cons,List.length_nil,List.length_map,aH];omega
 case a3|a5|a6|a7|a8|a9|aa|ab|ac|ae|ah|ai|aj|ak|al|am|an|ao|aq=>have a:=sU (dC hp) (i:=x_3) (by omega);have b:=GD (Int.toNat (nth aL o.2.2.2.1 x_3).2.1);simp only [List.length_append,List.length_cons,List.length_nil,List.length_map,aH];omega
 case a4|ag=>obtain ⟨a,b⟩:=(dC hp).kind (i:=x_3) (by omega);exact ⟨Int.le_trans (by decide) a,Int.lt_of_le_of_lt b (by decide)⟩
theorem Tryz.FM:bI Tryz.prog Tryz.B.eT Tryz.X 104 [aA] [.str, .int .i64] (fun o=>bA o=0) (fun x y=>y=(fun o=>fN o) x):=
 bU (X:=Tryz.X) Tryz.Bw Tryz.func104 (by kernel_rfl) (fun x=>xa x) (fun x hw hp=>FL x hw hp)
end Go.Proofs.YtgokjhhcfemnhaaGreatDoor

namespace Go.Proofs.YtgokjhhcfemnhaaGreatDoor
open Go.Vg Go.Mrl
def xb (s:List UInt8):cu:=[(0,fun st=>{X:=Nat × List (List UInt8) × List UInt8,inv:=fun x=>en 32 s x.1 x.2.1 x.2.2,aY:=fun x=>s.length - x.1,aQ:=fun x=>[(5,sI x.1),(3, .s (.one (.app .str x.2.1 (bD st 3)))),(4,sS x.2.2)],aE:=fun x=>[(bD st 3, .tok .str x.2.1)],aT:=[0,2],fg:=[bD st 3]})]
theorem FN (s:List UInt8) (hw:ec [.str] s) (hp:(fun s=>s.length<=1000000) s):(cD Tryz.B [] Tryz.f101 (xb s) [.str] [.slice .str] (fun x y=>y=(fun s=>parts 32 s) x) s).holds:=by
 refine holds_of (p:=
  let za:=Nat × List (List UInt8) × List UInt8
  let zb:=List.length s
  let zc:=fun (x_0:Nat × List (List UInt8) × List UInt8)=>(↑x_0.1:Int)
  let zd:=fun (x_0:Nat × List (List UInt8) × List UInt8)=>x_0.2.1=x_0.2.1/\List.length x_0.2.1 + List.length [x_0.2.2]<=(1000000000:Nat)
  let ze:=aJ (1:Int)
  let zf:=fun (x_0:Nat × List (List UInt8) × List UInt8)=>zc x_0 + (1:Int)
  let zg:=fun (x_0:Nat × List (List UInt8) × List UInt8)=>x_0.2.1++[x_0.2.2]
  let zh:=@List.nil (List UInt8) = @List.nil (List UInt8)/\True
  let zi:=fun (x_0:Nat × List (List UInt8) × List UInt8)=>List.drop x_0.1 (List.take (Int.toNat (zf x_0)) s)
  (∃(x:za),en (32:UInt8) s (Prod.fst x) (Prod.snd x).1 (Prod.snd x).2/\((0:Int)=(↑(Prod.fst x):Int)/\@List.nil (List UInt8)=(Prod.snd x).1/\@List.nil UInt8=(Prod.snd x).2/\True)/\@List.nil (List UInt8)=(Prod.snd x).1/\True)/\(∀x_0:Nat × List (List UInt8) × List UInt8,((en (32:UInt8) s x_0.1 x_0.2.1 x_0.2.2)->((zb<=aH)->(((decide (zc x_0 < (↑zb:Int)))=true->((0:Int)<=zc x_0/\zc x_0 < (↑zb:Int))/\((((↑(UInt8.toNat (bC s x_0.1)):Int) == (32:Int))=true->(zd x_0)/\((aJ (zc x_0))->((ze)->(aJ (zf x_0))/\(∃(x':za),en (32:UInt8) s (Prod.fst x') (Prod.snd x').1 (Prod.snd x').2/\zb - Prod.fst x' < zb - x_0.1/\(zf x_0=(↑(Prod.fst x'):Int)/\zg x_0=(Prod.snd x').1/\@List.nil UInt8=(Prod.snd x').2/\True)/\zg x_0=(Prod.snd x').1/\zh))))/\(((↑(UInt8.toNat (bC s x_0.1)):Int) == (32:Int))=false->((aJ (zc x_0))->((ze)->(aJ (zf x_0))/\((0:Int)<=zc x_0/\zc x_0<=zf x_0/\zf x_0<=(↑zb:Int))/\(List.length x_0.2.2 + List.length (zi x_0)<=aH)/\((aJ (zc x_0))->((ze)->(aJ (zf x_0))/\(∃(x':za),en (32:UInt8) s (Prod.fst x') (Prod.snd x').1 (Prod.snd x').2/\zb - Prod.fst x' < zb - x_0.1/\(zf x_0=(↑(Prod.fst x'):Int)/\x_0.2.1=(Prod.snd x').1/\x_0.2.2++zi x_0=(Prod.snd x').2/\True)/\x_0.2.1=(Prod.snd x').1/\zh))))))))/\((decide (zc x_0 < (↑zb:Int)))=false->(zd x_0)/\(zg x_0=parts (32:UInt8) s))))))) (by kernel_rfl) ?_
 dsimp -iota -proj -eta only
 refine ⟨(⟨(0,[],[]),en.zero _ _,⟨rfl,rfl,rfl,trivial⟩,rfl,trivial⟩),fun x_0 q_0 h0=>iL (fun h1=>⟨?a,iQ (fun h2=>⟨?b,fun h3 h4=>⟨?c,(by exact ⟨(x_0.1 + 1,_,_),q_0.cut (by omega) (Cd (n:=32) h2 rfl),by simp only;omega,⟨by simp only;omega,rfl,rfl,trivial⟩,rfl,(by trivial)⟩)⟩⟩) (fun h2 h3 h4=>⟨?d,?e,(by have:=q_0.lx;have:=q_0.le;rw [uH (by omega)];simp only [List.length_singleton,aH];omega),fun h5 h6=>⟨?f,(by rw [uH (by omega)];exact ⟨(x_0.1 + 1,x_0.2.1,x_0.2.2++[bC s x_0.1]),q_0.more (by omega) (Ce (n:=32) h2 rfl),by simp only;omega,⟨by simp only;omega,rfl,rfl,trivial⟩,rfl,(by trivial)⟩)⟩⟩)⟩) (fun h1=>⟨?g,(q_0.done (by omega))⟩)⟩
 case a|e=>omega
 case b|g=>have:=q_0.len;have:=q_0.le;exact ⟨rfl,by simp only [List.length_singleton];omega⟩
 case c|d|f=>simp only [aJ,aH] at *;omega
theorem Tryz.FO:bI Tryz.prog Tryz.B.eT Tryz.X 101 [.str] [.slice .str] (fun s=>s.length<=1000000) (fun x y=>y=(fun s=>parts 32 s) x):=
 bU (X:=Tryz.X) (cm Tryz.cn) Tryz.func101 (by kernel_rfl) (fun x=>xb x) (fun x hw hp=>FN x hw hp)
def xc (s:List UInt8):cu:=[(0,fun st=>{X:=Nat × List (List UInt8) × Nat,inv:=fun x=>eo 10 s x.1 x.2.1 x.2.2,aY:=fun x=>s.length - x.1,aQ:=fun x=>[(6,sI x.1),(4, .s (.one (.app .str x.2.1 (bD st 4)))),(5,sI x.2.2)],aE:=fun x=>[(bD st 4, .tok .str x.2.1)],aT:=[0,2,3],fg:=[bD st 4]})]
theorem FP (s:List UInt8) (hw:ec [.str] s) (hp:(fun s=>s.length<=1000000) s):(cD Tryz.B [] Tryz.f100 (xc s) [.str] [.slice .str, .bool] (fun x y=>y=(fun s=>(gx s,qN s)) x) s).holds:=by
 refine holds_of (p:=
  let za:=Nat × List (List UInt8) × Nat
  let zb:=List.length s
  let zc:=fun (x_0:Nat × List (List UInt8) × Nat)=>(↑x_0.1:Int)
  let zd:=(↑zb:Int)
  let ze:=fun (x_0:Nat × List (List UInt8) × Nat)=>(↑x_0.2.2:Int)
  let zf:=fun (x_0:Nat × List (List UInt8) × Nat)=>[List.drop x_0.2.2 (List.take x_0.1 s)]
  let zg:=aJ (1:Int)
  let zh:=fun (x_0:Nat × List (List UInt8) × Nat)=>zc x_0 + (1:Int)
  let zi:=@List.nil (List UInt8) = @List.nil (List UInt8)/\True
  (∃(x:za),eo (10:UInt8) s (Prod.fst x) (Prod.snd x).1 (Prod.snd x).2/\((0:Int)=(↑(Prod.fst x):Int)/\@List.nil (List UInt8)=(Prod.snd x).1/\(0:Int)=(↑(Prod.snd x).2:Int)/\True)/\@List.nil (List UInt8)=(Prod.snd x).1/\True)/\(∀x_0:Nat × List (List UInt8) × Nat,((eo (10:UInt8) s x_0.1 x_0.2.1 x_0.2.2)->((zb<=aH)->(((decide (zc x_0 < zd))=true->((0:Int)<=zc x_0/\zc x_0 < zd)/\((((↑(UInt8.toNat (bC s x_0.1)):Int) == (10:Int))=true->((0:Int)<=ze x_0/\ze x_0<=zc x_0/\zc x_0<=zd)/\(x_0.2.1=x_0.2.1/\List.length x_0.2.1 + List.length (zf x_0)<=(1000000000:Nat))/\((aJ (zc x_0))->((zg)->(aJ (zh x_0))/\((aJ (zc x_0))->((zg)->(aJ (zh x_0))/\(∃(x':za),eo (10:UInt8) s (Prod.fst x') (Prod.snd x').1 (Prod.snd x').2/\zb - Prod.fst x' < zb - x_0.1/\(zh x_0=(↑(Prod.fst x'):Int)/\x_0.2.1++zf x_0=(Prod.snd x').1/\zh x_0=(↑(Prod.snd x').2:Int)/\True)/\x_0.2.1++zf x_0=(Prod.snd x').1/\zi))))))/\(((↑(UInt8.toNat (bC s x_0.1)):Int) == (10:Int))=false->((aJ (zc x_0))->((zg)->(aJ (zh x_0))/\(∃(x':za),eo (10:UInt8) s (Prod.fst x') (Prod.snd x').1 (Prod.snd x').2/\zb - Prod.fst x' < zb - x_0.1/\(zh x_0=(↑(Prod.fst x'):Int)/\x_0.2.1=(Prod.snd x').1/\ze x_0=(↑(Prod.snd x').2:Int)/\True)/\x_0.2.1=(Prod.snd x').1/\zi))))))/\((decide (zc x_0 < zd))=false->((zb<=aH)->((x_0.2.1,ze x_0 == zd)=(gx s,qN s))))))))) (by kernel_rfl) ?_
 dsimp -iota -proj -eta only
 refine ⟨(⟨(0,[],0),eo.zero _ _,⟨rfl,rfl,rfl,trivial⟩,rfl,trivial⟩),fun x_0 q_0 h0=>iL (fun h1=>⟨(by omega),iQ (fun h2=>⟨(by have:=q_0.fi;omega),(by have:=q_0.len;have:=q_0.le;exact ⟨rfl,by simp only [List.length_singleton];omega⟩),fun h3 h4=>⟨?a,fun h5 h6=>⟨?b,(by exact ⟨(x_0.1 + 1,_,x_0.1 + 1),q_0.cut (by omega) (Cd (n:=10) h2 rfl),by simp only;omega,⟨by simp only;omega,rfl,by simp only;omega,trivial⟩,rfl,(by trivial)⟩)⟩⟩⟩) (fun h2 h3 h4=>⟨?c,(by exact ⟨(x_0.1 + 1,x_0.2.1,x_0.2.2),q_0.more (by omega) (Ce (n:=10) h2 rfl),by simp only;omega,⟨by simp only;omega,rfl,rfl,trivial⟩,rfl,(by trivial)⟩)⟩)⟩) (fun h1 h2=>(by rw [show (gx s,qN s)=nv s from rfl,<-q_0.done (by omega)];congr 1;rw [Bool.eq_iff_iff];simp;omega))⟩
 case a|b|c=>simp only [aJ,aH] at *;omega
theorem Tryz.FQ:bI Tryz.prog Tryz.B.eT Tryz.X 100 [.str] [.slice .str, .bool] (fun s=>s.length<=1000000) (fun x y=>y=(fun s=>(gx s,qN s)) x):=
 bU (X:=Tryz.X) (cm Tryz.cn) Tryz.func100 (by kernel_rfl) (fun x=>xc x) (fun x hw hp=>FP x hw hp)
def Ct (s:List UInt8):cu:=[(0,fun st=>{X:=Nat,inv:=fun i=>i<=(cj s).length/\∀j,j < i->eN (bC (cj s) j)=true,aY:=fun i=>(cj s).length - i,aQ:=fun i=>[(6,sI i),(5,sI (fA ((cj s).take i)))],aT:=[0,4]})]
theorem D2 (s:List UInt8) (hw:ec [.str] s):(cD Tryz.B [] Tryz.f102 (Ct s) [.str] [.int .i64, .bool] (fun x y=>y=(fun s=>(nw s,lr s)) x) s).holds:=by
 refine holds_of (p:=
  let za:=List.length s
  let zb:=za<=aH
  let zc:=(↑za:Int)
  let zd:=(0:Int)<=(0:Int)
  let ze:=zd/\(0:Int) < zc
  let zf:=(↑(UInt8.toNat (bC s (0:Nat))):Int)
  let zg:=List.drop (1:Nat) (List.take za s)
  let zh:=List.length zg<=aH
  let zi:=(↑(List.length zg):Int)
  let zj:=(nw s,lr s)
  let zk:=((0:Int),false)=zj
  let zl:=decide (zc > (1:Int))
  let zm:=cj s
  let zn:=List.length zm
  let zo:=∃(x:Nat),(x<=zn/\∀(j:Nat),j < x->eN (bC zm j)=true)/\((0:Int)=(↑x:Int)/\(0:Int)=(↑(fA (List.take x zm)):Int)/\True)/\True
  let zp:=fun (x_0:Nat)=>x_0<=zn/\∀(j:Nat),j < x_0->eN (bC zm j)=true
  let zq:=fun (x_0:Nat)=>(0:Int)<=(↑x_0:Int)/\(↑x_0:Int) < zi
  let zr:=fun (x_0:Nat)=>(↑(UInt8.toNat (bC zg x_0)):Int)
  let zs:=fun (x_0:Nat)=>(↑(fA (List.take x_0 zm)):Int)
  let zt:=fun (x_1:Int) (x_2:Int) (x_0:Nat)=>((aJ x_1)->((aJ x_2)->(aJ (x_1 + x_2))/\((aJ (↑x_0:Int))->((aJ (1:Int))->(aJ ((↑x_0:Int) + (1:Int)))/\(∃(x':Nat),(x'<=zn/\∀(j:Nat),j < x'->eN (bC zm j)=true)/\zn - x' < zn - x_0/\((↑x_0:Int) + (1:Int)=(↑x':Int)/\x_1 + x_2=(↑(fA (List.take x' zm)):Int)/\True)/\True)))))
  let zu:=fun (x_0:Nat)=>((aJ (0:Int))->((aJ (zs x_0))->(aJ ((0:Int) - zs x_0))/\(((0:Int) - zs x_0,true)=zj)))
  let zv:=(zo)/\(∀x_0:Nat,((zp x_0)->((zh)->(((decide ((↑x_0:Int) < zi))=true->(zq x_0)/\(((decide (zr x_0 < (48:Int)))=true->(zk))/\((decide (zr x_0 < (48:Int)))=false->(zq x_0)/\(((decide (zr x_0 > (57:Int)))=true->(zk))/\((decide (zr x_0 > (57:Int)))=false->(∀x_1:Int,((x_1=(10:Int) * zs x_0)->((aJ (10:Int))->((aJ (zs x_0))->(aJ x_1)/\(zq x_0)/\(∀x_2:Int,((x_2=IntKind.wrap IntKind.u8 (zr x_0 - (48:Int)))->(zt x_1 x_2 x_0))))))))))))/\((decide ((↑x_0:Int) < zi))=false->((zh)->((zb)->(((decide (zi < zc))=true->(zu x_0))/\((decide (zi < zc))=false->((zs x_0,true)=zj))))))))))
  let zw:=fun (x_0:Nat)=>(0:Int)<=(↑x_0:Int)/\(↑x_0:Int) < zc
  let zx:=fun (x_0:Nat)=>(↑(UInt8.toNat (bC s x_0)):Int)
  let zy:=(zo)/\(∀x_0:Nat,((zp x_0)->((zb)->(((decide ((↑x_0:Int) < zc))=true->(zw x_0)/\(((decide (zx x_0 < (48:Int)))=true->(zk))/\((decide (zx x_0 < (48:Int)))=false->(zw x_0)/\(((decide (zx x_0 > (57:Int)))=true->(zk))/\((decide (zx x_0 > (57:Int)))=false->(∀x_1:Int,((x_1=(10:Int) * zs x_0)->((aJ (10:Int))->((aJ (zs x_0))->(aJ x_1)/\(zw x_0)/\(∀x_2:Int,((x_2=IntKind.wrap IntKind.u8 (zx x_0 - (48:Int)))->(zt x_1 x_2 x_0))))))))))))/\((decide ((↑x_0:Int) < zc))=false->((zb)->((zb)->(((decide (zc < zc))=true->(zu x_0))/\((decide (zc < zc))=false->((zs x_0,true)=zj))))))))))
  let zz:=((zb)->(((decide (zc < (1:Int)))=true->(zk))/\((decide (zc < (1:Int)))=false->((zb)->(((decide (zc > (18:Int)))=true->(zk))/\((decide (zc > (18:Int)))=false->(ze)/\(((zf == (48:Int))=true->((zb)->(((zl)=true->(zk))/\((zl)=false->(zy)))))/\((zf == (48:Int))=false->(zy)))))))))
  ((zb)->(((decide (zc > (0:Int)))=true->(ze)/\(((zf == (45:Int))=true->((0:Int)<=(1:Int)/\(1:Int)<=zc/\zc<=zc)/\((zh)->(((decide (zi < (1:Int)))=true->(zk))/\((decide (zi < (1:Int)))=false->((zh)->(((decide (zi > (18:Int)))=true->(zk))/\((decide (zi > (18:Int)))=false->(zd/\(0:Int) < zi)/\((((↑(UInt8.toNat (bC zg (0:Nat))):Int) == (48:Int))=true->((zb)->(((zl)=true->(zk))/\((zl)=false->(zv)))))/\(((↑(UInt8.toNat (bC zg (0:Nat))):Int) == (48:Int))=false->(zv))))))))))/\((zf == (45:Int))=false->(zz))))/\((decide (zc > (0:Int)))=false->(zz))))) (by kernel_rfl) ?_
 dsimp -iota -proj -eta only
 refine fun h0=>iL (fun h1=>⟨?a,iQ (fun h2=>⟨?b,fun h3=>iL (fun h4 => ?c) (fun h4 h5=>iL (fun h6 => ?d) (fun h6=>⟨?e,iQ (fun h7 h8=>iL (fun h9 => ?f) (fun h9=>⟨?g,fun x_0 q_0 h10=>iL (fun h11=>⟨?h,iL (fun h12 => ?i) (fun h12=>⟨?j,iL (fun h13 => ?k) (fun h13 x_1 q_1 h14 h15=>⟨?l,?m,fun x_2 q_2 h16 h17=>⟨?n,fun h18 h19=>⟨?o,?p⟩⟩⟩)⟩)⟩) (fun h11 h12 h13=>iL (fun h14 h15 h16=>⟨?q,?r⟩) (fun h14 => ?s))⟩)) (fun h7=>⟨?t,fun x_0 q_0 h8=>iL (fun h9=>⟨?u,iL (fun h10 => ?v) (fun h10=>⟨?w,iL (fun h11 => ?x) (fun h11 x_1 q_1 h12 h13=>⟨?y,?z,fun x_2 q_2 h14 h15=>⟨?a0,fun h16 h17=>⟨?a1,?a2⟩⟩⟩)⟩)⟩) (fun h9 h10 h11=>iL (fun h12 h13 h14=>⟨?a3,?a4⟩) (fun h12 => ?a5))⟩)⟩))⟩) (fun h2 h3=>iL (fun h4 => ?a6) (fun h4 h5=>iL (fun h6 => ?a7) (fun h6=>⟨?a8,iQ (fun h7 h8=>iL (fun h9 => ?a9) (fun h9=>⟨?aa,fun x_0 q_0 h10=>iL (fun h11=>⟨?ab,iL (fun h12 => ?ac) (fun h12=>⟨?ad,iL (fun h13 => ?ae) (fun h13 x_1 q_1 h14 h15=>⟨?af,?ag,fun x_2 q_2 h16 h17=>⟨?ah,fun h18 h19=>⟨?ai,?aj⟩⟩⟩)⟩)⟩) (fun h11 h12 h13=>iL (fun h14 h15 h16=>⟨?ak,?al⟩) (fun h14 => ?am))⟩)) (fun h7=>⟨?an,fun x_0 q_0 h8=>iL (fun h9=>⟨?ao,iL (fun h10 => ?ap) (fun h10=>⟨?aq,iL (fun h11 => ?ar) (fun h11 x_1 q_1 h12 h13=>⟨?au,?av,fun x_2 q_2 h14 h15=>⟨?aw,fun h16 h17=>⟨?ax,?ay⟩⟩⟩)⟩)⟩) (fun h9 h10 h11=>iL (fun h12 h13 h14=>⟨?az,?b0⟩) (fun h12 => ?b1))⟩)⟩)))⟩) (fun h1 h2=>iL (fun h3 => ?b2) (fun h3 h4=>iL (fun h5 => ?b3) (fun h5=>⟨?b4,iQ (fun h6 h7=>iL (fun h8 => ?b5) (fun h8=>⟨?b6,fun x_0 q_0 h9=>iL (fun h10=>⟨?b7,iL (fun h11 => ?b8) (fun h11=>⟨?b9,iL (fun h12 => ?ba) (fun h12 x_1 q_1 h13 h14=>⟨?bb,?bc,fun x_2 q_2 h15 h16=>⟨?bd,fun h17 h18=>⟨?be,?bf⟩⟩⟩)⟩)⟩) (fun h10 h11 h12=>iL (fun h13 h14 h15=>⟨?bg,?bh⟩) (fun h13 => ?bi))⟩)) (fun h6=>⟨?bj,fun x_0 q_0 h7=>iL (fun h8=>⟨?bk,iL (fun h9 => ?bl) (fun h9=>⟨?bm,iL (fun h10 => ?bn) (fun h10 x_1 q_1 h11 h12=>⟨?bo,?bp,fun x_2 q_2 h13 h14=>⟨?bq,fun h15 h16=>⟨?br,?bs⟩⟩⟩)⟩)⟩) (fun h8 h9 h10=>iL (fun h11 h12 h13=>⟨?bt,?bu⟩) (fun h11 => ?bv))⟩)⟩)))
 case a|e|a8|b4=>trivial
 case b|h|j|m|u|w|z|ab|ad|ag|ao|aq|av|b7|b9|bc|bk|bm|bp=>omega
 case c|d|f|i|k|v|x|a6|a7|a9|ac|ae|ap|ar|b2|b3|b5|b8|ba|bl|bn=>(first | have hm:=uE h1 h2 | have hm:=uF h2 | have hm:=uG h1);first | exact GJ hm (by omega) | exact Fa hm (by omega) (by assumption) (by omega) | exact GK hm (i:=x_0) (by omega) (by omega)
 case g|t|aa|an|b6|bj=>exact ⟨0,⟨by omega,fun j hj=>by omega⟩,⟨rfl,rfl,trivial⟩,trivial⟩
 case l|y|af|au|bb|bo=>(first | have hm:=uE h1 h2 | have hm:=uF h2 | have hm:=uG h1);have hi:x_0 < (cj s).length:=(by rw [hm];omega);have hs:=r8 (s:=cj s) (i:=x_0) hi (by rw [hm];omega) q_0.2;simp only [aJ];omega
 case n|a0|ah|aw|bd|bq=>(first | have hm:=uE h1 h2 | have hm:=uF h2 | have hm:=uG h1);have hi:x_0 < (cj s).length:=(by rw [hm];omega);have hs:=r8 (s:=cj s) (i:=x_0) hi (by rw [hm];omega) q_0.2;have hn:=zL hm (i:=x_0) (by omega) (by assumption) (by assumption) q_1 q_2;simp only [aJ];omega
 case o|q|a1|a3|ai|ak|ax|az|be|bg|br|bt=>simp only [aJ] at *;omega
 case p|a2|aj|ay|bf|bs=>
  (first | have hm:=uE h1 h2 | have hm:=uF h2 | have hm:=uG h1)
  have hi:x_0 < (cj s).length:=(by rw [hm];omega)
  exact ⟨x_0 + 1,⟨by omega,iq q_0.2 (by rw [hm];exact GL (by assumption) (by assumption))⟩,by omega,⟨by omega,(zL hm (i:=x_0) (by omega) (by assumption) (by assumption) q_1 q_2).1,trivial⟩,(by trivial)⟩
 case r|s|a4|a5|al|am|b0|b1|bh|bi|bu|bv=>(first | have hm:=uE h1 h2 | have hm:=uF h2 | have hm:=uG h1);first | exact GM hm (by omega) (by omega) (by first | (intro;omega) | (intro h;exact absurd h (by assumption))) (i:=x_0) (by omega) q_0.2 (by omega) | exact GN hm (by omega) (by omega) (by first | (intro;omega) | (intro h;exact absurd h (by assumption))) (i:=x_0) (by omega) q_0.2 (by omega)
theorem Tryz.D3:bI Tryz.prog Tryz.B.eT Tryz.X 102 [.str] [.int .i64, .bool] (fun _=>True) (fun x y=>y=(fun s=>(nw s,lr s)) x):=
 bU (X:=Tryz.X) (cm Tryz.cn) Tryz.func102 (by kernel_rfl) (fun x=>Ct x) (fun x hw hp=>D2 x hw)
end Go.Proofs.YtgokjhhcfemnhaaGreatDoor

