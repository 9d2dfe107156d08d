/- A part of the proof that the law TopStaleCard holds of the given program: facts that are used there. -/
import Derived.Test.YtgokjhhcfemnhacGreatDoorPart3
import Derived.Test.YtgokjhhcfemnhacGreatDoorChecked
import Derived.Lib.LaidTab
import Derived.Lib.ItoaNum
import Derived.Shelf.Strconv.Itoa3
import Derived.Shelf.Strconv.AtoiAll
import Derived.Shelf.Strings.Split
import Derived.Shelf.Small.Wraps
import Derived.Shelf.Strings.Prefix
import Derived.Shelf.LaysM
import Derived.Shelf.LaysC
import Derived.Sort.Grow
import Derived.Lib.SplitLaws
import Derived.Lib.Builder
import Derived.Lib.UnsafeStr
import Derived.Lib.Strings
import Derived.Lib.Slices
import Derived.Lib.Walk
import Derived.Laws.Externs
import Derived.Deep.Heap
import Derived.Shelf.RegionOpenPlain
set_option linter.unusedSimpArgs false
set_option linter.unusedVariables false
set_option maxRecDepth 100000
set_option maxHeartbeats 4000000
namespace Go.Proofs.YtgokjhhcfemnhacGreatDoor
open Go.Vg
noncomputable def Tryz.B:Cx:={eT:=128,τ:=[(2,(.int .i64)),(3,(.int .i64)),(4, .bool),(5,(.int .u8)),(7,(.prod (.int .i64) (.prod (.int .i64) (.prod .bool (.prod (.int .u8) .unit))))),(9, .str),(12,(.int .u64)),(13,(.prod .str (.prod (.int .u64) .unit))),(18,(.prod .eP .unit)),(21,(.int .i32)),(22,(.slice cJ)),(23,(.int .u64)),(31,(.slice bK)),(32,(.prod (.slice bK) .unit)),(33,(.prod (.slice bK) .unit)),(35, .err),(36, .err),(37,(.slice aJ)),(38,(.slice bO)),(39,bK),(40,bK),(41,cJ),(42,cJ),(53,aJ),(54,aJ),(56,(.slice .str)),(57,(.slice (.int .i64))),(58,(.slice aI)),(59,(.slice aR)),(60,aA),(61,aA),(68,(.slice aA)),(73,(.slice hP)),(78,(.slice (.slice (.int .i64)))),(81,hP),(82,hP),(85,aR),(86,aR),(89,bO),(90,bO),(98,aI),(99,aI),(121,(.slice yW)),(122,IW),(123,IW),(125,(.prod .eP (.prod (.int .i64) (.prod (.slice bK) .unit)))),(126,(.prod .eP (.prod (.int .i64) (.prod (.slice bK) .unit)))),(128,(.int .i64)),(132,yW),(133,yW),(142,(.slice (.int .u8))),(143,(.prod .eP (.prod (.slice (.int .u8)) .unit))),(144,(.prod .eP (.prod (.slice (.int .u8)) .unit))),(150, .eP),(151,(.prod .eP (.prod (.int .i64) .unit))),(152,(.prod .eP (.prod (.int .i64) .unit))),(153,(.prod .str (.prod (.int .i64) .unit))),(154,(.prod .str (.prod (.int .i64) .unit))),(166,(.prod .eP (.prod .eP .unit))),(167,(.prod .eP (.prod .eP .unit))),(182,(.int .u64)),(211,(.slice aU)),(212,aU),(213,aU),(216,(.int .u32)),(235,(.int .i64)),(247,(.prod (.int .u8) (.prod (.int .u8) .unit))),(248,(.prod (.int .u8) (.prod (.int .u8) .unit))),(253,(.prod .str (.prod .str (.prod .err .unit)))),(254,(.prod .str (.prod .str (.prod .err .unit)))),(259,(.prod .str .unit)),(260,(.prod .str .unit))],ua:=[(95,(40,4)),(227,(24,5)),(242,(20,23)),(243,(65,5)),(246,(256,5)),(249,(16,248)),(261,(32,5)),(262,(64,5)),(265,(0,16))],Γ:=[],N:=0,eqs:=[54,86,90,99],lH:=[25,26,141],nv:=[(150,(9,154))],oO:=[(144,5)]}
theorem Tryz.cU:TyOK Tryz.prog Tryz.B:=Jm (n:=16) (by kernel_rfl)
structure Tryz.Kt (w:World):Prop where
 pow:Lib.TabIs Tryz.prog w "internal/strconv.uint64pow10" .u64 Lib.pow10Tab
 max:∃m,w.cell? ⟨0,0,none⟩=some (.int .i64 m)
 K3:∃ev,w.cell? ⟨4,0,none⟩=some ev/\(ev = .nilIface\/∃te pe,ev = .iface te pe)
 K4:∃ev,w.cell? ⟨5,0,none⟩=some ev/\(ev = .nilIface\/∃te pe,ev = .iface te pe)
theorem Tryz.Ku:Tryz.prog.globalNamed "internal/strconv.uint64pow10" = some 1:=by kernel_rfl
theorem tj {w:World} {b o:Nat} {v:Value} (h:w.cell? ⟨b,o,none⟩=some v):b < w.heap.size:=by
 unfold World.cell? at h
 by_cases hb:b < w.heap.size
 ·exact hb
 ·have h0:w.heap[b]?=none:=Array.getElem?_eq_none (by omega)
  simp [h0] at h
theorem q0 {w w':World} {b o:Nat} (h:w'.heap[b]?=w.heap[b]?):w'.cell? ⟨b,o,none⟩=w.cell? ⟨b,o,none⟩:=by
 unfold World.cell?
 rw [h]
theorem GH {P:Program} {w w':World} {nm:String} {g:Nat} (hg:P.globalNamed nm=some g) (h:w'.heap[g]?=w.heap[g]?):w'.var? P nm=w.var? P nm:=by
 unfold World.var?
 rw [hg]
 simp [h]
noncomputable def Tryz.X:Ext:=
 {KL with
  rj:=Tryz.Kt
  CL:=[1,0,4,5]
  IL:=fun {w} h b hb=>by
   obtain ⟨h1,⟨m,h2⟩,⟨e3,h3,_⟩,⟨e4,h4,_⟩⟩:=h
   simp only [List.mem_cons,List.not_mem_nil,or_false] at hb
   rcases hb with rfl | rfl | rfl | rfl
   ·have h1':=World.var?_cell Tryz.Ku h1 0
    exact tj (v:=.int .u64 1) (by simpa [Lib.pow10Tab] using h1')
   ·exact tj h2
   ·exact tj h3
   ·exact tj h4
  yZ:=fun {w w'} h hb=>by
   obtain ⟨h1,⟨m,h2⟩,⟨e3,h3,h5⟩,⟨e4,h4,h6⟩⟩:=h
   refine ⟨?_,⟨m,?_⟩,⟨e3,?_,h5⟩,⟨e4,?_,h6⟩⟩
   ·unfold Lib.TabIs at h1 ⊢
    rw [GH Tryz.Ku (hb 1 (by simp))];exact h1
   ·rw [q0 (hb 0 (by simp))];exact h2
   ·rw [q0 (hb 4 (by simp))];exact h3
   ·rw [q0 (hb 5 (by simp))];exact h4}
end Go.Proofs.YtgokjhhcfemnhacGreatDoor

namespace Go.Proofs.YtgokjhhcfemnhacGreatDoor
open Go.Vg Go.Mrl
def Bc (s:List UInt8):dE:=[(0,fun st=>{X:=Nat,inv:=fun i=>i<=s.length/\∀j,j < i->fU j (hE s j)=false,bW:=fun i=>s.length - i,bJ:=fun i=>[(15, .s (.one (.d (.int .i64) i)))],aC:=fun _=>[],bL:=[0,14],ic:=[]})]
def Bd (s:List UInt8):dE:=[(0,fun st=>{X:=Nat,inv:=fun i=>i<=s.length/\∀j,j < i->fU j (hE s j)=false,bW:=fun i=>s.length - i,bJ:=fun i=>[(3, .s (.one (.d (.int .i64) i)))],aC:=fun _=>[],bL:=[0],ic:=[]})]
theorem Ik (s:List UInt8) (hw:gI [.str] s):(dR Tryz.B [] Tryz.f76 (Bc s) [.str] [.err] (fun x y=>y=(fun s=>aP (aK s)) x) s).holds:=by
 refine holds_of (p:=
  let za:=aP (aK s)
  let zb:=aV.no (1:Int)=za
  let zc:=List.length s
  let zd:=fun (x_0:Nat)=>(↑(UInt8.toNat (hE s x_0)):Int)
  let ze:=aV.no (3:Int)=za
  let zf:=fun (x_0:Nat)=>((aO (↑x_0:Int))->((aO (1:Int))->(aO ((↑x_0:Int) + (1:Int)))/\(∃(x':Nat),(x'<=zc/\∀(j:Nat),j < x'->fU j (hE s j)=false)/\zc - x' < zc - x_0/\((↑x_0:Int) + (1:Int)=(↑x':Int)/\True)/\True)))
  let zg:=fun (x_0:Nat)=>(((zd x_0 != (95:Int))=true->(ze))/\((zd x_0 != (95:Int))=false->(zf x_0)))
  let zh:=fun (x_0:Nat)=>((((↑x_0:Int) == (0:Int))=true->(ze))/\(((↑x_0:Int) == (0:Int))=false->(((decide (zd x_0 < (48:Int)))=true->(zg x_0))/\((decide (zd x_0 < (48:Int)))=false->(((decide (zd x_0 > (57:Int)))=true->(zg x_0))/\((decide (zd x_0 > (57:Int)))=false->(zf x_0)))))))
  (((s == @List.nil UInt8)=true->(zb))/\((s == @List.nil UInt8)=false->((zc<=aL)->(((decide ((↑zc:Int) > (8:Int)))=true->(zb))/\((decide ((↑zc:Int) > (8:Int)))=false->((zc<=aL)->(∃(x:Nat),(x<=zc/\∀(j:Nat),j < x->fU j (hE s j)=false)/\((0:Int)=(↑x:Int)/\True)/\True)/\(∀x_0:Nat,((x_0<=zc/\∀(j:Nat),j < x_0->fU j (hE s j)=false)->(((decide ((↑x_0:Int) < (↑zc:Int)))=true->((0:Int)<=(↑x_0:Int)/\(↑x_0:Int) < (↑zc:Int))/\(((decide (zd x_0 < (97:Int)))=true->(zh x_0))/\((decide (zd x_0 < (97:Int)))=false->(((decide (zd x_0 > (122:Int)))=true->(zh x_0))/\((decide (zd x_0 > (122:Int)))=false->(zf x_0))))))/\((decide ((↑x_0:Int) < (↑zc:Int)))=false->(aV.nil=za)))))))))))) (by kernel_rfl) ?_
 dsimp -iota -proj -eta only
 refine iQ (fun h0 => ?a) (fun h0 h1=>iL (fun h2 => ?b) (fun h2 h3=>⟨(⟨0,⟨by omega,fun j hj=>by omega⟩,⟨rfl,trivial⟩,trivial⟩),fun x_0 q_0=>iL (fun h4=>⟨?c,iL (fun h5=>iQ (fun h6 => ?d) (fun h6=>iL (fun h7=>iN (fun h8 => ?e) (fun h8 h9 h10=>⟨?f,?g⟩)) (fun h7=>iL (fun h8=>iN (fun h9 => ?h) (fun h9 h10 h11=>⟨?i,?j⟩)) (fun h8 h9 h10=>⟨?k,?l⟩)))) (fun h5=>iL (fun h6=>iQ (fun h7 => ?m) (fun h7=>iL (fun h8=>iN (fun h9 => ?n) (fun h9 h10 h11=>⟨?o,?p⟩)) (fun h8=>iL (fun h9=>iN (fun h10 => ?q) (fun h10 h11 h12=>⟨?r,?s⟩)) (fun h9 h10 h11=>⟨?t,?u⟩)))) (fun h6 h7 h8=>⟨?v,?w⟩))⟩) (fun h4 => ?x)⟩))
 case a|b=>rw [ri (by first | omega | simp [h0])];rfl
 case c|f|o|r|t=>omega
 case d|e|h|m|n|q=>
  have hl:s.length≠0:=fun e=>h0 (List.length_eq_zero_iff.1 e)
  rw [fN (i:=x_0) (by omega) (by omega) (jn.2 (by omega))];rfl
 case g|j|l|p|s|u|w=>exact ⟨x_0 + 1,⟨by omega,lN q_0.2 (iY.2 (by omega))⟩,by omega,⟨by omega,trivial⟩,trivial⟩
 case i|k|v=>simp only [aO,aL] at *;omega
 case x=>
  have hl:s.length≠0:=fun e=>h0 (List.length_eq_zero_iff.1 e)
  rw [p4 (by omega) (fun i hi=>q_0.2 i (by omega))];rfl
theorem Tryz.ja:bV Tryz.prog Tryz.B.eT Tryz.X 76 [.str] [.err] (fun _=>True) (fun x y=>y=(fun s=>aP (aK s)) x):=
 cK (X:=Tryz.X) (cS Tryz.cU) Tryz.func76 (by kernel_rfl) (fun x=>Bc x) (fun x hw hp=>Ik x hw)
theorem Be (s:List UInt8) (hw:gI [.str] s):(dR Tryz.B [] Tryz.f99 (Bd s) [.str] [.int .i64] (fun x y=>y=(fun s=>aK s) x) s).holds:=by
 refine holds_of (p:=
  let za:=List.length s
  let zb:=za<=aL
  let zc:=(↑za:Int)
  let zd:=aK s
  let ze:=fun (x_0:Nat)=>(0:Int)<=(↑x_0:Int)/\(↑x_0:Int) < zc
  let zf:=fun (x_0:Nat)=>(↑(UInt8.toNat (hE s x_0)):Int)
  let zg:=fun (x_0:Nat) => !decide (zf x_0<=(122:Int))
  let zh:=(3:Int)=zd
  let zi:=fun (x_0:Nat)=>((aO (↑x_0:Int))->((aO (1:Int))->(aO ((↑x_0:Int) + (1:Int)))/\(∃(x':Nat),(x'<=za/\∀(j:Nat),j < x'->fU j (hE s j)=false)/\za - x' < za - x_0/\((↑x_0:Int) + (1:Int)=(↑x':Int)/\True)/\True)))
  let zj:=fun (x_0:Nat)=>((((↑x_0:Int) == (0:Int))=true->(zh))/\(((↑x_0:Int) == (0:Int))=false->(zi x_0)))
  let zk:=fun (x_0:Nat)=>((((↑x_0:Int) == (0:Int))=true->(zh))/\(((↑x_0:Int) == (0:Int))=false->(((!zf x_0 == (95:Int))=true->(zh))/\((!zf x_0 == (95:Int))=false->(zi x_0)))))
  let zl:=fun (x_0:Nat)=>(ze x_0)/\(((zg x_0)=true->(zk x_0))/\((zg x_0)=false->(zi x_0)))
  ((zb)->(((decide (zc < (1:Int)))=true->((1:Int)=zd))/\((decide (zc < (1:Int)))=false->((zb)->(((decide (zc > (8:Int)))=true->((1:Int)=zd))/\((decide (zc > (8:Int)))=false->(∃(x:Nat),(x<=za/\∀(j:Nat),j < x->fU j (hE s j)=false)/\((0:Int)=(↑x:Int)/\True)/\True)/\(∀x_0:Nat,((x_0<=za/\∀(j:Nat),j < x_0->fU j (hE s j)=false)->((zb)->(((decide ((↑x_0:Int) < zc))=true->(ze x_0)/\(((decide (zf x_0>=(97:Int)))=true->(ze x_0)/\(ze x_0)/\(((decide (zf x_0>=(48:Int)))=true->(ze x_0)/\(((decide (zf x_0<=(57:Int)))=true->(((zg x_0)=true->(zj x_0))/\((zg x_0)=false->(zi x_0))))/\((decide (zf x_0<=(57:Int)))=false->(zl x_0))))/\((decide (zf x_0>=(48:Int)))=false->(zl x_0))))/\((decide (zf x_0>=(97:Int)))=false->(ze x_0)/\(((decide (zf x_0>=(48:Int)))=true->(ze x_0)/\(((decide (zf x_0<=(57:Int)))=true->(zj x_0))/\((decide (zf x_0<=(57:Int)))=false->(ze x_0)/\(zk x_0))))/\((decide (zf x_0>=(48:Int)))=false->(ze x_0)/\(zk x_0))))))/\((decide ((↑x_0:Int) < zc))=false->((0:Int)=zd))))))))))))) (by kernel_rfl) ?_
 dsimp -iota -proj -eta only
 refine fun h0=>iL (fun h1 => ?a) (fun h1 h2=>iL (fun h3 => ?b) (fun h3=>⟨(⟨0,⟨by omega,fun j hj=>by omega⟩,⟨rfl,trivial⟩,trivial⟩),fun x_0 q_0 h4=>iL (fun h5=>⟨?c,iE (fun h6=>⟨?d,?e,iE (fun h7=>⟨?f,iE (fun h8=>⟨fun h9=>iQ (fun h10 => ?g) (fun h10 h11 h12=>⟨?h,?i⟩),fun h9 h10 h11=>⟨?j,?k⟩⟩) (fun h8=>⟨?l,⟨fun h9=>iQ (fun h10 => ?m) (fun h10=>⟨fun h11 => ?n,fun h11 h12 h13=>⟨?o,?p⟩⟩),fun h9 h10 h11=>⟨?q,?r⟩⟩⟩)⟩) (fun h7=>⟨?s,⟨fun h8=>iQ (fun h9 => ?t) (fun h9=>⟨fun h10 => ?u,fun h10 h11 h12=>⟨?v,?w⟩⟩),fun h8 h9 h10=>⟨?x,?y⟩⟩⟩)⟩) (fun h6=>⟨?z,iE (fun h7=>⟨?a0,iE (fun h8=>iQ (fun h9 => ?a1) (fun h9 h10 h11=>⟨(by simp only [aO,aL] at *;omega),(⟨x_0 + 1,⟨by omega,lN q_0.2 (iY.2 (by omega))⟩,by omega,⟨by omega,trivial⟩,trivial⟩)⟩)) (fun h8=>⟨?a2,iQ (fun h9 => ?a3) (fun h9=>⟨fun h10 => ?a4,fun h10 h11 h12=>⟨?a5,?a6⟩⟩)⟩)⟩) (fun h7=>⟨?a7,iQ (fun h8 => ?a8) (fun h8=>⟨fun h9 => ?a9,fun h9 h10 h11=>⟨?aa,?ab⟩⟩)⟩)⟩)⟩) (fun h5=>(by rw [p4 (by omega) (fun i hi=>q_0.2 i (by omega))]))⟩))
 case a|b=>rw [ri (by omega)]
 case c|d|e|f|l|s|z|a0|a2|a7=>omega
 case g|m|a9=>
  simp only [bl,reduceCtorEq] at h9
  rw [fN (i:=x_0) (by omega) (by omega) (jn.2 (by omega))]
 case h|j|aa=>
  simp only [bl,reduceCtorEq] at h9
  omega
 case i|k|r|ab=>
  simp only [bl,reduceCtorEq] at h9
  exact ⟨x_0 + 1,⟨by omega,lN q_0.2 (iY.2 (by omega))⟩,by omega,⟨by omega,trivial⟩,trivial⟩
 case n=>
  simp only [bl,reduceCtorEq] at h9 h11
  rw [fN (i:=x_0) (by omega) (by omega) (jn.2 (by omega))]
 case o=>
  simp only [bl,reduceCtorEq] at h9 h11
  omega
 case p=>
  simp only [bl,reduceCtorEq] at h9 h11
  exact ⟨x_0 + 1,⟨by omega,lN q_0.2 (iY.2 (by omega))⟩,by omega,⟨by omega,trivial⟩,trivial⟩
 case q=>
  simp only [bl,reduceCtorEq] at h9
  simp only [aO,aL] at *;omega
 case t=>
  simp only [bl,reduceCtorEq] at h8
  rw [fN (i:=x_0) (by omega) (by omega) (jn.2 (by omega))]
 case u=>
  simp only [bl,reduceCtorEq] at h8 h10
  rw [fN (i:=x_0) (by omega) (by omega) (jn.2 (by omega))]
 case v=>
  simp only [bl,reduceCtorEq] at h8 h10
  omega
 case w=>
  simp only [bl,reduceCtorEq] at h8 h10
  exact ⟨x_0 + 1,⟨by omega,lN q_0.2 (iY.2 (by omega))⟩,by omega,⟨by omega,trivial⟩,trivial⟩
 case x=>
  simp only [bl,reduceCtorEq] at h8
  omega
 case y=>
  simp only [bl,reduceCtorEq] at h8
  exact ⟨x_0 + 1,⟨by omega,lN q_0.2 (iY.2 (by omega))⟩,by omega,⟨by omega,trivial⟩,trivial⟩
 case a1|a3|a8=>rw [fN (i:=x_0) (by omega) (by omega) (jn.2 (by omega))]
 case a4=>
  simp only [bl,reduceCtorEq] at h10
  rw [fN (i:=x_0) (by omega) (by omega) (jn.2 (by omega))]
 case a5=>
  simp only [bl,reduceCtorEq] at h10
  simp only [aO,aL] at *;omega
 case a6=>
  simp only [bl,reduceCtorEq] at h10
  exact ⟨x_0 + 1,⟨by omega,lN q_0.2 (iY.2 (by omega))⟩,by omega,⟨by omega,trivial⟩,trivial⟩
theorem Tryz.eX:bV Tryz.prog Tryz.B.eT Tryz.X 99 [.str] [.int .i64] (fun _=>True) (fun x y=>y=(fun s=>aK s) x):=
 cK (X:=Tryz.X) (cS Tryz.cU) Tryz.func99 (by kernel_rfl) (fun x=>Bd x) (fun x hw hp=>Be x hw)
theorem GI (e:aV) (hw:gI [.err] e):(dR Tryz.B [] Tryz.f21 [] [.err] [.int .i64] (fun x y=>y=(fun e=>eS e) x) e).holds:=by
 refine holds_of (p:=
  (((aV.isNil e)=true->((0:Int)=eS e))/\((aV.isNil e)=false->(((!aV.DB e)=true->((-1:Int)=eS e))/\((!aV.DB e)=false->(aV.num e=eS e)))))) (by kernel_rfl) ?_
 refine ⟨fun h0 => ?a,fun h0=>iB (fun h1 => ?b) (fun h1 => ?c)⟩
 case a|b|c=>cases e <;> simp_all [aV.isNil,aV.DB,aV.num,eS]
theorem Tryz.hZ:bV Tryz.prog Tryz.B.eT Tryz.X 21 [.err] [.int .i64] (fun _=>True) (fun x y=>y=(fun e=>eS e) x):=
 cK (X:=Tryz.X) (cS Tryz.cU) Tryz.func21 (by kernel_rfl) (fun _=>[]) (fun x hw hp=>GI x hw)
end Go.Proofs.YtgokjhhcfemnhacGreatDoor

namespace Go.Proofs.YtgokjhhcfemnhacGreatDoor
open Go.Vg Go.Mrl
end Go.Proofs.YtgokjhhcfemnhacGreatDoor

namespace Go.Proofs.YtgokjhhcfemnhacGreatDoor
open Go.Vg Go.Mrl
@[reducible] def Tryz.aM:List Ob:=[.box 152 [.obj 1, .d (.int .i64)], .ext 1 (gC cH)]
noncomputable def Tryz.Bf:List (FuncId × (Bool × bR)):=[(76,(true,aS [.str] [.err] (fun _=>True) (fun s=>aP (aK s)))),
 (99,(true,aS [.str] [.int .i64] (fun _=>True) (fun s=>aK s))),
 (21,(true,aS [.err] [.int .i64] (fun _=>True) (fun e=>eS e)))]
theorem Tryz.EV:bZ Tryz.prog Tryz.B Tryz.X Tryz.Bf:=
 aW (aE Tryz.ja) (aW (aE Tryz.eX) (aW (aE Tryz.hZ) (cS Tryz.cU)))
def Tryz.qe:List (Alt [] []):=[{bP:=Tryz.aM,res:=[.obj 0],out:=fun _ _=>nU,ret:=fun _ _=>()}]
theorem JC  (hw:mg [] ()):(gW Tryz.B [] Tryz.f29 [] [] [] Tryz.qe () ()).holds:=by
 refine holds_of (p:=
  (True/\(((0:Int),()),([],(0:Int),()),())=nU/\()=())) (by kernel_rfl) ?_
 exact ⟨trivial,rfl,rfl⟩
theorem Tryz.w7:dS Tryz.prog Tryz.B.eT Tryz.X 29 false (bQ [] [] (fun _ _=>True) Tryz.qe):=
 cZ (X:=Tryz.X) (cS Tryz.cU) Tryz.func29 (by kernel_rfl) (fun (a:CD []) (x:PD [])=>[]) (fun (a:CD []) (x:PD []) hw hp=>JC  hw)
def Tryz.jr:List (Alt Tryz.aM [.obj 0, .d .str]):=[{bP:=Tryz.aM,res:=[.d .str, .d (.int .i64), .d .err],out:=fun _ x=>x,ret:=fun a x=>((aH x a.1).1,(aH x a.1).2.1,aP (aH x a.1).2.2,())}]
theorem Il (s:List UInt8) (f:bM) (hw:mg [.obj 0, .d .str] (s,())):(gW Tryz.B [] Tryz.f47 [] Tryz.aM [.obj 0, .d .str] Tryz.jr (s,()) f).holds:=by
 refine holds_of (p:=
  let za:=Ty.prod Ty.str (Ty.prod (Ty.int IntKind.i64) Ty.unit)
  let zb:=(aH f s).2
  let zc:=((aH f s).1,zb.1,aP zb.2,())
  let zd:=iw za f.2.1.1 s
  (((!cI za f.2.1.1 s)=true->(True/\f=f/\([],(0:Int),aV.no (5:Int),())=zc))/\((!cI za f.2.1.1 s)=false->(True/\f=f/\(zd.1,zd.2.1,aV.nil,())=zc)))) (by kernel_rfl) ?_
 dsimp -iota -proj -eta only
 exact iB (fun h0=>(by exact ⟨trivial,rfl,by rw [ki h0];rfl⟩)) (fun h0=>(by exact ⟨trivial,rfl,by rw [mm h0];rfl⟩))
theorem Tryz.na:dS Tryz.prog Tryz.B.eT Tryz.X 47 false (bQ Tryz.aM [.obj 0, .d .str] (fun _ _=>True) Tryz.jr):=
 cZ (X:=Tryz.X) (cS Tryz.cU) Tryz.func47 (by kernel_rfl) (fun (a:CD [.obj 0, .d .str]) (x:PD Tryz.aM)=>[]) (fun (a:CD [.obj 0, .d .str]) (x:PD Tryz.aM) hw hp=>Il a.1 x hw)
def Tryz.mA:List (Alt Tryz.aM [.obj 0, .d .str, .d .str]):=[{bP:=Tryz.aM,res:=[.d .err],out:=fun a x=>(bF x a.1 a.2.1).1,ret:=fun a x=>(aP (bF x a.1 a.2.1).2,())}]
theorem GJ (s:List UInt8) (t:List UInt8) (f:bM) (hw:mg [.obj 0, .d .str, .d .str] (s,t,())) (hp:(fun _ x=>x.2.1.1.length<=6/\0<=x.1.1/\x.1.1<=1000000) (s,t,()) f):(gW Tryz.B Tryz.Bf Tryz.f30 [] Tryz.aM [.obj 0, .d .str, .d .str] Tryz.mA (s,t,()) f).holds:=by
 refine holds_of (p:=
  let za:=aP (aK s)
  let zb:=bF f s t
  let zc:=f=zb.1
  let zd:=(aP zb.2,())
  let ze:=Ty.prod Ty.str (Ty.prod (Ty.int IntKind.i64) Ty.unit)
  let zf:=f.2.1.1
  let zg:=True/\zc/\(aV.no (8:Int),())=zd
  let zh:=f.1.1 + (1:Int)
  let zi:=(((f.1.1 == (1000000:Int))=true->(zg))/\((f.1.1 == (1000000:Int))=false->((aO f.1.1)->((aO (1:Int))->(aO zh)/\(List.length zf < aL)/\(True/\((zh,()),(dA ze zf s (t,zh,()) f.2.1.2.1,jy ze zf s f.2.1.2.1,()),())=zb.1/\(aV.nil,())=zd)))))
  (True)/\(((!aV.isNil za)=true->(True/\zc/\(za,())=zd))/\((!aV.isNil za)=false->((List.length t<=aL)->(((decide ((↑(List.length t):Int) > (1200:Int)))=true->(True/\zc/\(aV.no (2:Int),())=zd))/\((decide ((↑(List.length t):Int) > (1200:Int)))=false->(((!cI ze zf s)=true->((((↑(List.length zf):Int) == (6:Int))=true->(zg))/\(((↑(List.length zf):Int) == (6:Int))=false->(zi))))/\((!cI ze zf s)=false->(zi))))))))) (by kernel_rfl) ?_
 dsimp -iota -proj -eta only
 refine ⟨trivial,iB (fun h0 => ?a) (fun h0 h1=>iL (fun h2=>(by rw [sf (aZ.1 (by assumption)) (by omega)];exact ⟨trivial,rfl,rfl⟩)) (fun h2=>iB (fun h3=>iQ (fun h4 => ?b) (fun h4=>iQ (fun h5 => ?c) (fun h5 h6 h7=>⟨?d,?e,?f⟩))) (fun h3=>iQ (fun h4 => ?g) (fun h4 h5 h6=>⟨?h,?i,?j⟩))))⟩
 case a=>
  have hn:¬ aK s=0:=(fun e=>by rw [aZ.2 e] at h0;cases h0)
  rw [se hn];exact ⟨trivial,rfl,rfl⟩
 case b|c|g=>rw [sg (aZ.1 (by assumption)) (by omega) (by first | exact .inr (by omega) | exact .inl ⟨by assumption,by omega⟩)];exact ⟨trivial,rfl,rfl⟩
 case d|e|h|i=>simp only [aO,aL] at *;omega
 case f|j=>rw [qQ (aZ.1 (by assumption)) (by omega) (by rintro (⟨e1,e2⟩ | e);(first | omega | exact Bool.noConfusion (e1.symm.trans (show cI cH f.2.1.1 s=true by assumption)));omega)];exact ⟨trivial,rfl,rfl⟩
theorem Tryz.sK:dS Tryz.prog Tryz.B.eT Tryz.X 30 false (bQ Tryz.aM [.obj 0, .d .str, .d .str] (fun _ x=>x.2.1.1.length<=6/\0<=x.1.1/\x.1.1<=1000000) Tryz.mA):=
 cZ (X:=Tryz.X) Tryz.EV Tryz.func30 (by kernel_rfl) (fun (a:CD [.obj 0, .d .str, .d .str]) (x:PD Tryz.aM)=>[]) (fun (a:CD [.obj 0, .d .str, .d .str]) (x:PD Tryz.aM) hw hp=>GJ a.1 a.2.1 x hw hp)
def Tryz.nr:List (Alt Tryz.aM [.obj 0, .d .str]):=[{bP:=Tryz.aM,res:=[.d .err],out:=fun a x=>(dG x a.1).1,ret:=fun a x=>(aP (dG x a.1).2,())}]
theorem EW (s:List UInt8) (f:bM) (hw:mg [.obj 0, .d .str] (s,())):(gW Tryz.B [] Tryz.f41 [] Tryz.aM [.obj 0, .d .str] Tryz.nr (s,()) f).holds:=by
 refine holds_of (p:=
  let za:=Ty.prod Ty.str (Ty.prod (Ty.int IntKind.i64) Ty.unit)
  let zb:=dG f s
  let zc:=(aP zb.2,())
  (((!cI za f.2.1.1 s)=true->(True/\f=zb.1/\(aV.no (5:Int),())=zc))/\((!cI za f.2.1.1 s)=false->(True/\(f.1,(fH za f.2.1.1 s,f.2.1.2),())=zb.1/\(aV.nil,())=zc)))) (by kernel_rfl) ?_
 dsimp -iota -proj -eta only
 exact iB (fun h0=>(by rw [lg h0];exact ⟨trivial,rfl,rfl⟩)) (fun h0=>(by rw [ik h0];exact ⟨trivial,rfl,rfl⟩))
theorem Tryz.wv:dS Tryz.prog Tryz.B.eT Tryz.X 41 false (bQ Tryz.aM [.obj 0, .d .str] (fun _ _=>True) Tryz.nr):=
 cZ (X:=Tryz.X) (cS Tryz.cU) Tryz.func41 (by kernel_rfl) (fun (a:CD [.obj 0, .d .str]) (x:PD Tryz.aM)=>[]) (fun (a:CD [.obj 0, .d .str]) (x:PD Tryz.aM) hw hp=>EW a.1 x hw)
end Go.Proofs.YtgokjhhcfemnhacGreatDoor

namespace Go.Proofs.YtgokjhhcfemnhacGreatDoor
open Go.Shelf
def Tryz.Co:Go.Shelf.Ren:=⟨fun | 103=>130 | 210=>148 | 206=>167 | n=>n,fun | 9=>9 | 4=>4 | 24=>208 | 3=>3 | n=>n,fun | n=>n⟩
theorem Tryz.JD:Go.Proofs.Lays.n103 Tryz.prog Tryz.Co:={
 mixed:=by kernel_rfl
 f103:=Tryz.func130.trans (congrArg some (by kernel_rfl))
 f206:=Tryz.func167.trans (congrArg some (by kernel_rfl))
 f210:=Tryz.func148.trans (congrArg some (by kernel_rfl))
 t3:=Tryz.underlying3
 a3:=Tryz.isAgg3
 z3:=Tryz.sizeOf3
 v3:=Tryz.zeroValue3
 t4:=Tryz.underlying4
 a4:=Tryz.isAgg4
 z4:=Tryz.sizeOf4
 v4:=Tryz.zeroValue4
 t9:=Tryz.underlying9
 a9:=Tryz.isAgg9
 z9:=Tryz.sizeOf9
 v9:=Tryz.zeroValue9
 t24:=Tryz.underlying208
 a24:=Tryz.isAgg208
 z24:=Tryz.sizeOf208
 v24:=Tryz.zeroValue208}
open Go.RowKit in
theorem Tryz.strings_CutPrefix (s p:ByteArray) (w:World) :
  Calls Tryz.prog 130 #[.string s, .string p] w fun e w'=>e = .returned (.tuple #[.string ⟨(Lib.trimPrefix s.data.toList p.data.toList).toArray⟩, .bool (Lib.hasPrefix s.data.toList p.data.toList)])/\w'=w:=Any.strings_CutPrefix Tryz.JD s p w
def Tryz.Bg:Go.Shelf.Ren:=⟨fun | 171=>71 | 243=>109 | 246=>128 | 283=>144 | 284=>145 | 285=>146 | 286=>147 | 129=>163 | 317=>162 | 318=>164 | 319=>165 | 320=>166 | 337=>174 | 338=>175 | n=>n,fun | 3=>3 | 9=>9 | 2=>2 | 4=>4 | 171=>227 | 0=>0 | 53=>23 | 37=>142 | 5=>5 | 173=>230 | 212=>242 | 51=>216 | 20=>20 | 213=>243 | 46=>182 | 232=>261 | 233=>262 | n=>n,fun | 17=>1 | 18=>6 | 19=>7 | n=>n⟩
theorem Tryz.Im:Go.Proofs.LaysM.n171 Tryz.prog Tryz.Bg:={
 mixed:=by kernel_rfl
 f129:=Tryz.func163.trans (congrArg some (by kernel_rfl))
 f171:=Tryz.func71.trans (congrArg some (by kernel_rfl))
 f243:=Tryz.func109.trans (congrArg some (by kernel_rfl))
 f246:=Tryz.func128.trans (congrArg some (by kernel_rfl))
 f283:=Tryz.func144.trans (congrArg some (by kernel_rfl))
 f284:=Tryz.func145.trans (congrArg some (by kernel_rfl))
 f285:=Tryz.func146.trans (congrArg some (by kernel_rfl))
 f286:=Tryz.func147.trans (congrArg some (by kernel_rfl))
 f317:=Tryz.func162.trans (congrArg some (by kernel_rfl))
 f318:=Tryz.func164.trans (congrArg some (by kernel_rfl))
 f319:=Tryz.func165.trans (congrArg some (by kernel_rfl))
 f320:=Tryz.func166.trans (congrArg some (by kernel_rfl))
 f337:=Tryz.func174.trans (congrArg some (by kernel_rfl))
 f338:=Tryz.func175.trans (congrArg some (by kernel_rfl))
 t0:=Tryz.underlying0
 a0:=Tryz.isAgg0
 z0:=Tryz.sizeOf0
 v0:=Tryz.zeroValue0
 t2:=Tryz.underlying2
 a2:=Tryz.isAgg2
 z2:=Tryz.sizeOf2
 v2:=Tryz.zeroValue2
 t3:=Tryz.underlying3
 a3:=Tryz.isAgg3
 z3:=Tryz.sizeOf3
 v3:=Tryz.zeroValue3
 t4:=Tryz.underlying4
 a4:=Tryz.isAgg4
 z4:=Tryz.sizeOf4
 v4:=Tryz.zeroValue4
 t5:=Tryz.underlying5
 a5:=Tryz.isAgg5
 z5:=Tryz.sizeOf5
 v5:=Tryz.zeroValue5
 t9:=Tryz.underlying9
 a9:=Tryz.isAgg9
 z9:=Tryz.sizeOf9
 v9:=Tryz.zeroValue9
 t20:=Tryz.underlying20
 a20:=Tryz.isAgg20
 z20:=Tryz.sizeOf20
 v20:=Tryz.zeroValue20
 t37:=Tryz.underlying142
 a37:=Tryz.isAgg142
 z37:=Tryz.sizeOf142
 v37:=Tryz.zeroValue142
 t46:=Tryz.underlying182
 a46:=Tryz.isAgg182
 z46:=Tryz.sizeOf182
 v46:=Tryz.zeroValue182
 t51:=Tryz.underlying216
 a51:=Tryz.isAgg216
 z51:=Tryz.sizeOf216
 v51:=Tryz.zeroValue216
 t53:=Tryz.underlying23
 a53:=Tryz.isAgg23
 z53:=Tryz.sizeOf23
 v53:=Tryz.zeroValue23
 t171:=Tryz.underlying227
 a171:=Tryz.isAgg227
 z171:=Tryz.sizeOf227
 v171:=Tryz.zeroValue227
 t173:=Tryz.underlying230
 a173:=Tryz.isAgg230
 z173:=Tryz.sizeOf230
 v173:=Tryz.zeroValue230
 t212:=Tryz.underlying242
 a212:=Tryz.isAgg242
 z212:=Tryz.sizeOf242
 v212:=Tryz.zeroValue242
 t213:=Tryz.underlying243
 a213:=Tryz.isAgg243
 z213:=Tryz.sizeOf243
 t232:=Tryz.underlying261
 a232:=Tryz.isAgg261
 z232:=Tryz.sizeOf261
 v232:=Tryz.zeroValue261
 t233:=Tryz.underlying262
 a233:=Tryz.isAgg262
 z233:=Tryz.sizeOf262
 v233:=Tryz.zeroValue262
 g17:=by kernel_rfl
 g18:=by kernel_rfl
 g19:=by kernel_rfl
 i0:=by kernel_rfl
 i2:=by kernel_rfl
 i3:=by kernel_rfl
 i4:=by kernel_rfl
 i5:=by kernel_rfl
 i9:=by kernel_rfl
 i20:=by kernel_rfl
 i37:=by kernel_rfl
 i46:=by kernel_rfl
 i51:=by kernel_rfl
 i53:=by kernel_rfl
 i171:=by kernel_rfl
 i173:=by kernel_rfl
 i212:=by kernel_rfl
 i232:=by kernel_rfl
 i233:=by kernel_rfl
 m17:=by kernel_rfl
 m18:=by kernel_rfl
 m19:=by kernel_rfl}
open Go.RowKit Go.Sort Go.Lib in
theorem Tryz.strconv_Itoa (n:Int) (h0 : -9223372036854775808<=n) (h1:n<=9223372036854775807) (w:World) (htab:Lib.TabIs Tryz.prog w "internal/strconv.uint64pow10" .u64 Lib.pow10Tab) :
  Calls Tryz.prog 71 #[.int .i64 n] w fun e w'=>e = .returned (.string ⟨(Lib.itoa n).toArray⟩)/\∃k os,w'=grow (w.drewN k) os:=Any.strconv_Itoa Tryz.Im n h0 h1 w htab
def Tryz.Bh:Go.Shelf.Ren:=⟨fun | 172=>125 | 244=>141 | 245=>142 | 247=>157 | 279=>158 | 280=>159 | 281=>160 | 282=>161 | 287=>171 | 316=>172 | 171=>71 | 205=>173 | 321=>176 | 322=>177 | 243=>109 | 246=>128 | 283=>144 | 284=>145 | 285=>146 | 286=>147 | 129=>163 | 317=>162 | 318=>164 | 319=>165 | 320=>166 | 337=>174 | 338=>175 | n=>n,fun | 9=>9 | 3=>3 | 75=>36 | 76=>146 | 4=>4 | 5=>5 | 167=>235 | 37=>142 | 0=>0 | 85=>236 | 2=>2 | 168=>238 | 53=>23 | 175=>251 | 46=>182 | 210=>254 | 127=>188 | 145=>260 | 143=>258 | 21=>21 | 171=>227 | 173=>230 | 212=>242 | 51=>216 | 20=>20 | 213=>243 | 232=>261 | 233=>262 | 80=>149 | n=>n,fun | 15=>4 | 16=>5 | 17=>1 | 18=>6 | 19=>7 | n=>n⟩
theorem Tryz.uS:Go.Proofs.LaysC.n172 Tryz.prog Tryz.Bh:={
 mixed:=by kernel_rfl
 f129:=Tryz.func163.trans (congrArg some (by kernel_rfl))
 f171:=Tryz.func71.trans (congrArg some (by kernel_rfl))
 f172:=Tryz.func125.trans (congrArg some (by kernel_rfl))
 f205:=Tryz.func173.trans (congrArg some (by kernel_rfl))
 f243:=Tryz.func109.trans (congrArg some (by kernel_rfl))
 f244:=Tryz.func141.trans (congrArg some (by kernel_rfl))
 f245:=Tryz.func142.trans (congrArg some (by kernel_rfl))
 f246:=Tryz.func128.trans (congrArg some (by kernel_rfl))
 f247:=Tryz.func157.trans (congrArg some (by kernel_rfl))
 f279:=Tryz.func158.trans (congrArg some (by kernel_rfl))
 f280:=Tryz.func159.trans (congrArg some (by kernel_rfl))
 f281:=Tryz.func160.trans (congrArg some (by kernel_rfl))
 f282:=Tryz.func161.trans (congrArg some (by kernel_rfl))
 f283:=Tryz.func144.trans (congrArg some (by kernel_rfl))
 f284:=Tryz.func145.trans (congrArg some (by kernel_rfl))
 f285:=Tryz.func146.trans (congrArg some (by kernel_rfl))
 f286:=Tryz.func147.trans (congrArg some (by kernel_rfl))
 f287:=Tryz.func171.trans (congrArg some (by kernel_rfl))
 f316:=Tryz.func172.trans (congrArg some (by kernel_rfl))
 f317:=Tryz.func162.trans (congrArg some (by kernel_rfl))
 f318:=Tryz.func164.trans (congrArg some (by kernel_rfl))
 f319:=Tryz.func165.trans (congrArg some (by kernel_rfl))
 f320:=Tryz.func166.trans (congrArg some (by kernel_rfl))
 f321:=Tryz.func176.trans (congrArg some (by kernel_rfl))
 f322:=Tryz.func177.trans (congrArg some (by kernel_rfl))
 f337:=Tryz.func174.trans (congrArg some (by kernel_rfl))
 f338:=Tryz.func175.trans (congrArg some (by kernel_rfl))
 t0:=Tryz.underlying0
 a0:=Tryz.isAgg0
 z0:=Tryz.sizeOf0
 v0:=Tryz.zeroValue0
 t2:=Tryz.underlying2
 a2:=Tryz.isAgg2
 z2:=Tryz.sizeOf2
 v2:=Tryz.zeroValue2
 t3:=Tryz.underlying3
 a3:=Tryz.isAgg3
 z3:=Tryz.sizeOf3
 v3:=Tryz.zeroValue3
 t4:=Tryz.underlying4
 a4:=Tryz.isAgg4
 z4:=Tryz.sizeOf4
 v4:=Tryz.zeroValue4
 t5:=Tryz.underlying5
 a5:=Tryz.isAgg5
 z5:=Tryz.sizeOf5
 v5:=Tryz.zeroValue5
 t9:=Tryz.underlying9
 a9:=Tryz.isAgg9
 z9:=Tryz.sizeOf9
 v9:=Tryz.zeroValue9
 t20:=Tryz.underlying20
 a20:=Tryz.isAgg20
 z20:=Tryz.sizeOf20
 v20:=Tryz.zeroValue20
 t21:=Tryz.underlying21
 a21:=Tryz.isAgg21
 z21:=Tryz.sizeOf21
 v21:=Tryz.zeroValue21
 t37:=Tryz.underlying142
 a37:=Tryz.isAgg142
 z37:=Tryz.sizeOf142
 v37:=Tryz.zeroValue142
 t46:=Tryz.underlying182
 a46:=Tryz.isAgg182
 z46:=Tryz.sizeOf182
 v46:=Tryz.zeroValue182
 t51:=Tryz.underlying216
 a51:=Tryz.isAgg216
 z51:=Tryz.sizeOf216
 v51:=Tryz.zeroValue216
 t53:=Tryz.underlying23
 a53:=Tryz.isAgg23
 z53:=Tryz.sizeOf23
 v53:=Tryz.zeroValue23
 t75:=Tryz.underlying36
 a75:=Tryz.isAgg36
 z75:=Tryz.sizeOf36
 v75:=Tryz.zeroValue36
 t76:=Tryz.underlying146
 a76:=Tryz.isAgg146
 z76:=Tryz.sizeOf146
 v76:=Tryz.zeroValue146
 t85:=Tryz.underlying236
 a85:=Tryz.isAgg236
 z85:=Tryz.sizeOf236
 v85:=Tryz.zeroValue236
 t127:=Tryz.underlying188
 a127:=Tryz.isAgg188
 z127:=Tryz.sizeOf188
 v127:=Tryz.zeroValue188
 t143:=Tryz.underlying258
 a143:=Tryz.isAgg258
 z143:=Tryz.sizeOf258
 v143:=Tryz.zeroValue258
 t145:=Tryz.underlying260
 a145:=Tryz.isAgg260
 z145:=Tryz.sizeOf260
 v145:=Tryz.zeroValue260
 t167:=Tryz.underlying235
 a167:=Tryz.isAgg235
 z167:=Tryz.sizeOf235
 v167:=Tryz.zeroValue235
 t168:=Tryz.underlying238
 a168:=Tryz.isAgg238
 z168:=Tryz.sizeOf238
 v168:=Tryz.zeroValue238
 t171:=Tryz.underlying227
 a171:=Tryz.isAgg227
 z171:=Tryz.sizeOf227
 v171:=Tryz.zeroValue227
 t173:=Tryz.underlying230
 a173:=Tryz.isAgg230
 z173:=Tryz.sizeOf230
 v173:=Tryz.zeroValue230
 t175:=Tryz.underlying251
 a175:=Tryz.isAgg251
 z175:=Tryz.sizeOf251
 v175:=Tryz.zeroValue251
 t210:=Tryz.underlying254
 a210:=Tryz.isAgg254
 z210:=Tryz.sizeOf254
 v210:=Tryz.zeroValue254
 t212:=Tryz.underlying242
 a212:=Tryz.isAgg242
 z212:=Tryz.sizeOf242
 v212:=Tryz.zeroValue242
 t213:=Tryz.underlying243
 a213:=Tryz.isAgg243
 z213:=Tryz.sizeOf243
 t232:=Tryz.underlying261
 a232:=Tryz.isAgg261
 z232:=Tryz.sizeOf261
 v232:=Tryz.zeroValue261
 t233:=Tryz.underlying262
 a233:=Tryz.isAgg262
 z233:=Tryz.sizeOf262
 v233:=Tryz.zeroValue262
 g15:=by kernel_rfl
 g16:=by kernel_rfl
 g17:=by kernel_rfl
 g18:=by kernel_rfl
 g19:=by kernel_rfl
 t80:=Tryz.underlying149
 a80:=Tryz.isAgg149
 z80:=Tryz.sizeOf149
 v80:=Tryz.zeroValue149
 i0:=by kernel_rfl
 i2:=by kernel_rfl
 i3:=by kernel_rfl
 i4:=by kernel_rfl
 i5:=by kernel_rfl
 i9:=by kernel_rfl
 i20:=by kernel_rfl
 i21:=by kernel_rfl
 i37:=by kernel_rfl
 i46:=by kernel_rfl
 i51:=by kernel_rfl
 i53:=by kernel_rfl
 i75:=by kernel_rfl
 i76:=by kernel_rfl
 i80:=by kernel_rfl
 i85:=by kernel_rfl
 i127:=by kernel_rfl
 i143:=by kernel_rfl
 i145:=by kernel_rfl
 i167:=by kernel_rfl
 i168:=by kernel_rfl
 i171:=by kernel_rfl
 i173:=by kernel_rfl
 i175:=by kernel_rfl
 i210:=by kernel_rfl
 i212:=by kernel_rfl
 i232:=by kernel_rfl
 i233:=by kernel_rfl
 m15:=by kernel_rfl
 m16:=by kernel_rfl
 m17:=by kernel_rfl
 m18:=by kernel_rfl
 m19:=by kernel_rfl
 c0:=by kernel_rfl
 c2:=by kernel_rfl
 c3:=by kernel_rfl
 c4:=by kernel_rfl
 c5:=by kernel_rfl
 c9:=by kernel_rfl
 c20:=by kernel_rfl
 c21:=by kernel_rfl
 c37:=by kernel_rfl
 c46:=by kernel_rfl
 c51:=by kernel_rfl
 c53:=by kernel_rfl
 c75:=by kernel_rfl
 c76:=by kernel_rfl
 c80:=by kernel_rfl
 c85:=by kernel_rfl
 c127:=by kernel_rfl
 c143:=by kernel_rfl
 c145:=by kernel_rfl
 c167:=by kernel_rfl
 c168:=by kernel_rfl
 c171:=by kernel_rfl
 c173:=by kernel_rfl
 c175:=by kernel_rfl
 c210:=by kernel_rfl
 c212:=by kernel_rfl
 c213:=by kernel_rfl
 c232:=by kernel_rfl
 c233:=by kernel_rfl}
open Go.RowKit in
theorem Tryz.strconv_Atoi_ok (s:ByteArray) (hmax:s.size<=9223372036854775806) (v:Int) (h:Lib.atoiAll s.data.toList = .ok v) (w:World) :
  Calls Tryz.prog 125 #[.string s] w fun e w'=>e = .returned (.tuple #[.int .i64 v, .nilIface])/\(w'=w\/∃t,w'=Lib.bytesWorld w 5 t):=Any.strconv_Atoi_ok Tryz.uS s hmax v h w
open Go.RowKit in
theorem Tryz.strconv_Atoi_syntax (s:ByteArray) (hlim:s.size<=281474976710656) (h:Lib.atoiAll s.data.toList=Go.Lib.NumEnd.syntax) (ev:Value) (w:World) (hv:w.cell? ⟨4,0,none⟩=some ev) (hev:ev = .nilIface\/∃te pe,ev = .iface te pe) :
  Calls Tryz.prog 125 #[.string s] w fun e w'=>∃N,e = .returned (.tuple #[.int .i64 (0), .iface 238 (.pointer (some ⟨N,0,none⟩))])/\w.heap.size<=N/\w'.heap[N]?=some (.cells #[.string ⟨#[65,116,111,105]⟩, .string s,ev] 254 (0,0))/\Below w.heap.size w w':=Any.strconv_Atoi_syntax Tryz.uS s hlim h ev w hv hev
open Go.RowKit in
theorem Tryz.strconv_Atoi_range (s:ByteArray) (hlim:s.size<=281474976710656) (h:Lib.atoiAll s.data.toList = .range) (ev:Value) (w:World) (hv:w.cell? ⟨5,0,none⟩=some ev) (hev:ev = .nilIface\/∃te pe,ev = .iface te pe) :
  Calls Tryz.prog 125 #[.string s] w fun e w'=>∃N,e = .returned (.tuple #[.int .i64 (Lib.atoiSat s.data.toList), .iface 238 (.pointer (some ⟨N,0,none⟩))])/\w.heap.size<=N/\w'.heap[N]?=some (.cells #[.string ⟨#[65,116,111,105]⟩, .string s,ev] 254 (0,0))/\Below w.heap.size w w':=Any.strconv_Atoi_range Tryz.uS s hlim h ev w hv hev
def Tryz.Cp:Go.Shelf.Ren:=⟨fun | 102=>103 | 209=>124 | 207=>140 | n=>n,fun | 9=>9 | 4=>4 | 3=>3 | n=>n,fun | n=>n⟩
theorem Tryz.JE:Go.Proofs.Lays.n102 Tryz.prog Tryz.Cp:={
 mixed:=by kernel_rfl
 f102:=Tryz.func103.trans (congrArg some (by kernel_rfl))
 f207:=Tryz.func140.trans (congrArg some (by kernel_rfl))
 f209:=Tryz.func124.trans (congrArg some (by kernel_rfl))
 t3:=Tryz.underlying3
 a3:=Tryz.isAgg3
 z3:=Tryz.sizeOf3
 v3:=Tryz.zeroValue3
 t4:=Tryz.underlying4
 a4:=Tryz.isAgg4
 z4:=Tryz.sizeOf4
 v4:=Tryz.zeroValue4
 t9:=Tryz.underlying9
 a9:=Tryz.isAgg9
 z9:=Tryz.sizeOf9
 v9:=Tryz.zeroValue9}
open Go.RowKit Go.Lib in
theorem Tryz.strings_TrimSuffix (s p:ByteArray) (w:World) (hs:s.size<=9223372036854775807) :
  Calls Tryz.prog 103 #[.string s, .string p] w fun e w'=>e = .returned (.string ⟨(Lib.trimSuffix s.data.toList p.data.toList).toArray⟩)/\w'=w:=Any.strings_TrimSuffix Tryz.JE s p w hs
def Tryz.Cq:Go.Shelf.Ren:=⟨fun | 146=>102 | 221=>101 | 268=>121 | 138=>122 | 143=>123 | 195=>136 | 197=>137 | 218=>138 | 219=>139 | 260=>152 | 217=>153 | 225=>154 | 224=>155 | 267=>156 | 266=>169 | 314=>170 | n=>n,fun | 9=>9 | 31=>56 | 3=>3 | 4=>4 | 0=>0 | 105=>221 | 21=>21 | 5=>5 | 46=>182 | 119=>246 | 139=>249 | 138=>248 | 146=>217 | 51=>216 | n=>n,fun | 1=>0 | 3=>2 | 4=>3 | n=>n⟩
theorem Tryz.JF:Go.Proofs.Lays.n146 Tryz.prog Tryz.Cq:={
 mixed:=by kernel_rfl
 f138:=Tryz.func122.trans (congrArg some (by kernel_rfl))
 f143:=Tryz.func123.trans (congrArg some (by kernel_rfl))
 f146:=Tryz.func102.trans (congrArg some (by kernel_rfl))
 f195:=Tryz.func136.trans (congrArg some (by kernel_rfl))
 f197:=Tryz.func137.trans (congrArg some (by kernel_rfl))
 f217:=Tryz.func153.trans (congrArg some (by kernel_rfl))
 f218:=Tryz.func138.trans (congrArg some (by kernel_rfl))
 f219:=Tryz.func139.trans (congrArg some (by kernel_rfl))
 f221:=Tryz.func101.trans (congrArg some (by kernel_rfl))
 f224:=Tryz.func155.trans (congrArg some (by kernel_rfl))
 f225:=Tryz.func154.trans (congrArg some (by kernel_rfl))
 f260:=Tryz.func152.trans (congrArg some (by kernel_rfl))
 f266:=Tryz.func169.trans (congrArg some (by kernel_rfl))
 f267:=Tryz.func156.trans (congrArg some (by kernel_rfl))
 f268:=Tryz.func121.trans (congrArg some (by kernel_rfl))
 f314:=Tryz.func170.trans (congrArg some (by kernel_rfl))
 t0:=Tryz.underlying0
 a0:=Tryz.isAgg0
 z0:=Tryz.sizeOf0
 v0:=Tryz.zeroValue0
 t3:=Tryz.underlying3
 a3:=Tryz.isAgg3
 z3:=Tryz.sizeOf3
 v3:=Tryz.zeroValue3
 t4:=Tryz.underlying4
 a4:=Tryz.isAgg4
 z4:=Tryz.sizeOf4
 v4:=Tryz.zeroValue4
 t5:=Tryz.underlying5
 a5:=Tryz.isAgg5
 z5:=Tryz.sizeOf5
 v5:=Tryz.zeroValue5
 t9:=Tryz.underlying9
 a9:=Tryz.isAgg9
 z9:=Tryz.sizeOf9
 v9:=Tryz.zeroValue9
 t21:=Tryz.underlying21
 a21:=Tryz.isAgg21
 z21:=Tryz.sizeOf21
 v21:=Tryz.zeroValue21
 t31:=Tryz.underlying56
 a31:=Tryz.isAgg56
 z31:=Tryz.sizeOf56
 v31:=Tryz.zeroValue56
 t46:=Tryz.underlying182
 a46:=Tryz.isAgg182
 z46:=Tryz.sizeOf182
 v46:=Tryz.zeroValue182
 t51:=Tryz.underlying216
 a51:=Tryz.isAgg216
 z51:=Tryz.sizeOf216
 v51:=Tryz.zeroValue216
 t105:=Tryz.underlying221
 a105:=Tryz.isAgg221
 z105:=Tryz.sizeOf221
 v105:=Tryz.zeroValue221
 t119:=Tryz.underlying246
 a119:=Tryz.isAgg246
 z119:=Tryz.sizeOf246
 t138:=Tryz.underlying248
 a138:=Tryz.isAgg248
 z138:=Tryz.sizeOf248
 v138:=Tryz.zeroValue248
 t139:=Tryz.underlying249
 a139:=Tryz.isAgg249
 z139:=Tryz.sizeOf249
 v139:=Tryz.zeroValue249
 t146:=Tryz.underlying217
 a146:=Tryz.isAgg217
 z146:=Tryz.sizeOf217
 v146:=Tryz.zeroValue217
 g1:=by kernel_rfl
 g3:=by kernel_rfl
 g4:=by kernel_rfl}
open Go.RowKit Go.Lib in
theorem Tryz.strings_Split (s sep:ByteArray) (m:Int) (w:World) (hs:s.size < 4294967281) (hm:w.cell? ⟨0,0,none⟩=some (.int .i64 m)) (h1:1<=sep.size) :
  Calls Tryz.prog 102 #[.string s, .string sep] w fun e w'=>
   e = .returned (.slice (some ⟨w.heap.size,0,none⟩) (Lib.countB s sep + 1) (Lib.countB s sep + 1))/\w'=w.alloc (.cells ((Lib.splitB sep 0 (Lib.countB s sep) s).map Value.string).toArray 9):=Any.strings_Split Tryz.JF (by kernel_rfl) s sep m w hs hm h1
end Go.Proofs.YtgokjhhcfemnhacGreatDoor

namespace Go.Proofs.YtgokjhhcfemnhacGreatDoor
open Go.Vg Go.Mrl
theorem EX (w:World) (k:Nat) (os:Array Obj):Vg.Below w.heap.size w (Sort.grow (w.drewN k) os):=by
 refine ⟨rfl,rfl,?_,fun i hi => ?_⟩
 ·show w.heap.size<=(w.heap++os).size
  simp
 ·show (w.heap++os)[i]?=w.heap[i]?
  rw [Array.getElem?_append,if_pos hi]
theorem JG {eT:TypeId} {n:Int} {O:aD} {w:World} {v:Value} (h:VR eT (.int .i64) n O w v):v = .int .i64 n/\-9223372036854775808<=n/\n<=9223372036854775807:=by
 obtain ⟨h1,h2,h3⟩:=VR.one rfl h
 exact ⟨by simpa using h1,h2,h3⟩
theorem nb {eT:TypeId} {s:List UInt8} {O:aD} {w:World} {v:Value} (h:VR eT .str s O w v):v = .string ⟨s.toArray⟩/\s.length<=aL:=by
 obtain ⟨h1,h2⟩:=VR.one rfl h
 exact ⟨by simpa using h1,h2⟩
theorem Bi {eT:TypeId} {s:List UInt8} {O:aD} {w:World} (h:s.length<=aL):VR eT .str s O w (.string ⟨s.toArray⟩):=VR.bY rfl ⟨rfl,h⟩
theorem q7:∀(k u:Nat),u < 10 ^ (k + 1)->Lib.nDigits u<=k + 1
 | 0,u,h=>by rw [Lib.nDigits_small (by simpa using h)];exact Nat.le_refl _
 | k + 1,u,h=>by
  by_cases hu:u < 10
  ·rw [Lib.nDigits_small hu];omega
  ·rw [Lib.nDigits_big hu]
   have:=q7 k (u / 10) (by rw [Nat.pow_succ] at h;omega)
   omega
theorem Io {n:Int} (h0 : -9223372036854775808<=n) (h1:n<=9223372036854775807):(Lib.itoa n).length<=21:=by
 unfold Lib.itoa
 split
 ·rw [List.length_cons,Lib.decDigits_length]
  have:=q7 19 n.natAbs (by omega)
  omega
 ·rw [Lib.decDigits_length]
  have:=q7 19 n.toNat (by omega)
  omega
theorem Tryz.q8:bV Tryz.prog Tryz.B.eT Tryz.X 71 [.int .i64] [.str] (fun _=>True) (fun n y=>y=Lib.itoa n):=by
 refine ⟨⟨Tryz.f71,Tryz.func71,by kernel_rfl,by kernel_rfl⟩,fun O w n vs hG hO ha _ => ?_⟩
 obtain ⟨v,rfl,hv⟩:=ha
 obtain ⟨rfl,h0,h1⟩:=JG hv
 refine (Tryz.strconv_Itoa n h0 h1 w hG.pow).mono ?_
 rintro e w' ⟨rfl,k,os,rfl⟩
 exact ⟨[.string ⟨(Lib.itoa n).toArray⟩],Lib.itoa n,rfl,rfl,⟨_,rfl,Bi (by have:=Io h0 h1;unfold aL;omega)⟩,EX w k os⟩
theorem Tryz.uT:bV Tryz.prog Tryz.B.eT Tryz.X 125 [.str] [.int .i64, .err] (fun s=>s.length<=281474976710656) (fun s y=>y=dK s):=by
 refine ⟨⟨Tryz.f125,Tryz.func125,by kernel_rfl,by kernel_rfl⟩,fun O w s vs hG hO ha hs => ?_⟩
 obtain ⟨v,rfl,hv⟩:=ha
 obtain ⟨rfl,hl⟩:=nb hv
 have hsz:(⟨s.toArray⟩:ByteArray).size=s.length:=by simp [ByteArray.size]
 have hsl:(⟨s.toArray⟩:ByteArray).data.toList=s:=by simp
 cases ha:Lib.atoiAll s with
 | ok n=>
  refine (Tryz.strconv_Atoi_ok ⟨s.toArray⟩ (by rw [hsz];omega) n (by rw [hsl];exact ha) w).mono ?_
  rintro e w' ⟨rfl,hw⟩
  obtain ⟨b0,b1⟩:=Lib.atoiAll_bounds ha
  refine ⟨[.int .i64 n, .nilIface],(n, .nil),rfl,by unfold dK;rw [ha],⟨_,_,rfl,VR.bY rfl ⟨rfl,b0,b1⟩,⟨_,rfl,VR.bY rfl ⟨_,rfl,rfl⟩⟩⟩,?_⟩
  rcases hw with rfl | ⟨t,rfl⟩
  ·exact Vg.Below.refl _ _
  ·exact .of (Lib.bytesWorld_below _ _ _)
 | range=>
  obtain ⟨ev,hv,he⟩:=hG.K4
  obtain ⟨b0,b1⟩:=Lib.atoiSat_bounds s
  have hA:=Tryz.strconv_Atoi_range ⟨s.toArray⟩ (by rw [hsz];exact hs) (by rw [hsl];exact ha) ev w hv he
  rw [hsl] at hA
  refine hA.mono ?_
  rintro e w' ⟨N,rfl,_,_,hb⟩
  exact ⟨[.int .i64 (Lib.atoiSat s),_],(Lib.atoiSat s, .other),rfl,by unfold dK;rw [ha],⟨_,_,rfl,VR.bY rfl ⟨rfl,b0,b1⟩,⟨_,rfl,VR.bY rfl ⟨_,rfl,_,_,rfl,by decide +kernel⟩⟩⟩, .of hb⟩
 | _=>
  obtain ⟨ev,hv,he⟩:=hG.K3
  refine (Tryz.strconv_Atoi_syntax ⟨s.toArray⟩ (by rw [hsz];exact hs) (by rw [hsl];exact ha) ev w hv he).mono ?_
  rintro e w' ⟨N,rfl,_,_,hb⟩
  exact ⟨[.int .i64 0,_],(0, .other),rfl,by unfold dK;rw [ha],⟨_,_,rfl,VR.bY rfl ⟨rfl,by decide,by decide⟩,⟨_,rfl,VR.bY rfl ⟨_,rfl,_,_,rfl,by decide +kernel⟩⟩⟩, .of hb⟩
theorem Tryz.oK:bV Tryz.prog Tryz.B.eT Tryz.X 130 [.str, .str] [.str, .bool] (fun _=>True) (fun x y=>y=(Lib.trimPrefix x.1 x.2,Lib.hasPrefix x.1 x.2)):=by
 refine ⟨⟨Tryz.f130,Tryz.func130,by kernel_rfl,by kernel_rfl⟩,fun O w x vs hG hO ha _ => ?_⟩
 obtain ⟨s,p⟩:=x
 obtain ⟨v,vs',rfl,hv,u,rfl,hu⟩:=ha
 obtain ⟨rfl,hl⟩:=nb hv
 obtain ⟨rfl,_⟩:=nb hu
 refine (Tryz.strings_CutPrefix ⟨s.toArray⟩ ⟨p.toArray⟩ w).mono ?_
 rintro e w' ⟨rfl,rfl⟩
 have hle:(Lib.trimPrefix s p).length<=s.length:=by unfold Lib.trimPrefix;split <;> simp
 exact ⟨[.string ⟨(Lib.trimPrefix s p).toArray⟩, .bool (Lib.hasPrefix s p)],_,rfl,rfl,⟨_,_,rfl,Bi (Nat.le_trans hle hl),_,rfl,VR.bY rfl rfl⟩,Vg.Below.refl _ _⟩
theorem Tryz.nK:bV Tryz.prog Tryz.B.eT Tryz.X 103 [.str, .str] [.str] (fun _=>True) (fun x y=>y=Lib.trimSuffix x.1 x.2):=by
 refine ⟨⟨Tryz.f103,Tryz.func103,by kernel_rfl,by kernel_rfl⟩,fun O w x vs hG hO ha _ => ?_⟩
 obtain ⟨s,p⟩:=x
 obtain ⟨v,vs',rfl,hv,u,rfl,hu⟩:=ha
 obtain ⟨rfl,hl⟩:=nb hv
 obtain ⟨rfl,_⟩:=nb hu
 have hl:s.length<=aL:=hl
 have hsz:(⟨s.toArray⟩:ByteArray).size=s.length:=by simp [ByteArray.size]
 refine (Tryz.strings_TrimSuffix ⟨s.toArray⟩ ⟨p.toArray⟩ w (by rw [hsz];exact hl)).mono ?_
 rintro e w' ⟨rfl,rfl⟩
 have hle:(Lib.trimSuffix s p).length<=s.length:=by unfold Lib.trimSuffix;split <;> simp
 exact ⟨[.string ⟨(Lib.trimSuffix s p).toArray⟩],_,rfl,rfl,⟨_,rfl,Bi (Nat.le_trans hle hl)⟩,Vg.Below.refl _ _⟩
theorem Tryz.uU:bV Tryz.prog Tryz.B.eT Tryz.X 102 [.str, .str] [.slice .str] (fun x=>x.1.length < 4294967281/\x.2.length=1) (fun x y=>y=parts (IY x.2) x.1):=by
 refine ⟨⟨Tryz.f102,Tryz.func102,by kernel_rfl,by kernel_rfl⟩,fun O w x vs hG hO ha hp => ?_⟩
 obtain ⟨s,p⟩:=x
 obtain ⟨hs,hp⟩:=hp
 obtain ⟨c,rfl⟩:∃c,p = [c]:=List.length_eq_one_iff.1 hp
 obtain ⟨v,vs',rfl,hv,u,rfl,hu⟩:=ha
 obtain ⟨rfl,hl⟩:=nb hv
 obtain ⟨rfl,_⟩:=nb hu
 obtain ⟨m,hm⟩:=hG.max
 have hsz:(⟨s.toArray⟩:ByteArray).size=s.length:=by simp [ByteArray.size]
 have h1:1<=(⟨#[c]⟩:ByteArray).size:=Nat.le_refl 1
 refine (Tryz.strings_Split ⟨s.toArray⟩ ⟨#[c]⟩ m w (by rw [hsz];exact hs) hm h1).mono ?_
 rintro e w' ⟨rfl,rfl⟩
 have hlen:=Lib.splitB_all ⟨#[c]⟩ h1 0 _ ⟨s.toArray⟩ rfl
 have hdat:=Lib.splitB_data ⟨#[c]⟩ 0 (Lib.countB ⟨s.toArray⟩ ⟨#[c]⟩) ⟨s.toArray⟩
 have hcb:=Lib.countB_le ⟨#[c]⟩ h1 _ ⟨s.toArray⟩ (Nat.le_refl _)
 have hd:(Lib.splitB ⟨#[c]⟩ 0 (Lib.countB ⟨s.toArray⟩ ⟨#[c]⟩) ⟨s.toArray⟩).map (·.data.toList)=parts c s:=by rw [hdat,<-oF,<-Lib.count_one]
 have hlf:(parts c s).length=Lib.countB ⟨s.toArray⟩ ⟨#[c]⟩ + 1:=by rw [<-hd,List.length_map,hlen]
 refine ⟨[_],parts c s,rfl,rfl,⟨_,rfl,VR.bY rfl ⟨_,rfl,?_, .inr ⟨w.heap.size,0,Lib.countB ⟨s.toArray⟩ ⟨#[c]⟩ + 1,by rw [hlf],by rw [hlf];exact Nat.le_refl _,fun i y hy => ?_⟩⟩⟩,(Vg.Below.refl _ w).alloc (Nat.le_refl _) _⟩
 ·rw [hlf];have hs:s.length < 4294967281:=hs;rw [hsz] at hcb;unfold aL;omega
 ·have hyl:=mS c s y (List.mem_of_getElem? hy)
  refine ⟨[.string ⟨y.toArray⟩],⟨rfl,Nat.le_trans hyl hl⟩,fun j u hj=>⟨?_,fun hh => ?_⟩⟩
  ·have hj0:j=0:=by
    rcases j with _ | j
    ·rfl
    ·simp at hj
   subst hj0
   simp at hj
   subst hj
   rw [<-hd,List.getElem?_map,Option.map_eq_some_iff] at hy
   obtain ⟨q,hq,rfl⟩:=hy
   have hh:(w.alloc (.cells ((Lib.splitB ⟨#[c]⟩ 0 (Lib.countB ⟨s.toArray⟩ ⟨#[c]⟩) ⟨s.toArray⟩).map Value.string).toArray 9)).heap[w.heap.size]?=some (.cells ((Lib.splitB ⟨#[c]⟩ 0 (Lib.countB ⟨s.toArray⟩ ⟨#[c]⟩) ⟨s.toArray⟩).map Value.string).toArray 9 (0,0)):=heap_alloc_new w _
   rw [Lib.cell_of_heap hh]
   simp only [Ty.size,Nat.mul_one,Nat.zero_add,Nat.add_zero,List.getElem?_toArray,List.getElem?_map,hq,Option.map_some]
  ·have:=hO _ _ hh
   simp at this
end Go.Proofs.YtgokjhhcfemnhacGreatDoor

namespace Go.Proofs.YtgokjhhcfemnhacGreatDoor
open Go.Vg Go.Mrl
@[reducible] def Tryz.oL:List Ob:=[.box 4 [.d .bool]]
@[reducible] def Tryz.lW:List Ob:=[.box 61 [.obj 1, .obj 2, .obj 3, .obj 4], .tok .str, .tok (.int .i64), .tok aI, .tok aR, .box 4 [.d .bool]]
def Tryz.q9:List (Alt Tryz.oL [.d .str, .obj 0]):=[{bP:=Tryz.oL,res:=[.d (.int .i64)],out:=fun a x=>((x.1.1 || (eE a.1).isNone,()),()),ret:=fun a _=>((dK a.1).1,())}]
noncomputable def Tryz.yf:List (FuncId × (Bool × bR)):=[(71,(true,aS [.int .i64] [.str] (fun _=>True) (fun n=>Lib.itoa n))),
 (125,(true,aS [.str] [.int .i64, .err] (fun s=>s.length<=281474976710656) (fun s=>dK s))),
 (130,(true,aS [.str, .str] [.str, .bool] (fun _=>True) (fun x=>(Lib.trimPrefix x.1 x.2,Lib.hasPrefix x.1 x.2)))),
 (103,(true,aS [.str, .str] [.str] (fun _=>True) (fun x=>Lib.trimSuffix x.1 x.2))),
 (102,(true,aS [.str, .str] [.slice .str] (fun x=>x.1.length < 4294967281/\x.2.length=1) (fun x=>parts (IY x.2) x.1)))]
theorem Tryz.Cr:bZ Tryz.prog Tryz.B Tryz.X Tryz.yf:=
 aW (aE Tryz.q8) (aW (aE Tryz.uT) (aW (aE Tryz.oK) (aW (aE Tryz.nK) (aW (aE Tryz.uU) (cS Tryz.cU)))))
theorem EY (s:List UInt8) (b:Bool) (hw:mg [.d .str, .obj 0] (s,())) (hp:(fun a _=>a.1.length<=1000000) (s,()) ((b,()),())):(gW Tryz.B Tryz.yf Tryz.f131 [] Tryz.oL [.d .str, .obj 0] Tryz.q9 (s,()) ((b,()),())).holds:=by
 refine holds_of (p:=
  let za:=((b || Option.isNone (eE s),()),())
  let zb:=((dK s).1,())
  let zc:=True/\((true,()),())=za/\zb=zb
  (List.length s<=(281474976710656:Nat))/\(((b)=true->(zc))/\((b)=false->(((!aV.isNil (dK s).2)=true->(zc))/\((!aV.isNil (dK s).2)=false->(True)/\(True/\((!Lib.itoa (dK s).1 == s,()),())=za/\zb=zb)))))) (by kernel_rfl) ?_
 dsimp -iota -proj -eta only
 dsimp only at hp
 exact ⟨(by omega),⟨fun h0=>(by simp_all),fun h0=>iB (fun h1=>(by exact ⟨trivial,by rw [xS,h1];simp,rfl⟩)) (fun h1=>⟨trivial,(by exact ⟨trivial,by rw [xS,h1];cases b <;> simp_all <;> (rw [Bool.eq_iff_iff];simp),rfl⟩)⟩)⟩⟩
theorem Tryz.EZ:dS Tryz.prog Tryz.B.eT Tryz.X 131 false (bQ Tryz.oL [.d .str, .obj 0] (fun a _=>a.1.length<=1000000) Tryz.q9):=
 cZ (X:=Tryz.X) Tryz.Cr Tryz.func131 (by kernel_rfl) (fun (a:CD [.d .str, .obj 0]) (x:PD Tryz.oL)=>[]) (fun (a:CD [.d .str, .obj 0]) (x:PD Tryz.oL) hw hp=>EY a.1 x.1.1 hw hp)
def Tryz.uV:List (Alt Tryz.lW [.obj 0, .d .str, .obj 5]):=[{bP:=Tryz.lW,res:=[],out:=fun a x=>Gr (eI (H4 x) x.2.2.2.2.2.1.1 a.1),ret:=fun _ _=>()}]
end Go.Proofs.YtgokjhhcfemnhacGreatDoor

namespace Go.Proofs.YtgokjhhcfemnhacGreatDoor
open Go.Vg Go.Mrl
noncomputable def Tryz.Dr:List (FuncId × (Bool × bR)):=[(71,(true,aS [.int .i64] [.str] (fun _=>True) (fun n=>Lib.itoa n))),
 (125,(true,aS [.str] [.int .i64, .err] (fun s=>s.length<=281474976710656) (fun s=>dK s))),
 (130,(true,aS [.str, .str] [.str, .bool] (fun _=>True) (fun x=>(Lib.trimPrefix x.1 x.2,Lib.hasPrefix x.1 x.2)))),
 (103,(true,aS [.str, .str] [.str] (fun _=>True) (fun x=>Lib.trimSuffix x.1 x.2))),
 (102,(true,aS [.str, .str] [.slice .str] (fun x=>x.1.length < 4294967281/\x.2.length=1) (fun x=>parts (IY x.2) x.1))),
 (131,(false,bQ Tryz.oL [.d .str, .obj 0] (fun a _=>a.1.length<=1000000) Tryz.q9))]
theorem Tryz.GK:bZ Tryz.prog Tryz.B Tryz.X Tryz.Dr:=
 aW (aE Tryz.q8) (aW (aE Tryz.uT) (aW (aE Tryz.oK) (aW (aE Tryz.nK) (aW (aE Tryz.uU) (aW (Tryz.EZ) (cS Tryz.cU))))))
def Ds (s:List UInt8) (_:List (List UInt8)) (_:List Int) (_:List (D aI)) (_:List (D aR)) (_:Bool):dE:=[
 (300001,fun st=>{X:=List (List UInt8),inv:=fun w=>w=parts 32 (Lib.trimPrefix s cT),bW:=fun _=>0,bJ:=fun w=>[(7,sD (.slice .str) w)],bL:=[0,2,6]}),
 (300003,fun st=>{X:=Bool,inv:=fun c=>c=true ↔ (nth .str (dF (.slice .str) st 7) 0=iu/\List.length (dF (.slice .str) st 7)=2),bW:=fun _=>0,bJ:=fun c=>[(18,sB c)],bL:=[0,2,6,7]}),
 (300005,fun st=>{X:=Bool,inv:=fun c=>c=true ↔ (nth .str (dF (.slice .str) st 7) 0=hU/\List.length (dF (.slice .str) st 7)=2),bW:=fun _=>0,bJ:=fun c=>[(40,sB c)],bL:=[0,2,6,7]}),
 (300007,fun st=>{X:=Bool,inv:=fun c=>c=true ↔ (nth .str (dF (.slice .str) st 7) 0=gx/\List.length (dF (.slice .str) st 7)=3),bW:=fun _=>0,bJ:=fun c=>[(64,sB c)],bL:=[0,2,6,7]}),
 (300009,fun st=>{X:=Bool,inv:=fun c=>c=true ↔ (nth .str (dF (.slice .str) st 7) 0=jW/\List.length (dF (.slice .str) st 7)=3),bW:=fun _=>0,bJ:=fun c=>[(93,sB c)],bL:=[0,2,6,7]}),
 (300011,fun st=>{X:=Bool,inv:=fun c=>c=true ↔ ((nth .str (dF (.slice .str) st 7) 0=jj\/nth .str (dF (.slice .str) st 7) 0=jf)/\List.length (dF (.slice .str) st 7)=4),bW:=fun _=>0,bJ:=fun c=>[(123,sB c)],bL:=[0,2,6,7]})]
theorem Ip (s:List UInt8) (n:List (List UInt8)) (w:List Int) (y:List (D aI)) (t:List (D aR)) (b:Bool) (hw:mg [.obj 0, .d .str, .obj 5] (s,())) (hp:(fun a x=>a.1.length<=1000000/\x.2.1.length<=1000000/\x.2.2.1.length<=1000000/\x.2.2.2.1.length<=1000000/\x.2.2.2.2.1.length<=1000000) (s,()) ((),n,w,y,t,(b,()),())):(gW Tryz.B Tryz.Dr Tryz.f111 (Ds s n w y t b) Tryz.lW [.obj 0, .d .str, .obj 5] Tryz.uV (s,()) ((),n,w,y,t,(b,()),())).holds:=by
 refine holds_of (p:=
  let za:=[(119:UInt8),101,97,107,32]
  let zb:=Lib.trimPrefix s za
  let zc:=parts (32:UInt8) (Lib.trimPrefix s cT)
  let zd:=n=n
  let ze:=w=w
  let zf:=y=y
  let zg:=t=t
  let zh:=(zd/\ze/\zf/\zg/\True)/\zd/\ze/\zf/\zg/\(b=b/\True)/\True
  let zi:=fun (x_0:List (List UInt8))=>(↑(List.length x_0):Int)
  let zj:=fun (x_0:List (List UInt8))=>(0:Int)<=(0:Int)/\(0:Int) < zi x_0
  let zk:=fun (x_0:List (List UInt8))=>nth Ty.str x_0 (0:Nat)
  let zl:=fun (x_0:List (List UInt8))=>List.length x_0<=aL
  let zm:=fun (x_0:List (List UInt8))=>zk x_0=iu/\List.length x_0=(2:Nat)
  let zn:=fun (x_0:List (List UInt8))=>(0:Int)<=(1:Int)/\(1:Int) < zi x_0
  let zo:=fun (x_0:List (List UInt8))=>nth Ty.str x_0 (1:Nat)
  let zp:=(w,y,t,(b,()),())
  let zq:=Gr (eI (H4 ((),n,zp)) b s)
  let zr:=()=()
  let zs:=fun (x_0:List (List UInt8))=>zk x_0=hU/\List.length x_0=(2:Nat)
  let zt:=fun (x_0:List (List UInt8))=>List.length (zo x_0)<=(1000000:Nat)
  let zu:=fun (x_0:List (List UInt8))=>(dK (zo x_0)).1
  let zv:=fun (x_0:List (List UInt8))=>zk x_0=gx/\List.length x_0=(3:Nat)
  let zw:=fun (x_0:List (List UInt8))=>(0:Int)<=(2:Int)/\(2:Int) < zi x_0
  let zx:=fun (x_0:List (List UInt8))=>nth Ty.str x_0 (2:Nat)
  let zy:=fun (x_0:List (List UInt8))=>List.length (zx x_0)<=(1000000:Nat)
  let zz:=(Lib.hasPrefix s za,())
  let zaa:=fun (x_0:List (List UInt8))=>[(zo x_0,(dK (zx x_0)).1,zz)]
  let zab:=fun (x_0:List (List UInt8))=>zk x_0=jW/\List.length x_0=(3:Nat)
  let zac:=List.length t
  let zad:=fun (x_0:List (List UInt8))=>[(zu x_0,(1:Int),(dK (zx x_0)).1,@List.nil UInt8,false,())]
  let zae:=fun (x_0:List (List UInt8))=>((b || Option.isNone (eE (zo x_0)) || Option.isNone (eE (zx x_0)),()),())
  let zaf:=fun (x_0:List (List UInt8))=>(zy x_0)/\((True)->(zg/\zac + List.length (zad x_0)<=(1000000000:Nat))/\(zd/\ze/\zf/\t++zad x_0=t++zad x_0/\True/\((),n,w,y,t++zad x_0,zae x_0)=zq/\zr))
  let zag:=fun (x_0:List (List UInt8))=>(zk x_0=jj\/zk x_0=jf)/\List.length x_0=(4:Nat)
  let zah:=fun (x_0:List (List UInt8))=>((zl x_0)->(∃(x':Bool),(x'=true ↔ zag x_0)/\((zi x_0 == (4:Int))=x'/\True)/\zh))
  let zai:=fun (x_0:List (List UInt8))=>zk x_0 == [(110:UInt8),101,97,114]
  let zaj:=fun (x_0:List (List UInt8))=>(0:Int)<=(3:Int)/\(3:Int) < zi x_0
  let zak:=fun (x_0:List (List UInt8))=>((dK (zx x_0)).1,nth Ty.str x_0 (3:Nat),zz)
  let zal:=fun (x_0:List (List UInt8))=>t++[(zu x_0,(3:Int),zak x_0)]
  let zam:=fun (x_0:List (List UInt8))=>(zy x_0)/\((True)->(zg/\zac + List.length [(zu x_0,(3:Int),zak x_0)]<=(1000000000:Nat))/\(zd/\ze/\zf/\zal x_0=zal x_0/\True/\((),n,w,y,zal x_0,zae x_0)=zq/\zr))
  let zan:=fun (x_0:List (List UInt8))=>t++[(zu x_0,(2:Int),zak x_0)]
  let zao:=fun (x_0:List (List UInt8))=>(zy x_0)/\((True)->(zg/\zac + List.length [(zu x_0,(2:Int),zak x_0)]<=(1000000000:Nat))/\(zd/\ze/\zf/\zan x_0=zan x_0/\True/\((),n,w,y,zan x_0,zae x_0)=zq/\zr))
  (True)/\(((List.length zb < (4294967281:Nat)/\List.length [(32:UInt8)]=(1:Nat))/\(∃(x':List (List UInt8)),x'=zc/\(parts (32:UInt8) zb=x'/\True)/\zh))/\((∀x_0:List (List UInt8),((x_0=zc)->(((zj x_0)/\(((zk x_0 == [(110:UInt8),101,101,100])=true->((zl x_0)->(∃(x':Bool),(x'=true ↔ zm x_0)/\((zi x_0 == (2:Int))=x'/\True)/\zh)))/\((zk x_0 == [(110:UInt8),101,101,100])=false->(∃(x':Bool),(x'=true ↔ zm x_0)/\(false=x'/\True)/\zh))))/\((∀x_1:Bool,((x_1=true ↔ zm x_0)->(((x_1)=true->(zn x_0)/\(zd/\List.length n + List.length [zo x_0]<=(1000000000:Nat))/\(n++[zo x_0]=n++[zo x_0]/\ze/\zf/\zg/\True/\((),n++[zo x_0],zp)=zq/\zr))/\((x_1)=false->(((zj x_0)/\(((zk x_0 == [(119:UInt8),111,114,100])=true->((zl x_0)->(∃(x':Bool),(x'=true ↔ zs x_0)/\((zi x_0 == (2:Int))=x'/\True)/\zh)))/\((zk x_0 == [(119:UInt8),111,114,100])=false->(∃(x':Bool),(x'=true ↔ zs x_0)/\(false=x'/\True)/\zh))))/\((∀x_2:Bool,((x_2=true ↔ zs x_0)->(((x_2)=true->(zn x_0)/\((fun a0:Prop=>a0/\a0) ((zt x_0)/\((True)->(ze/\List.length w + List.length [zu x_0]<=(1000000000:Nat))/\(zd/\w++[zu x_0]=w++[zu x_0]/\zf/\zg/\True/\((),n,w++[zu x_0],y,t,(b || Option.isNone (eE (zo x_0)),()),())=zq/\zr)))))/\((x_2)=false->(((zj x_0)/\(((zk x_0 == [(115:UInt8),121,109,98,111,108])=true->((zl x_0)->(∃(x':Bool),(x'=true ↔ zv x_0)/\((zi x_0 == (3:Int))=x'/\True)/\zh)))/\((zk x_0 == [(115:UInt8),121,109,98,111,108])=false->(∃(x':Bool),(x'=true ↔ zv x_0)/\(false=x'/\True)/\zh))))/\((∀x_3:Bool,((x_3=true ↔ zv x_0)->(((x_3)=true->(zn x_0)/\(zw x_0)/\((fun a0:Prop=>a0/\a0) ((zy x_0)/\((True)->(zf/\List.length y + List.length (zaa x_0)<=(1000000000:Nat))/\(zd/\ze/\y++zaa x_0=y++zaa x_0/\zg/\True/\((),n,w,y++zaa x_0,t,(b || Option.isNone (eE (zx x_0)),()),())=zq/\zr)))))/\((x_3)=false->(((zj x_0)/\(((zk x_0 == [(98:UInt8),97,115,101])=true->((zl x_0)->(∃(x':Bool),(x'=true ↔ zab x_0)/\((zi x_0 == (3:Int))=x'/\True)/\zh)))/\((zk x_0 == [(98:UInt8),97,115,101])=false->(∃(x':Bool),(x'=true ↔ zab x_0)/\(false=x'/\True)/\zh))))/\((∀x_4:Bool,((x_4=true ↔ zab x_0)->(((x_4)=true->(zn x_0)/\(zw x_0)/\(((zt x_0)/\((True)->(zaf x_0)))/\((zt x_0)/\((True)->((fun a0:Prop=>a0/\a0) ((zaf x_0)))))))/\((x_4)=false->(((zj x_0)/\(((zk x_0 == [(119:UInt8),104,111,108,101])=true->(zah x_0))/\((zk x_0 == [(119:UInt8),104,111,108,101])=false->(zj x_0)/\(((zai x_0)=true->(zah x_0))/\((zai x_0)=false->(∃(x':Bool),(x'=true ↔ zag x_0)/\(false=x'/\True)/\zh))))))/\((∀x_5:Bool,((x_5=true ↔ zag x_0)->(((x_5)=true->(zj x_0)/\(((zai x_0)=true->(zn x_0)/\(zw x_0)/\(zaj x_0)/\(((zt x_0)/\((True)->(zam x_0)))/\((zt x_0)/\((True)->((fun a0:Prop=>a0/\a0) ((zam x_0)))))))/\((zai x_0)=false->(zn x_0)/\(zw x_0)/\(zaj x_0)/\(((zt x_0)/\((True)->(zao x_0)))/\((zt x_0)/\((True)->((fun a0:Prop=>a0/\a0) ((zao x_0)))))))))/\((x_5)=false->(zd/\ze/\zf/\zg/\True/\((),n,w,y,t,(true,()),())=zq/\zr)))))))))))))))))))))))))))))))))))) (by kernel_rfl) ?_
 dsimp -iota -proj -eta only
 dsimp only at hp
 refine ⟨trivial,⟨⟨(by have:=AV s [119,101,97,107,32];exact ⟨by omega,rfl⟩),(⟨_,rfl,⟨rfl,trivial⟩,(by trivial)⟩)⟩,fun x_0 q_0=>⟨⟨?a,iQ (fun h0 h1 => ?b) (fun h0 => ?c)⟩,fun x_1 q_1=>⟨fun h0=>⟨?d,?e,?f⟩,fun h0=>⟨⟨?g,iQ (fun h1 h2 => ?h) (fun h1 => ?i)⟩,fun x_2 q_2=>⟨fun h1=>⟨?j,(show ∀{a0:Prop},a0->a0/\a0 from fun g0=>⟨g0,g0⟩) (⟨?k,fun h2=>⟨?l,?m⟩⟩)⟩,fun h1=>⟨⟨?n,iQ (fun h2 h3 => ?o) (fun h2 => ?p)⟩,fun x_3 q_3=>⟨fun h2=>⟨?q,?r,(show ∀{a0:Prop},a0->a0/\a0 from fun g0=>⟨g0,g0⟩) (⟨?s,fun h3=>⟨?t,?u⟩⟩)⟩,fun h2=>⟨⟨?v,iQ (fun h3 h4 => ?w) (fun h3 => ?x)⟩,fun x_4 q_4=>⟨fun h3=>⟨?y,?z,⟨⟨?a0,fun h4=>⟨?a1,fun h5=>⟨?a2,?a3⟩⟩⟩,⟨?a4,fun h4=>(show ∀{a0:Prop},a0->a0/\a0 from fun g0=>⟨g0,g0⟩) (⟨?a5,fun h5=>⟨?a6,?a7⟩⟩)⟩⟩⟩,fun h3=>⟨⟨?a8,iQ (fun h4 h5 => ?a9) (fun h4=>⟨?aa,iQ (fun h5 h6 => ?ab) (fun h5 => ?ac)⟩)⟩,fun x_5 q_5=>⟨fun h4=>⟨?ad,iQ (fun h5=>⟨?ae,?af,?ag,⟨⟨?ah,fun h6=>⟨?ai,fun h7=>⟨?aj,?ak⟩⟩⟩,⟨?al,fun h6=>(show ∀{a0:Prop},a0->a0/\a0 from fun g0=>⟨g0,g0⟩) (⟨?am,fun h7=>⟨?an,?ao⟩⟩)⟩⟩⟩) (fun h5=>⟨?ap,?aq,?ar,⟨⟨?au,fun h6=>⟨?av,fun h7=>⟨?aw,?ax⟩⟩⟩,⟨?ay,fun h6=>(show ∀{a0:Prop},a0->a0/\a0 from fun g0=>⟨g0,g0⟩) (⟨?az,fun h7=>⟨?b0,?b1⟩⟩)⟩⟩⟩)⟩,fun h4 => ?b2⟩⟩⟩⟩⟩⟩⟩⟩⟩⟩⟩⟩
 case a|g|n|v|a8|aa|ad=>have:=H5 q_0;omega
 case b|c|h|i|o|p|w|x|a9|ab|ac=>exact ⟨_,by (simp_all <;> omega),⟨rfl,trivial⟩,(by trivial)⟩
 case d|j|q|r|y|z|ae|af|ag|ap|aq|ar=>simp_all
 case e|l|t|a2|a6|aj|an|aw|b0=>exact ⟨rfl,by simp only [List.length_singleton];omega⟩
 case f|m|u|a3|a7|ak|ao|ax|b1|b2=>
  refine ⟨rfl,rfl,rfl,rfl,trivial,?_,rfl⟩
  first
  | (rw [EF q_0 (q_1.1 (by assumption))];rfl)
  | (rw [EG q_0 (jD q_1 (by assumption)) (q_2.1 (by assumption))];rfl)
  | (rw [Gs q_0 (jD q_1 (by assumption)) (jD q_2 (by assumption)) (q_3.1 (by assumption))];rfl)
  | (rw [EH q_0 (jD q_1 (by assumption)) (jD q_2 (by assumption)) (jD q_3 (by assumption)) (q_4.1 (by assumption))];rfl)
  | (rw [x6 q_0 (jD q_1 (by assumption)) (jD q_2 (by assumption)) (jD q_3 (by assumption)) (jD q_4 (by assumption)) (q_5.1 (by assumption)) (k:=3) (if_pos (by assumption)).symm];rfl)
  | (rw [x6 q_0 (jD q_1 (by assumption)) (jD q_2 (by assumption)) (jD q_3 (by assumption)) (jD q_4 (by assumption)) (q_5.1 (by assumption)) (k:=2) (if_neg (by assumption)).symm];rfl)
  | (rw [EI q_0 (jD q_1 (by assumption)) (jD q_2 (by assumption)) (jD q_3 (by assumption)) (jD q_4 (by assumption)) (jD q_5 (by assumption))];rfl)
 case k|a0|a4|ah|al|au|ay=>have:=Df q_0 1;omega
 case s|a1|a5|ai|am|av|az=>have:=Df q_0 2;omega
theorem Tryz.Iq:dS Tryz.prog Tryz.B.eT Tryz.X 111 false (bQ Tryz.lW [.obj 0, .d .str, .obj 5] (fun a x=>a.1.length<=1000000/\x.2.1.length<=1000000/\x.2.2.1.length<=1000000/\x.2.2.2.1.length<=1000000/\x.2.2.2.2.1.length<=1000000) Tryz.uV):=
 cZ (X:=Tryz.X) Tryz.GK Tryz.func111 (by kernel_rfl) (fun (a:CD [.obj 0, .d .str, .obj 5]) (x:PD Tryz.lW)=>Ds a.1 x.2.1 x.2.2.1 x.2.2.2.1 x.2.2.2.2.1 x.2.2.2.2.2.1.1) (fun (a:CD [.obj 0, .d .str, .obj 5]) (x:PD Tryz.lW) hw hp=>Ip a.1 x.2.1 x.2.2.1 x.2.2.2.1 x.2.2.2.2.1 x.2.2.2.2.2.1.1 hw hp)
end Go.Proofs.YtgokjhhcfemnhacGreatDoor

namespace Go.Proofs.YtgokjhhcfemnhacGreatDoor
open Go.Vg Go.Mrl
theorem Ir (n:Int) (hw:gI [.int .i64] n):(dR Tryz.B [] Tryz.f106 [] [.int .i64] [.bool] (fun x y=>y=(fun n=>gP n) x) n).holds:=by
 refine holds_of (p:=
  (((decide (n>=(-2147483648:Int)))=true->(decide (n<=(2147483647:Int))=gP n))/\((decide (n>=(-2147483648:Int)))=false->(false=gP n)))) (by kernel_rfl) ?_
 refine iE (fun h0 => ?a) (fun h0 => ?b)
 case a|b=>unfold gP;rw [Bool.eq_iff_iff];simp;omega
theorem Tryz.Bj:bV Tryz.prog Tryz.B.eT Tryz.X 106 [.int .i64] [.bool] (fun _=>True) (fun x y=>y=(fun n=>gP n) x):=
 cK (X:=Tryz.X) (cS Tryz.cU) Tryz.func106 (by kernel_rfl) (fun _=>[]) (fun x hw hp=>Ir x hw)
def yg (l:List (List UInt8)) (s:List UInt8):dE:=[(0,fun st=>{X:=Nat,inv:=fun i=>i<=l.length/\∀j,j < i->nth .str l j≠s,bW:=fun i=>l.length - i,bJ:=fun i=>[(8,sI i)],bL:=[0,1,7]})]
theorem GL (l:List (List UInt8)) (s:List UInt8) (hw:gI [.slice .str, .str] (l,s)):(dR Tryz.B [] Tryz.f112 (yg l s) [.slice .str, .str] [.int .i64] (fun x y=>(y = -1/\∀j,j < x.1.length->nth .str x.1 j≠x.2)\/(0<=y/\y.toNat < x.1.length/\nth .str x.1 y.toNat=x.2)) (l,s)).holds:=by
 refine holds_of (p:=
  let za:=List.length l
  let zb:=(-1:Int)
  let zc:=∀(j:Nat),j < za->nth Ty.str l j≠s
  ((za<=aL)->(∃(x:Nat),(x<=za/\∀(j:Nat),j < x->nth Ty.str l j≠s)/\((0:Int)=(↑x:Int)/\True)/\True)/\(∀x_0:Nat,((x_0<=za/\∀(j:Nat),j < x_0->nth Ty.str l j≠s)->(((decide ((↑x_0:Int) < (↑za:Int)))=true->((0:Int)<=(↑x_0:Int)/\(↑x_0:Int) < (↑za:Int))/\(((s == nth Ty.str l x_0)=true->((↑x_0:Int)=zb/\zc\/(0:Int)<=(↑x_0:Int)/\x_0 < za/\nth Ty.str l x_0=s))/\((s == nth Ty.str l x_0)=false->((aO (↑x_0:Int))->((aO (1:Int))->(aO ((↑x_0:Int) + (1:Int)))/\(∃(x':Nat),(x'<=za/\∀(j:Nat),j < x'->nth Ty.str l j≠s)/\za - x' < za - x_0/\((↑x_0:Int) + (1:Int)=(↑x':Int)/\True)/\True))))))/\((decide ((↑x_0:Int) < (↑za:Int)))=false->(zb=zb/\zc\/(0:Int)<=zb/\Int.toNat zb < za/\nth Ty.str l (Int.toNat zb)=s))))))) (by kernel_rfl) ?_
 dsimp -iota -proj -eta only
 exact fun h0=>⟨(⟨0,⟨by omega,fun j hj=>by omega⟩,⟨rfl,trivial⟩,trivial⟩),fun x_0 q_0=>iL (fun h1=>⟨(by omega),iQ (fun h2=>(by simp_all)) (fun h2 h3 h4=>⟨(by simp only [aO,aL] at *;omega),(⟨x_0 + 1,⟨by omega,lA q_0.2 fun e=>(by assumption:¬ _) e.symm⟩,by omega,⟨by omega,trivial⟩,(by trivial)⟩)⟩)⟩) (fun h1=>(.inl ⟨rfl,fun j hj=>q_0.2 j (by omega)⟩))⟩
theorem Tryz.GM:bV Tryz.prog Tryz.B.eT Tryz.X 112 [.slice .str, .str] [.int .i64] (fun _=>True) (fun x y=>(y = -1/\∀j,j < x.1.length->nth .str x.1 j≠x.2)\/(0<=y/\y.toNat < x.1.length/\nth .str x.1 y.toNat=x.2)):=
 cK (X:=Tryz.X) (cS Tryz.cU) Tryz.func112 (by kernel_rfl) (fun x=>yg x.1 x.2) (fun x hw hp=>GL x.1 x.2 hw)
noncomputable def Tryz.yh:List (FuncId × (Bool × bR)):=[(112,(true,iX [.slice .str, .str] [.int .i64] (fun _=>True) (fun x y=>(y = -1/\∀j,j < x.1.length->nth .str x.1 j≠x.2)\/(0<=y/\y.toNat < x.1.length/\nth .str x.1 y.toNat=x.2))))]
theorem Tryz.Cs:bZ Tryz.prog Tryz.B Tryz.X Tryz.yh:=
 aW (eN Tryz.GM) (cS Tryz.cU)
theorem Bk (l:List (List UInt8)) (s:List UInt8) (hw:gI [.slice .str, .str] (l,s)):(dR Tryz.B Tryz.yh Tryz.f78 [] [.slice .str, .str] [.bool] (fun x y=>y=(fun x=>x.1.any (· == x.2)) x) (l,s)).holds:=by
 refine holds_of (p:=
  (True)/\(∀x_0:Int,(((x_0=(-1:Int)/\∀(j:Nat),j < List.length l->nth Ty.str l j≠s)\/(0:Int)<=x_0/\Int.toNat x_0 < List.length l/\nth Ty.str l (Int.toNat x_0)=s)->(decide (x_0>=(0:Int))=List.any l fun (x:List UInt8)=>x == s)))) (by kernel_rfl) ?_
 exact ⟨trivial,fun x_0 q_0=>(contains_of q_0)⟩
theorem Tryz.sL:bV Tryz.prog Tryz.B.eT Tryz.X 78 [.slice .str, .str] [.bool] (fun _=>True) (fun x y=>y=(fun x=>x.1.any (· == x.2)) x):=
 cK (X:=Tryz.X) Tryz.Cs Tryz.func78 (by kernel_rfl) (fun _=>[]) (fun x hw hp=>Bk x.1 x.2 hw)
noncomputable def Tryz.yi:List (FuncId × (Bool × bR)):=[(127,(false,iM Tryz.B [] Tryz.f127 []))]
theorem Tryz.Ct:bZ Tryz.prog Tryz.B Tryz.X Tryz.yi:=
 aW (iz (cS Tryz.cU) Tryz.func127 (by kernel_rfl) []) (cS Tryz.cU)
def yj:dE:=[(0,fun st=>{X:=Nat,inv:=fun i=>i<=(dF (.slice aI) st 0).length/\∀j,j < i->(nth aI (dF (.slice aI) st 0) j).1≠(Kg aI st (IV st 1 0)).1,bW:=fun i=>(dF (.slice aI) st 0).length - i,bJ:=fun i=>[(8,sI i)],bL:=[0,1,7]})]
noncomputable def Tryz.Dt:List (FuncId × (Bool × bR)):=[(143,(false,iM Tryz.B Tryz.yi Tryz.f143 yj))]
theorem Tryz.GN:bZ Tryz.prog Tryz.B Tryz.X Tryz.Dt:=
 aW (iz Tryz.Ct Tryz.func143 (by kernel_rfl) yj) (cS Tryz.cU)
noncomputable def Tryz.Du:List (FuncId × (Bool × bR)):=[(76,(true,aS [.str] [.err] (fun _=>True) (fun s=>aP (aK s)))),
 (99,(true,aS [.str] [.int .i64] (fun _=>True) (fun s=>aK s))),
 (21,(true,aS [.err] [.int .i64] (fun _=>True) (fun e=>eS e))),
 (126,(false,iM Tryz.B Tryz.Dt Tryz.f126 []))]
theorem Tryz.GO:bZ Tryz.prog Tryz.B Tryz.X Tryz.Du:=
 aW (aE Tryz.ja) (aW (aE Tryz.eX) (aW (aE Tryz.hZ) (aW (iz Tryz.GN Tryz.func126 (by kernel_rfl) []) (cS Tryz.cU))))
def wx (o:D aA):dE:=[(0,fun st=>{X:=Nat,inv:=fun i=>iS o.2.1.length o.2.2.1 i,bW:=fun i=>o.2.2.1.length - i,bJ:=fun i=>[(9,sI i)],bL:=[1,7,8]})]
theorem Cu (o:D aA) (hw:gI [aA] o):(dR Tryz.B Tryz.Du Tryz.f107 (wx o) [aA] [.err] (fun x y=>y=(fun o=>aP (eY o.2.1.length [] o.2.2.1)) x) o).holds:=by
 refine holds_of (p:=
  let za:=o.2.2.1
  let zb:=List.length za
  let zc:=List.length o.2.1
  let zd:=fun (x_0:Nat)=>(↑x_0:Int)
  let ze:=fun (x_0:Nat)=>(0:Int)<=zd x_0
  let zf:=fun (x_0:Nat)=>(nth aI za x_0).1
  let zg:=aP (eY zc (@List.nil (List UInt8 × Int × Bool × Unit)) za)
  let zh:=fun (x_0:Nat)=>(nth aI za x_0).2.1
  let zi:=aV.no (1:Int)=zg
  let zj:=fun (x_0:Nat)=>List.drop (0:Nat) (List.take x_0 za)
  let zk:=fun (x_0:Nat)=>List.length (zj x_0)
  let zl:=aV.no (3:Int)=zg
  let zm:=(o.1=o.1/\o.2.1=o.2.1/\za=za/\o.2.2.2.1=o.2.2.2.1/\True)/\True
  let zn:=fun (x_0:Nat)=>((aO (zd x_0))->((aO (1:Int))->(aO (zd x_0 + (1:Int)))/\(∃(x':Nat),iS zc za x'/\zb - x' < zb - x_0/\(zd x_0 + (1:Int)=(↑x':Int)/\True)/\zm)))
  ((zb<=aL)->(∃(x:Nat),iS zc za x/\((0:Int)=(↑x:Int)/\True)/\True)/\(∀x_0:Nat,((iS zc za x_0)->(((decide (zd x_0 < (↑zb:Int)))=true->(ze x_0/\zd x_0 < (↑zb:Int))/\(True)/\(((!aV.isNil (aP (aK (zf x_0))))=true->(aP (aK (zf x_0))=zg))/\((!aV.isNil (aP (aK (zf x_0))))=false->(((decide (zh x_0 < (0:Int)))=true->(zi))/\((decide (zh x_0 < (0:Int)))=false->((zc<=aL)->(((decide (zh x_0>=(↑zc:Int)))=true->(zi))/\((decide (zh x_0>=(↑zc:Int)))=false->((0:Int)<=(0:Int)/\ze x_0/\zd x_0<=(↑zb:Int))/\((zk x_0<=aL)->(∃(x:Nat),(x<=zk x_0/\∀(j:Nat),j < x->(nth aI (zj x_0) j).1≠zf x_0)/\((0:Int)=(↑x:Int)/\True)/\True)/\(∀x_1:Nat,((x_1<=zk x_0/\∀(j:Nat),j < x_1->(nth aI (zj x_0) j).1≠zf x_0)->(((decide (zd x_1 < (↑(zk x_0):Int)))=true->(ze x_1/\zd x_1 < (↑(zk x_0):Int))/\((((nth aI (zj x_0) x_1).1 == zf x_0)=true->(((decide (zd x_1>=(0:Int)))=true->(zl))/\((decide (zd x_1>=(0:Int)))=false->(zn x_0))))/\(((nth aI (zj x_0) x_1).1 == zf x_0)=false->((aO (zd x_1))->((aO (1:Int))->(aO (zd x_1 + (1:Int)))/\(∃(x':Nat),(x'<=zk x_0/\∀(j:Nat),j < x'->(nth aI (zj x_0) j).1≠zf x_0)/\zk x_0 - x' < zk x_0 - x_1/\(zd x_1 + (1:Int)=(↑x':Int)/\True)/\(zf x_0=zf x_0/\zh x_0=zh x_0/\(nth aI za x_0).2.2.1=(nth aI za x_0).2.2.1/\True)/\zm))))))/\((decide (zd x_1 < (↑(zk x_0):Int)))=false->(((decide ((-1:Int)>=(0:Int)))=true->(zl))/\((decide ((-1:Int)>=(0:Int)))=false->(zn x_0))))))))))))))))/\((decide (zd x_0 < (↑zb:Int)))=false->(aV.nil=zg))))))) (by kernel_rfl) ?_
 dsimp -iota -proj -eta only
 refine fun h0=>⟨(⟨0, .zero _ _,⟨rfl,trivial⟩,trivial⟩),fun x_0 q_0=>iL (fun h1=>⟨?a,trivial,iB (fun h2=>(by rw [q_0.fault (by omega) (nE (fY _) h2)])) (fun h2=>iL (fun h3=>(by rw [q_0.out (by omega) (mT h2) (.inl (by omega))];rfl)) (fun h3 h4=>iE (fun h5=>(by rw [q_0.out (by omega) (mT h2) (.inr (by omega))];rfl)) (fun h5=>⟨?b,fun h6=>⟨(⟨0,⟨by omega,fun j hj=>by omega⟩,⟨rfl,trivial⟩,trivial⟩),fun x_1 q_1=>iL (fun h7=>⟨?c,iQ (fun h8=>⟨fun h9=>(by rw [xV q_0.le] at h7;rw [xU (i:=x_0) (j:=x_1) (by omega)] at h8;rw [q_0.dup (by omega) (mT h2) (fun h=>h.elim (fun h=>absurd h (Int.not_lt.2 h3)) (fun h=>absurd h (Int.not_le.2 h5))) (AE (t:=aI) (j:=x_1) (by omega) q_0.le (by simpa using h8))];rfl),fun h9=>absurd (show true=false from h9) (by decide)⟩) (fun h8 h9 h10=>⟨?d,(⟨x_1 + 1,⟨by omega,lA q_1.2 (by assumption)⟩,by omega,⟨by omega,trivial⟩,(by trivial)⟩)⟩)⟩) (fun h7=>⟨fun h8=>absurd (show false=true from h8) (by decide),fun h8 h9 h10=>⟨?e,(by have hx:=xV q_0.le;exact ⟨x_0 + 1,q_0.next (by omega) (mT h2) (fun h=>h.elim (fun h=>absurd h (Int.not_lt.2 h3)) (fun h=>absurd h (Int.not_le.2 h5))) (xL (t:=aI) fun j hj=>by have:=q_1.2 j (by omega);rw [xU hj] at this;simpa using this),by omega,⟨by omega,trivial⟩,(by trivial)⟩)⟩⟩)⟩⟩)))⟩) (fun h1=>(by rw [q_0.done (by omega)];rfl))⟩
 case a|b|c=>omega
 case d|e=>simp only [aO,aL] at *;omega
theorem Tryz.Cv:bV Tryz.prog Tryz.B.eT Tryz.X 107 [aA] [.err] (fun _=>True) (fun x y=>y=(fun o=>aP (eY o.2.1.length [] o.2.2.1)) x):=
 cK (X:=Tryz.X) Tryz.GO Tryz.func107 (by kernel_rfl) (fun x=>wx x) (fun x hw hp=>Cu x hw)
noncomputable def Tryz.Dv:List (FuncId × (Bool × bR)):=[(76,(true,aS [.str] [.err] (fun _=>True) (fun s=>aP (aK s)))),
 (99,(true,aS [.str] [.int .i64] (fun _=>True) (fun s=>aK s))),
 (21,(true,aS [.err] [.int .i64] (fun _=>True) (fun e=>eS e))),
 (106,(true,aS [.int .i64] [.bool] (fun _=>True) (fun n=>gP n)))]
theorem Tryz.GP:bZ Tryz.prog Tryz.B Tryz.X Tryz.Dv:=
 aW (aE Tryz.ja) (aW (aE Tryz.eX) (aW (aE Tryz.hZ) (aW (aE Tryz.Bj) (cS Tryz.cU))))
def Dw (o:D aA):dE:=[(0,fun st=>{X:=Nat,inv:=fun i=>kJ o.2.1.length o.2.2.2.1 i,bW:=fun i=>o.2.2.2.1.length - i,bJ:=fun i=>[(9,sI i)],bL:=[1,7,8]})]
theorem Is (o:D aA) (hw:gI [aA] o):(dR Tryz.B Tryz.Dv Tryz.f108 (Dw o) [aA] [.err] (fun x y=>y=(fun o=>aP (iR o.2.1.length none o.2.2.2.1)) x) o).holds:=by
 refine holds_of (p:=
  let za:=o.2.2.2.1
  let zb:=List.length za
  let zc:=List.length o.2.1
  let zd:=fun (x_0:Nat)=>(↑x_0:Int)
  let ze:=fun (x_0:Nat)=>(nth aR za x_0).1
  let zf:=aP (iR zc none za)
  let zg:=aV.no (1:Int)=zf
  let zh:=fun (x_0:Nat)=>(nth aR za x_0).2.1
  let zi:=aV.no (3:Int)=zf
  let zj:=fun (x_0:Nat)=>zd x_0 - (1:Int)
  let zk:=fun (x_0:Nat)=>((aO (zd x_0))->((aO (1:Int))->(aO (zd x_0 + (1:Int)))/\(∃(x':Nat),kJ zc za x'/\zb - x' < zb - x_0/\(zd x_0 + (1:Int)=(↑x':Int)/\True)/\(o.1=o.1/\o.2.1=o.2.1/\o.2.2.1=o.2.2.1/\za=za/\True)/\True)))
  let zl:=fun (x_0:Nat)=>aP (aK (nth aR za x_0).2.2.2.1)
  let zm:=fun (x_0:Nat)=>(((zh x_0 == (1:Int))=true->(((!(nth aR za x_0).2.2.2.1 == @List.nil UInt8)=true->(zi))/\((!(nth aR za x_0).2.2.2.1 == @List.nil UInt8)=false->((((nth aR za x_0).2.2.2.2.1)=true->(zi))/\(((nth aR za x_0).2.2.2.2.1)=false->(zk x_0))))))/\((zh x_0 == (1:Int))=false->(True)/\(((!aV.isNil (zl x_0))=true->(zl x_0=zf))/\((!aV.isNil (zl x_0))=false->(zk x_0)))))
  ((zb<=aL)->(∃(x:Nat),kJ zc za x/\((0:Int)=(↑x:Int)/\True)/\True)/\(∀x_0:Nat,((kJ zc za x_0)->(((decide (zd x_0 < (↑zb:Int)))=true->((0:Int)<=zd x_0/\zd x_0 < (↑zb:Int))/\(((decide (ze x_0 < (0:Int)))=true->(zg))/\((decide (ze x_0 < (0:Int)))=false->((zc<=aL)->(((decide (ze x_0>=(↑zc:Int)))=true->(zg))/\((decide (ze x_0>=(↑zc:Int)))=false->(True)/\(((!gP (nth aR za x_0).2.2.1)=true->(zg))/\((!gP (nth aR za x_0).2.2.1)=false->(((decide (zh x_0 < (1:Int)))=true->(zi))/\((decide (zh x_0 < (1:Int)))=false->(((decide (zh x_0 > (3:Int)))=true->(zi))/\((decide (zh x_0 > (3:Int)))=false->(((decide (zd x_0 > (0:Int)))=true->((aO (zd x_0))->((aO (1:Int))->(aO (zj x_0))/\((0:Int)<=zj x_0/\zj x_0 < (↑zb:Int))/\(((decide ((nth aR za (Int.toNat (zj x_0))).1>=ze x_0))=true->(zi))/\((decide ((nth aR za (Int.toNat (zj x_0))).1>=ze x_0))=false->(zm x_0))))))/\((decide (zd x_0 > (0:Int)))=false->(zm x_0)))))))))))))))/\((decide (zd x_0 < (↑zb:Int)))=false->(aV.nil=zf))))))) (by kernel_rfl) ?_
 dsimp -iota -proj -eta only
 refine fun h0=>⟨(⟨0, .zero _ _,⟨rfl,trivial⟩,trivial⟩),fun x_0 q_0=>iL (fun h1=>⟨?a,iL (fun h2 => ?b) (fun h2 h3=>iE (fun h4 => ?c) (fun h4=>⟨trivial,iB (fun h5 => ?d) (fun h5=>iL (fun h6 => ?e) (fun h6=>iL (fun h7 => ?f) (fun h7=>iL (fun h8 h9 h10=>⟨?g,?h,iE (fun h11 => ?i) (fun h11=>iQ (fun h12=>⟨fun h13 => ?j,fun h13=>⟨fun h14 => ?k,fun h14 h15 h16=>⟨?l,?m⟩⟩⟩) (fun h12=>⟨trivial,iB (fun h13=>(by rw [q_0.fault (by omega) (f:=aK (nth aR o.2.2.2.1 x_0).2.2.2.1) (by unfold kj lC lh;grind) (by have:=nE (fY _) h13;omega)])) (fun h13 h14 h15=>⟨?n,(by have:=aZ.1 h13;exact ⟨x_0 + 1,q_0.next (by omega) (by unfold kj lC lh;grind),by omega,⟨by omega,trivial⟩,(by trivial)⟩)⟩)⟩))⟩) (fun h8=>iQ (fun h9=>⟨fun h10 => ?o,fun h10=>⟨fun h11 => ?p,fun h11 h12 h13=>⟨?q,?r⟩⟩⟩) (fun h9=>⟨trivial,iB (fun h10=>(by rw [q_0.fault (by omega) (f:=aK (nth aR o.2.2.2.1 x_0).2.2.2.1) (by unfold kj lC lh;grind) (by have:=nE (fY _) h10;omega)])) (fun h10 h11 h12=>⟨?s,(by have:=aZ.1 h10;exact ⟨x_0 + 1,q_0.next (by omega) (by unfold kj lC lh;grind),by omega,⟨by omega,trivial⟩,(by trivial)⟩)⟩)⟩)))))⟩))⟩) (fun h1=>(by rw [q_0.done (by omega)];rfl))⟩
 case a|h=>omega
 case b|c|d=>rw [q_0.fault (by omega) (f:=1) (by unfold kj;grind) (by decide)];rfl
 case e|f|i=>rw [q_0.fault (by omega) (f:=3) (by unfold kj lC lh;grind) (by decide)];rfl
 case g|n|s=>simp only [aO,aL] at *;omega
 case j|k=>
  simp only [bl,reduceCtorEq] at h13
  rw [q_0.fault (by omega) (f:=3) (by unfold kj lC lh;grind) (by decide)];rfl
 case l=>
  simp only [bl,reduceCtorEq] at h13
  simp only [aO,aL] at *;omega
 case m=>
  simp only [bl,reduceCtorEq] at h13
  exact ⟨x_0 + 1,q_0.next (by omega) (by unfold kj lC lh;grind),by omega,⟨by omega,trivial⟩,(by trivial)⟩
 case o|p=>
  simp only [bl,reduceCtorEq] at h10
  rw [q_0.fault (by omega) (f:=3) (by unfold kj lC lh;grind) (by decide)];rfl
 case q=>
  simp only [bl,reduceCtorEq] at h10
  simp only [aO,aL] at *;omega
 case r=>
  simp only [bl,reduceCtorEq] at h10
  exact ⟨x_0 + 1,q_0.next (by omega) (by unfold kj lC lh;grind),by omega,⟨by omega,trivial⟩,(by trivial)⟩
theorem Tryz.It:bV Tryz.prog Tryz.B.eT Tryz.X 108 [aA] [.err] (fun _=>True) (fun x y=>y=(fun o=>aP (iR o.2.1.length none o.2.2.2.1)) x):=
 cK (X:=Tryz.X) Tryz.GP Tryz.func108 (by kernel_rfl) (fun x=>Dw x) (fun x hw hp=>Is x hw)
noncomputable def Tryz.yk:List (FuncId × (Bool × bR)):=[(76,(true,aS [.str] [.err] (fun _=>True) (fun s=>aP (aK s)))),
 (99,(true,aS [.str] [.int .i64] (fun _=>True) (fun s=>aK s))),
 (21,(true,aS [.err] [.int .i64] (fun _=>True) (fun e=>eS e))),
 (78,(true,aS [.slice .str, .str] [.bool] (fun _=>True) (fun x=>x.1.any (· == x.2)))),
 (106,(true,aS [.int .i64] [.bool] (fun _=>True) (fun n=>gP n))),
 (107,(true,aS [aA] [.err] (fun _=>True) (fun o=>aP (eY o.2.1.length [] o.2.2.1)))),
 (108,(true,aS [aA] [.err] (fun _=>True) (fun o=>aP (iR o.2.1.length none o.2.2.2.1))))]
theorem Tryz.Cw:bZ Tryz.prog Tryz.B Tryz.X Tryz.yk:=
 aW (aE Tryz.ja) (aW (aE Tryz.eX) (aW (aE Tryz.hZ) (aW (aE Tryz.sL) (aW (aE Tryz.Bj) (aW (aE Tryz.Cv) (aW (aE Tryz.It) (cS Tryz.cU)))))))
def yl (o:D aA):dE:=[
 (0,fun st=>{X:=Nat,inv:=fun i=>il o.1 i,bW:=fun i=>o.1.length - i,bJ:=fun i=>[(41,sI i)],bL:=[1,39,40]}),
 (2,fun st=>{X:=Nat,inv:=fun i=>ji o.2.1 i,bW:=fun i=>o.2.1.length - i,bJ:=fun i=>[(62,sI i)],bL:=[1,60,61]})]
theorem GQ (o:D aA) (hw:gI [aA] o):(dR Tryz.B Tryz.yk Tryz.f70 (yl o) [aA] [.err] (fun x y=>y=(fun o=>aP (cD o)) x) o).holds:=by
 refine holds_of (p:=
  let za:=List.length o.1
  let zb:=(↑za:Int)
  let zc:=aP (cD o)
  let zd:=aV.no (2:Int)=zc
  let ze:=o.2.1
  let zf:=List.length ze
  let zg:=zf<=aL
  let zh:=(↑zf:Int)
  let zi:=o.2.2.1
  let zj:=o.2.2.2.1
  let zk:=fun (x_0:Nat)=>(↑x_0:Int)
  let zl:=fun (x_0:Nat)=>(0:Int)<=zk x_0
  let zm:=fun (x_0:Nat)=>aP (aK (nth Ty.str o.1 x_0))
  let zn:=(o.1=o.1/\ze=ze/\zi=zi/\zj=zj/\True)/\True
  let zo:=aP (eY zf (@List.nil (List UInt8 × Int × Bool × Unit)) zi)
  ((za<=aL)->(((decide (zb > (4:Int)))=true->(zd))/\((decide (zb > (4:Int)))=false->((zg)->(((decide (zh < (1:Int)))=true->(zd))/\((decide (zh < (1:Int)))=false->((zg)->(((decide (zh > (40:Int)))=true->(zd))/\((decide (zh > (40:Int)))=false->((List.length zi<=aL)->(((decide ((↑(List.length zi):Int) > (8:Int)))=true->(zd))/\((decide ((↑(List.length zi):Int) > (8:Int)))=false->((List.length zj<=aL)->(((decide ((↑(List.length zj):Int) > (6:Int)))=true->(zd))/\((decide ((↑(List.length zj):Int) > (6:Int)))=false->((za<=aL)->(∃(x:Nat),il o.1 x/\((0:Int)=(↑x:Int)/\True)/\True)/\(∀x_0:Nat,((il o.1 x_0)->(((decide (zk x_0 < zb))=true->(zl x_0/\zk x_0 < zb)/\(True)/\(((!aV.isNil (zm x_0))=true->(zm x_0=zc))/\((!aV.isNil (zm x_0))=false->((0:Int)<=(0:Int)/\zl x_0/\zk x_0<=zb)/\(True)/\(((List.any (List.drop (0:Nat) (List.take x_0 o.1)) fun (x:List UInt8)=>x == nth Ty.str o.1 x_0)=true->(aV.no (3:Int)=zc))/\((List.any (List.drop (0:Nat) (List.take x_0 o.1)) fun (x:List UInt8)=>x == nth Ty.str o.1 x_0)=false->((aO (zk x_0))->((aO (1:Int))->(aO (zk x_0 + (1:Int)))/\(∃(x':Nat),il o.1 x'/\za - x' < za - x_0/\(zk x_0 + (1:Int)=(↑x':Int)/\True)/\zn))))))))/\((decide (zk x_0 < zb))=false->((zg)->(∃(x:Nat),ji ze x/\((0:Int)=(↑x:Int)/\True)/\True)/\(∀x_1:Nat,((ji ze x_1)->(((decide (zk x_1 < zh))=true->(zl x_1/\zk x_1 < zh)/\(True)/\(((!gP (nth (Ty.int IntKind.i64) ze x_1))=true->(aV.no (1:Int)=zc))/\((!gP (nth (Ty.int IntKind.i64) ze x_1))=false->((aO (zk x_1))->((aO (1:Int))->(aO (zk x_1 + (1:Int)))/\(∃(x':Nat),ji ze x'/\zf - x' < zf - x_1/\(zk x_1 + (1:Int)=(↑x':Int)/\True)/\zn))))))/\((decide (zk x_1 < zh))=false->(True)/\(((!aV.isNil zo)=true->(zo=zc))/\((!aV.isNil zo)=false->(True)/\(aP (iR zf none zj)=zc))))))))))))))))))))))))))))) (by kernel_rfl) ?_
 dsimp -iota -proj -eta only
 refine fun h0=>iL (fun h1 => ?a) (fun h1 h2=>iL (fun h3 => ?b) (fun h3 h4=>iL (fun h5 => ?c) (fun h5 h6=>iL (fun h7 => ?d) (fun h7 h8=>iL (fun h9 => ?e) (fun h9 h10=>⟨?f,fun x_0 q_0=>iL (fun h11=>⟨?g,trivial,iB (fun h12=>(by have hf:=nE (fY _) h12;rw [si (by unfold jC;omega) (q_0.fault (by omega) hf) (by omega)])) (fun h12=>⟨?h,trivial,⟨fun h13=>(by rw [List.drop_zero] at h13;rw [si (by unfold jC;omega) (q_0.dup (by omega) (mT h12) h13) (by decide)];rfl),fun h13 h14 h15=>⟨?i,(by rw [List.drop_zero] at h13;exact ⟨x_0 + 1,q_0.next (by omega) (mT h12) h13,by omega,⟨by omega,trivial⟩,(by trivial)⟩)⟩⟩⟩)⟩) (fun h11 h12=>⟨?j,fun x_1 q_1=>iL (fun h13=>⟨?k,trivial,iB (fun h14=>(by rw [AF (by unfold jC;omega) (q_0.done (by omega)) (q_1.fault (by omega) h14) (by decide)];rfl)) (fun h14 h15 h16=>⟨?l,(⟨x_1 + 1,q_1.next (by omega) h14,by omega,⟨by omega,trivial⟩,(by trivial)⟩)⟩)⟩) (fun h13=>⟨trivial,iB (fun h14=>(by have hf:=nE (sh _ _ _) h14;rw [Cc (by unfold jC;omega) (q_0.done (by omega)) (q_1.done (by omega)) rfl (by omega)])) (fun h14=>⟨trivial,(by rw [Cd (by unfold jC;omega) (q_0.done (by omega)) (q_1.done (by omega)) (aZ.1 h14) rfl])⟩)⟩)⟩)⟩)))))
 case a|b|c|d|e=>rw [Cb (by unfold jC;omega)];rfl
 case f|j=>exact ⟨0, .zero _,⟨rfl,trivial⟩,trivial⟩
 case g|h|k=>omega
 case i|l=>simp only [aO,aL] at *;omega
theorem Tryz.GR:bV Tryz.prog Tryz.B.eT Tryz.X 70 [aA] [.err] (fun _=>True) (fun x y=>y=(fun o=>aP (cD o)) x):=
 cK (X:=Tryz.X) Tryz.Cw Tryz.func70 (by kernel_rfl) (fun x=>yl x) (fun x hw hp=>GQ x hw)
theorem E0 (b:Bool) (hw:gI [.bool] b):(dR Tryz.B [] Tryz.f73 [] [.bool] [.str] (fun x y=>y=(fun b=>fD b) x) b).holds:=by
 refine holds_of (p:=
  (((b)=true->([(119:UInt8),101,97,107,32]=fD b))/\((b)=false->(@List.nil UInt8=fD b)))) (by kernel_rfl) ?_
 refine ⟨fun h0 => ?a,fun h0 => ?b⟩
 case a|b=>cases b <;> first | rfl | simp_all
theorem Tryz.E1:bV Tryz.prog Tryz.B.eT Tryz.X 73 [.bool] [.str] (fun _=>True) (fun x y=>y=(fun b=>fD b) x):=
 cK (X:=Tryz.X) (cS Tryz.cU) Tryz.func73 (by kernel_rfl) (fun _=>[]) (fun x hw hp=>E0 x hw)
end Go.Proofs.YtgokjhhcfemnhacGreatDoor

namespace Go.Proofs.YtgokjhhcfemnhacGreatDoor
open Go.RowKit Go.Vg
theorem Tryz.KR:(Tryz.prog.info? 144).map (·.size)=some 2:=by kernel_rfl
theorem Tryz.K5:liesAt Tryz.prog Tryz.prog.depth 144 (2 / Tryz.prog.cellsOf 144) 0 144 1=true:=by kernel_rfl
set_option maxHeartbeats 1000000 in
set_option maxRecDepth 100000 in
theorem Tryz.E2 (b:Nat) (v:Value) (w:World) (hb:w.heap[b]?=some (.cells #[.pointer (some ⟨b,0,none⟩),v] 144 (0,0))) :
  Calls Tryz.prog 110 #[.pointer (some ⟨b,0,none⟩)] w fun e w'=>e = .returned (.tuple #[])/\w'=w:=by
 obtain ⟨j,hj,_⟩:=Option.map_eq_some_iff.1 Tryz.KR
 have h0:w.cell? ⟨b,0,none⟩=some (.pointer (some ⟨b,0,none⟩)):=by rw [Lib.cell_of_heap hb];rfl
 go_enter Tryz.func110,Tryz.ntmps110
 go_wp2
 rw [Lib.run_neq_ptr_same w _ Tryz.underlying141 hj]
 go_wp2
 go_end0
 exact ⟨rfl,rfl⟩
set_option maxHeartbeats 1000000 in
set_option maxRecDepth 100000 in
theorem Tryz.Cy (b:Nat) (v:Value) (w:World) (hb:w.heap[b]?=some (.cells #[.pointer none,v] 144 (0,0))) :
  Calls Tryz.prog 110 #[.pointer (some ⟨b,0,none⟩)] w fun e w'=>e = .returned (.tuple #[])/\w'=w.setCell ⟨b,0,none⟩ (.pointer (some ⟨b,0,none⟩)):=by
 obtain ⟨j,hj,hjs⟩:=Option.map_eq_some_iff.1 Tryz.KR
 have h0:w.cell? ⟨b,0,none⟩=some (.pointer none):=by rw [Lib.cell_of_heap hb];rfl
 have hsh:w.shape? b=some (144,2):=by simp [World.shape?,hb]
 have hfz:w.frozen? ⟨b,0,none⟩=false:=Lib.frozen_of_heap hb 0
 go_enter Tryz.func110,Tryz.ntmps110
 go_wp2
 rw [Lib.run_to_unsafe w ⟨b,0,none⟩ Tryz.underlying141 Tryz.underlying206 hj (by rw [hjs];decide) hsh (Nat.zero_lt_succ 1)]
 simp only [Result.andThen]
 rw [Oper.upon_value]
 go_wp2
 rw [run_callFunc_extern Tryz.func129 (by kernel_rfl) (by kernel_rfl) (by kernel_rfl) (e:=Extern.AbiNoEscape.same) (by kernel_rfl)]
 rw [Lib.run_noEscape]
 simp only [Result.andThen]
 rw [Oper.upon_value]
 go_wp2
 rw [Lib.run_from_unsafe w ⟨b,0,none⟩ Tryz.underlying206 Tryz.underlying141 hj hsh Tryz.K5]
 simp only [Result.andThen]
 rw [Oper.upon_value]
 go_wp2
 go_end0
 exact ⟨rfl,rfl⟩
theorem Tryz.K6:(Tryz.prog.info? 5).map (fun i=>(i.zero,i.size,i.bytes))=some (some (.int .u8 0),1,1):=by kernel_rfl
theorem Tryz.KX:Tryz.prog.cellsOf 5=1:=by kernel_rfl
set_option maxHeartbeats 2000000 in
set_option maxRecDepth 100000 in
theorem Tryz.GS (b:Nat) (p v:Value) (xs:List Value) (s:ByteArray) (w:World) (hb:w.heap[b]?=some (.cells #[p,v] 144 (0,0))) (hp:p = .pointer none\/p = .pointer (some ⟨b,0,none⟩))
  (hown:w.ownsRow 0 5 1 v xs.length xs) (hne:v.ownBlock≠some b) (hcap:∀a n c,v = .slice (some a) n c->0 < c) (hlen:xs.length + s.size<=140737488355328) :
  Calls Tryz.prog 72 #[.pointer (some ⟨b,0,none⟩), .string s] w fun e w'=>e = .returned (.tuple #[.int .i64 s.size, .nilIface])/\
   ∃v',w'.heap[b]?=some (.cells #[.pointer (some ⟨b,0,none⟩),v'] 144 (0,0))/\w'.ownsRow 0 5 1 v' (xs.length + s.size) (xs++Lib.strCells s)/\v'.ownBlock≠some b/\Kept b v w w'/\
    (∀a n c,v' = .slice (some a) n c->0 < c)/\(∀g,v'.ownBlock=some g->v.ownBlock=some g\/w.heap.size<=g):=by
 obtain ⟨i0,hi,hz0⟩:=Option.map_eq_some_iff.1 Tryz.K6
 simp only [Prod.mk.injEq] at hz0
 obtain ⟨hz0,hz1,hz2⟩:=hz0
 have hchk:Calls Tryz.prog 110 #[.pointer (some ⟨b,0,none⟩)] w fun e w1=>e = .returned (.tuple #[])/\w1.heap[b]?=some (.cells #[.pointer (some ⟨b,0,none⟩),v] 144 (0,0))/\
   w1.os=w.os/\w1.output=w.output/\w1.heap.size=w.heap.size/\∀k,k≠b->w1.heap[k]?=w.heap[k]?:=by
  rcases hp with rfl | rfl
  ·refine (Tryz.Cy b v w hb).mono ?_
   rintro e w1 ⟨rfl,rfl⟩
   exact ⟨rfl,(Kh hb).trans (by simp),rfl,rfl,Go.Deep.nblk_setCell _ _ _,fun k hk=>Go.Deep.blk_setCell_other _ _ _ _ hk⟩
  ·refine (Tryz.E2 b v w hb).mono ?_
   rintro e w1 ⟨rfl,rfl⟩
   exact ⟨rfl,hb,rfl,rfl,rfl,fun _ _=>rfl⟩
 go_enter Tryz.func72,Tryz.ntmps72
 go_wp2_with (go_at_call 110;refine hchk.mono ?_)
 rintro e w1 ⟨rfl,hb1,ho1,hu1,hs1,hk1⟩
 have hown1:w1.ownsRow 0 5 1 v xs.length xs:=by
  refine ⟨hown.1,?_⟩
  rcases hown.2 with h | ⟨g,cap,cur,h1,h2,h3,h4⟩
  ·exact .inl h
  ·refine .inr ⟨g,cap,cur,h1,h2,?_,h4⟩
   rw [hk1 g (fun e=>hne (by rw [h1,e];rfl))];exact h3
 have c0:w1.cell? ⟨b,0,none⟩=some (.pointer (some ⟨b,0,none⟩)):=by rw [Lib.cell_of_heap hb1];rfl
 have c1:w1.cell? ⟨b,1,none⟩=some v:=by rw [Lib.cell_of_heap hb1];rfl
 obtain ⟨v',w2,hrun,hown',hgrow,hcap',hnew⟩:=Jn (t:=142) (u:=9) (ty:=142) Tryz.underlying142 Tryz.underlying9 hi hz0 hz1 hz2 hown1 hcap s hlen
 have hlt:b < w1.heap.size:=(Array.getElem?_eq_some_iff.1 hb1).1
 have hb2:w2.heap[b]?=some (.cells #[.pointer (some ⟨b,0,none⟩),v] 144 (0,0)):=by rw [hgrow.block b hlt (fun e=>hne e.symm)];exact hb1
 have d1:w2.cell? ⟨b,1,none⟩=some v:=by rw [Lib.cell_of_heap hb2];rfl
 have f1:w2.frozen? ⟨b,1,none⟩=false:=Lib.frozen_of_heap hb2 1
 have hne':v'.ownBlock≠some b:=by
  intro e
  rcases hown'.2 with ⟨h,_⟩ | ⟨g',cap,cur,h,_,h3,_⟩
  ·rw [h] at e;cases e
  ·rw [h] at e
   cases e
   rw [hb2] at h3
   cases h3
 have hv1:∃a n c,v' = .slice a n c:=by
  rcases hown'.2 with ⟨h,_⟩ | ⟨g',cap,cur,h,_⟩ <;> exact ⟨_,_,_,h⟩
 obtain ⟨va,vn,vc,rfl⟩:=hv1
 rw [hs1] at hnew
 go_wp2_with (at_builtin;refine tn rfl _ _ 142 9 rfl rfl rfl hrun ?_)
 go_ret2
 refine ⟨rfl, .slice va vn vc,(Kh hb2).trans (by simp),⟨hown'.1,?_⟩,hne',⟨hgrow.os.trans ho1,hgrow.output.trans hu1,?_,fun k h1 h2 h3 => ?_⟩,hcap',hnew⟩
 ·rcases hown'.2 with h | ⟨g,cap,cur,h1,h2,h3,h4⟩
  ·exact .inl h
  ·refine .inr ⟨g,cap,cur,h1,h2,?_,h4⟩
   rw [Go.Deep.blk_setCell_other _ _ _ _ (fun e=>hne' (by rw [h1,show g=b from e];rfl))]
   exact h3
 ·rw [Go.Deep.nblk_setCell];have:=hgrow.size;omega
 ·rw [Go.Deep.blk_setCell_other _ _ _ _ (show k≠b from h2),hgrow.block k (by omega) (fun e=>h3 e.symm),hk1 k h2]
set_option maxHeartbeats 2000000 in
set_option maxRecDepth 100000 in
theorem Tryz.E3 (b:Nat) (p v:Value) (l:List UInt8) (w:World) (hb:w.heap[b]?=some (.cells #[p,v] 144 (0,0))) (hown:w.ownsRow 0 5 1 v l.length (l.map fun c=>Value.int .u8 c.toNat)) (hcap:∀a n c,v = .slice (some a) n c->0 < c) :
  Calls Tryz.prog 75 #[.pointer (some ⟨b,0,none⟩)] w fun e w'=>e = .returned (.string ⟨l.toArray⟩)/\Ec v w w':=by
 have c1:w.drew.cell? ⟨b,1,none⟩=some v:=by
  have:w.drew.heap[b]?=some (.cells #[p,v] 144 (0,0)):=hb
  rw [Lib.cell_of_heap this];rfl
 have mixed:Tryz.prog.follows .mixedOrders=true:=by kernel_rfl
 by_cases h0:l = []
 ·subst h0
  obtain ⟨q,n,c,rfl,hn,hSD⟩:∃q n c,v = .slice q n c/\n=0/\(Builtin.unsafeSliceData_ #[142] 188 #[v]).run Tryz.prog w.drew = .ok (.pointer q) w.drew:=by
   rcases hown.2 with ⟨rfl,_⟩ | ⟨g,cap,cur,rfl,_⟩
   ·exact ⟨none,0,0,rfl,rfl,Lib.run_unsafeSliceData_nil _ _ _ _ _⟩
   ·exact ⟨_,_,_,rfl,rfl,Lib.run_unsafeSliceData_row _ _ _ _ _ _ (by have:=hcap _ _ _ rfl;omega)⟩
  subst hn
  have hUS:(Builtin.unsafeString_ #[188,3] 9 #[.pointer q, .int .i64 0]).run Tryz.prog w.drew = .ok (.string .empty) w.drew:=Lib.run_unsafeString_none _ _ _ _ q
  go_enter Tryz.func75,Tryz.ntmps75
  go_wp2
  go_region_o
  all_goals (go_wp2;go_ret;exact ⟨rfl,rfl,rfl,rfl,fun _ _=>rfl⟩)
 ·have hl0:l.length≠0:=by simpa using h0
  rcases hown.2 with ⟨_,hz⟩ | ⟨g,cap,cur,rfl,hbg,hg,hnc,hcm,hcs,htake⟩
  ·exact absurd hz hl0
  have hSD:(Builtin.unsafeSliceData_ #[142] 188 #[.slice (some ⟨g,0,none⟩) l.length cap]).run Tryz.prog w.drew = .ok (.pointer (some ⟨g,0,none⟩)) w.drew:=Lib.run_unsafeSliceData_row _ _ _ _ _ _ (by omega)
  have hUS:(Builtin.unsafeString_ #[188,3] 9 #[.pointer (some ⟨g,0,none⟩), .int .i64 l.length]).run Tryz.prog w.drew = .ok (.string ⟨l.toArray⟩) (w.drew.freeze ⟨g,0,none⟩ l.length):=by
   refine Lib.run_unsafeString_row w.drew 188 3 9 5 Tryz.underlying188 Tryz.KX g cur.size (by have hg':w.drew.heap[g]?=some (.cells cur 5 (0,0)):=hg;simp [World.shape?,hg']) l h0 (by omega) (by unfold maxLen at hcm;omega) ?_
   intro j x hx
   exact hown.cells (g:=g) rfl j (.int .u8 x.toNat) (by simp [hx])
  go_enter Tryz.func75,Tryz.ntmps75
  go_wp2
  go_region_o
  all_goals (go_wp2;go_ret;exact ⟨rfl,B1⟩)
theorem Tryz.JH (b:Nat) (p _q:Value) (a:Option Addr) (n c:Nat) (w:World) (hb:w.heap[b]?=some (.cells #[p, .slice a n c] 144 (0,0))) :
  Calls Tryz.prog 74 #[.pointer (some ⟨b,0,none⟩)] w fun r w'=>r = .returned (.int .i64 n)/\w'=w:=by
 have c1:w.cell? ⟨b,1,none⟩=some (.slice a n c):=by rw [Lib.cell_of_heap hb];rfl
 go_enter Tryz.func74,Tryz.ntmps74
 go_wp2
 go_ret
 exact ⟨rfl,rfl⟩
theorem Tryz.Cz:dS Tryz.prog Tryz.B.eT Tryz.X 72 false (qO 144 5):=
 vU ⟨Tryz.f72,Tryz.func72,by kernel_rfl,by kernel_rfl⟩ Tryz.GS
theorem Tryz.Bl:dS Tryz.prog Tryz.B.eT Tryz.X 75 false (o7 144 5):=
 uD ⟨Tryz.f75,Tryz.func75,by kernel_rfl,by kernel_rfl⟩ Tryz.E3
theorem Tryz.GU:dS Tryz.prog Tryz.B.eT Tryz.X 74 true (vT 144 5):=
 yI ⟨Tryz.f74,Tryz.func74,by kernel_rfl,by kernel_rfl⟩ Tryz.JH
end Go.Proofs.YtgokjhhcfemnhacGreatDoor

namespace Go.Proofs.YtgokjhhcfemnhacGreatDoor
open Go.Vg Go.Mrl
noncomputable def Tryz.Bm:List (FuncId × (Bool × bR)):=[(76,(true,aS [.str] [.err] (fun _=>True) (fun s=>aP (aK s)))),
 (99,(true,aS [.str] [.int .i64] (fun _=>True) (fun s=>aK s))),
 (21,(true,aS [.err] [.int .i64] (fun _=>True) (fun e=>eS e))),
 (72,(false,qO 144 5)),
 (75,(false,o7 144 5)),
 (74,(true,vT 144 5)),
 (71,(true,aS [.int .i64] [.str] (fun _=>True) (fun n=>Lib.itoa n))),
 (70,(true,aS [aA] [.err] (fun _=>True) (fun o=>aP (cD o)))),
 (73,(true,aS [.bool] [.str] (fun _=>True) (fun b=>fD b)))]
theorem Tryz.E4:bZ Tryz.prog Tryz.B Tryz.X Tryz.Bm:=
 aW (aE Tryz.ja) (aW (aE Tryz.eX) (aW (aE Tryz.hZ) (aW (Tryz.Cz) (aW (Tryz.Bl) (aW (Tryz.GU) (aW (aE Tryz.q8) (aW (aE Tryz.GR) (aW (aE Tryz.E1) (cS Tryz.cU)))))))))
def Bn (o:D aA):dE:=[
 (0,fun st=>{X:=Nat,inv:=fun i=>i<=o.1.length,bW:=fun i=>o.1.length - i,bJ:=fun i=>[(23,sI i)],bL:=[1,2,3,5,6,21,22],aC:=fun i=>[(bG st 5, .ext 2 iV (cG (lO o i),(144:Int),(5:Int),()))],hM:=[bG st 5]}),
 (2,fun st=>{X:=Nat,inv:=fun i=>i<=o.2.1.length,bW:=fun i=>o.2.1.length - i,bJ:=fun i=>[(35,sI i)],bL:=[1,2,3,5,6,33,34],aC:=fun i=>[(bG st 5, .ext 2 iV (cG (ko o i),(144:Int),(5:Int),()))],hM:=[bG st 5]}),
 (4,fun st=>{X:=Nat,inv:=fun i=>i<=o.2.2.1.length,bW:=fun i=>o.2.2.1.length - i,bJ:=fun i=>[(49,sI i)],bL:=[1,2,3,5,6,47,48],aC:=fun i=>[(bG st 5, .ext 2 iV (cG (kq o i),(144:Int),(5:Int),()))],hM:=[bG st 5]}),
 (6,fun st=>{X:=Nat,inv:=fun i=>i<=o.2.2.2.1.length,bW:=fun i=>o.2.2.2.1.length - i,bJ:=fun i=>[(72,sI i)],bL:=[2,3,5,6,70,71],aC:=fun i=>[(bG st 5, .ext 2 iV (cG (gw o i),(144:Int),(5:Int),()))],hM:=[bG st 5]})]
theorem Iu (o:D aA) (hw:gI [aA] o):(dR (nT Tryz.B [41,64,91,85,104,110,123,129]) Tryz.Bm Tryz.f28 (Bn o) [aA] [.str, .err] (fun x y=>y=(fun o=>ir o) x) o).holds:=by
 refine holds_of (p:=
  let za:=aP (cD o)
  let zb:=ir o
  let zc:=List.length o.1
  let zd:=(↑(144:Nat):Int)
  let ze:=fun (b:UInt8)=>(↑(UInt8.toNat b):Int)
  let zf:=((144:Int),(5:Int),())
  let zg:=fun (x_0:Nat)=>(↑x_0:Int)
  let zh:=fun (x_0:Nat)=>(0:Int)<=zg x_0
  let zi:=[(110:UInt8),101,101,100,32]
  let zj:=[(10:UInt8)]
  let zk:=List.length zj
  let zl:=(144:Int)=zd
  let zm:=(↑(5:Nat):Int)
  let zn:=(5:Int)=zm
  let zo:=fun (x_0:Nat)=>List.map ze (lO o x_0)
  let zp:=fun (x_0:Nat)=>zi++nth Ty.str o.1 x_0++zj
  let zq:=fun (x_0:Nat)=>aO (zg x_0)
  let zr:=aO (1:Int)
  let zs:=fun (x_0:Nat)=>zg x_0 + (1:Int)
  let zt:=fun (x_0:Nat)=>aO (zs x_0)
  let zu:=(zd,zm,())
  let zv:=o.2.1
  let zw:=o.2.2.1
  let zx:=o.2.2.2.1
  let zy:=(o.1=o.1/\zv=zv/\zw=zw/\zx=zx/\True)/\True
  let zz:=List.length zv
  let zaa:=[(119:UInt8),111,114,100,32]
  let zab:=fun (x_1:Nat)=>zaa++Lib.itoa (nth (Ty.int IntKind.i64) zv x_1)
  let zac:=fun (x_1:Nat)=>List.map ze (ko o x_1)
  let zad:=List.length zw
  let zae:=fun (x_2:Nat)=>fD (nth aI zw x_2).2.2.1
  let zaf:=[(115:UInt8),121,109,98,111,108,32]
  let zag:=fun (x_2:Nat)=>zae x_2++zaf++(nth aI zw x_2).1
  let zah:=[(32:UInt8)]
  let zai:=List.length zah
  let zaj:=fun (x_2:Nat)=>Lib.itoa (nth aI zw x_2).2.1
  let zak:=fun (x_2:Nat)=>List.map ze (kq o x_2)
  let zal:=fun (x_2:Nat)=>zag x_2++zah++zaj x_2++zj
  let zam:=List.length zx
  let zan:=[(98:UInt8),97,115,101,32]
  let zao:=fun (x_3:Nat)=>Lib.itoa (nth aR zx x_3).1
  let zap:=fun (x_3:Nat)=>Lib.itoa (nth aR zx x_3).2.2.1
  let zaq:=fun (x_3:Nat)=>zan++zao x_3++zah++zap x_3
  let zar:=fun (x_3:Nat)=>List.map ze (gw o x_3)
  let zas:=fun (x_3:Nat)=>List.length (zar x_3)
  let zat:=fun (x_3:Nat)=>fD (nth aR zx x_3).2.2.2.2.1
  let zau:=[(119:UInt8),104,111,108,101,32]
  let zav:=fun (x_3:Nat)=>zat x_3++zau++zao x_3++zah
  let zaw:=fun (x_3:Nat)=>(nth aR zx x_3).2.2.2.1
  let zax:=fun (x_3:Nat)=>zav x_3++zap x_3++zah++zaw x_3
  let zay:=[(110:UInt8),101,97,114,32]
  let zaz:=fun (x_3:Nat)=>zat x_3++zay++zao x_3++zah
  let zba:=fun (x_3:Nat)=>zaz x_3++zap x_3++zah++zaw x_3
  (True)/\(((!aV.isNil za)=true->(([],za)=zb))/\((!aV.isNil za)=false->((zc<=aL)->(∃(x:Nat),x<=zc/\((0:Int)=(↑x:Int)/\True)/\([],zd,(↑(5:TypeId):Int),())=(List.map ze (lO o x),zf)/\True)/\(∀x_0:Nat,((x_0<=zc)->(((decide (zg x_0 < (↑zc:Int)))=true->(zh x_0/\zg x_0 < (↑zc:Int))/\(List.length zi + List.length (nth Ty.str o.1 x_0)<=aL)/\(List.length (zi++nth Ty.str o.1 x_0) + zk<=aL)/\(zl/\zn/\List.length (zo x_0) + List.length (zp x_0)<=(140737488355328:Nat))/\((zq x_0)->((zr)->(zt x_0)/\(∃(x':Nat),x'<=zc/\zc - x' < zc - x_0/\(zs x_0=(↑x':Int)/\True)/\(zo x_0++List.map ze (zp x_0),zu)=(List.map ze (lO o x'),zf)/\zy))))/\((decide (zg x_0 < (↑zc:Int)))=false->((zz<=aL)->(∃(x:Nat),x<=zz/\((0:Int)=(↑x:Int)/\True)/\(zo x_0,zf)=(List.map ze (ko o x),zf)/\True)/\(∀x_1:Nat,((x_1<=zz)->(((decide (zg x_1 < (↑zz:Int)))=true->(zh x_1/\zg x_1 < (↑zz:Int))/\(True)/\(List.length zaa + List.length (Lib.itoa (nth (Ty.int IntKind.i64) zv x_1))<=aL)/\(List.length (zab x_1) + zk<=aL)/\(zl/\zn/\List.length (zac x_1) + List.length (zab x_1++zj)<=(140737488355328:Nat))/\((zq x_1)->((zr)->(zt x_1)/\(∃(x':Nat),x'<=zz/\zz - x' < zz - x_1/\(zs x_1=(↑x':Int)/\True)/\(zac x_1++List.map ze (zab x_1++zj),zu)=(List.map ze (ko o x'),zf)/\zy))))/\((decide (zg x_1 < (↑zz:Int)))=false->((zad<=aL)->(∃(x:Nat),x<=zad/\((0:Int)=(↑x:Int)/\True)/\(zac x_1,zf)=(List.map ze (kq o x),zf)/\True)/\(∀x_2:Nat,((x_2<=zad)->(((decide (zg x_2 < (↑zad:Int)))=true->(zh x_2/\zg x_2 < (↑zad:Int))/\(True)/\(List.length (zae x_2) + List.length zaf<=aL)/\(List.length (zae x_2++zaf) + List.length (nth aI zw x_2).1<=aL)/\(List.length (zag x_2) + zai<=aL)/\(True)/\(List.length (zag x_2++zah) + List.length (zaj x_2)<=aL)/\(List.length (zag x_2++zah++zaj x_2) + zk<=aL)/\(zl/\zn/\List.length (zak x_2) + List.length (zal x_2)<=(140737488355328:Nat))/\((zq x_2)->((zr)->(zt x_2)/\(∃(x':Nat),x'<=zad/\zad - x' < zad - x_2/\(zs x_2=(↑x':Int)/\True)/\(zak x_2++List.map ze (zal x_2),zu)=(List.map ze (kq o x'),zf)/\zy))))/\((decide (zg x_2 < (↑zad:Int)))=false->((zam<=aL)->(∃(x:Nat),x<=zam/\((0:Int)=(↑x:Int)/\True)/\(zak x_2,zf)=(List.map ze (gw o x),zf)/\True)/\(∀x_3:Nat,((x_3<=zam)->(((decide (zg x_3 < (↑zam:Int)))=true->(zh x_3/\zg x_3 < (↑zam:Int))/\((((nth aR zx x_3).2.1 == (1:Int))=true->(True)/\(List.length zan + List.length (zao x_3)<=aL)/\(List.length (zan++zao x_3) + zai<=aL)/\(True)/\(List.length (zan++zao x_3++zah) + List.length (zap x_3)<=aL)/\(List.length (zaq x_3) + zk<=aL)/\(zl/\zn/\zas x_3 + List.length (zaq x_3++zj)<=(140737488355328:Nat))/\((zq x_3)->((zr)->(zt x_3)/\(∃(x':Nat),x'<=zam/\zam - x' < zam - x_3/\(zs x_3=(↑x':Int)/\True)/\(zar x_3++List.map ze (zaq x_3++zj),zu)=(List.map ze (gw o x'),zf)/\zy))))/\(((nth aR zx x_3).2.1 == (1:Int))=false->((((nth aR zx x_3).2.1 == (2:Int))=true->(True)/\(List.length (zat x_3) + List.length zau<=aL)/\(True)/\(List.length (zat x_3++zau) + List.length (zao x_3)<=aL)/\(List.length (zat x_3++zau++zao x_3) + zai<=aL)/\(True)/\(List.length (zav x_3) + List.length (zap x_3)<=aL)/\(List.length (zav x_3++zap x_3) + zai<=aL)/\(List.length (zav x_3++zap x_3++zah) + List.length (zaw x_3)<=aL)/\(List.length (zax x_3) + zk<=aL)/\(zl/\zn/\zas x_3 + List.length (zax x_3++zj)<=(140737488355328:Nat))/\((zq x_3)->((zr)->(zt x_3)/\(∃(x':Nat),x'<=zam/\zam - x' < zam - x_3/\(zs x_3=(↑x':Int)/\True)/\(zar x_3++List.map ze (zax x_3++zj),zu)=(List.map ze (gw o x'),zf)/\zy))))/\(((nth aR zx x_3).2.1 == (2:Int))=false->(True)/\(List.length (zat x_3) + List.length zay<=aL)/\(True)/\(List.length (zat x_3++zay) + List.length (zao x_3)<=aL)/\(List.length (zat x_3++zay++zao x_3) + zai<=aL)/\(True)/\(List.length (zaz x_3) + List.length (zap x_3)<=aL)/\(List.length (zaz x_3++zap x_3) + zai<=aL)/\(List.length (zaz x_3++zap x_3++zah) + List.length (zaw x_3)<=aL)/\(List.length (zba x_3) + zk<=aL)/\(zl/\zn/\zas x_3 + List.length (zba x_3++zj)<=(140737488355328:Nat))/\((zq x_3)->((zr)->(zt x_3)/\(∃(x':Nat),x'<=zam/\zam - x' < zam - x_3/\(zs x_3=(↑x':Int)/\True)/\(zar x_3++List.map ze (zba x_3++zj),zu)=(List.map ze (gw o x'),zf)/\zy))))))))/\((decide (zg x_3 < (↑zam:Int)))=false->(zl/\zn)/\(((decide ((↑(zas x_3):Int) > (1200:Int)))=true->(([],aV.no (2:Int))=zb))/\((decide ((↑(zas x_3):Int) > (1200:Int)))=false->(zl/\zn)/\((bytesOf (zar x_3),aV.nil)=zb)))))))))))))))))))))))))) (by kernel_rfl) ?_
 dsimp -iota -proj -eta only
 refine ⟨trivial,iB (fun h0=>(by rw [xZ (fun e=>by rw [aZ.2 e] at h0;cases h0)])) (fun h0 h1=>⟨(⟨0,by omega,⟨rfl,trivial⟩,rfl,trivial⟩),fun x_0 q_0=>iL (fun h2=>⟨?a,?b,?c,?d,fun h3 h4=>⟨?e,(⟨x_0 + 1,by omega,by omega,⟨by omega,trivial⟩,mU (Gd (by omega)),(by trivial)⟩)⟩⟩) (fun h2 h3=>⟨(⟨0,by omega,⟨rfl,trivial⟩,uH (by rw [Gg,show x_0=o.1.length by omega]),trivial⟩),fun x_1 q_1=>iL (fun h4=>⟨?f,trivial,?g,?h,?i,fun h5 h6=>⟨?j,(⟨x_1 + 1,by omega,by omega,⟨by omega,trivial⟩,mU (Ge (by omega)),(by trivial)⟩)⟩⟩) (fun h4 h5=>⟨(⟨0,by omega,⟨rfl,trivial⟩,uH (by rw [Gh,show x_1=o.2.1.length by omega]),trivial⟩),fun x_2 q_2=>iL (fun h6=>⟨?k,trivial,?l,?m,?n,trivial,?o,?p,?q,fun h7 h8=>⟨?r,(⟨x_2 + 1,by omega,by omega,⟨by omega,trivial⟩,mU (Gf (by omega)),(by trivial)⟩)⟩⟩) (fun h6 h7=>⟨(⟨0,by omega,⟨rfl,trivial⟩,uH (by rw [Gi,show x_2=o.2.2.1.length by omega]),trivial⟩),fun x_3 q_3=>iL (fun h8=>⟨?s,iQ (fun h9=>⟨trivial,?t,?u,trivial,?v,?w,?x,fun h10 h11=>⟨?y,(⟨x_3 + 1,by omega,by omega,⟨by omega,trivial⟩,mU (Et (by omega) h9),(by trivial)⟩)⟩⟩) (fun h9=>iQ (fun h10=>⟨trivial,?z,trivial,?a0,?a1,trivial,?a2,?a3,?a4,?a5,?a6,fun h11 h12=>⟨?a7,(⟨x_3 + 1,by omega,by omega,⟨by omega,trivial⟩,mU (Eu (by omega) h9 h10),(by trivial)⟩)⟩⟩) (fun h10=>⟨trivial,?a8,trivial,?a9,?aa,trivial,?ab,?ac,?ad,?ae,?af,fun h11 h12=>⟨?ag,(⟨x_3 + 1,by omega,by omega,⟨by omega,trivial⟩,mU (Ev (by omega) h9 h10),(by trivial)⟩)⟩⟩))⟩) (fun h8=>⟨?ah,iL (fun h9=>(by rw [v8 (aZ.1 h0) (show x_3=_ by omega) (by simp only [List.length_map] at h9;omega)])) (fun h9=>⟨?ai,(by rw [qV (aZ.1 h0) (show x_3=_ by omega) (by simp only [List.length_map] at h9;omega)];exact congrArg (·,aV.nil) (Ed _))⟩)⟩)⟩)⟩)⟩)⟩)⟩
 case a|f|k|s=>omega
 case b|c=>have a:=xX (kr (aZ.1 h0)) (i:=x_0) (by omega);simp only [List.length_append,List.length_cons,List.length_nil,List.length_map,aL];omega
 case d|i|q|x|a6|af=>exact ⟨rfl,rfl,by first | (have a:=AR (kr (aZ.1 h0)) (i:=x_3) (by omega);simp only [List.length_append,List.length_cons,List.length_nil,List.length_map,aL];omega) | (have a:=AQ (kr (aZ.1 h0)) (i:=x_2) (by omega);simp only [List.length_append,List.length_cons,List.length_nil,List.length_map,aL];omega) | (have a:=xY (kr (aZ.1 h0)) (i:=x_1) (by omega);simp only [List.length_append,List.length_cons,List.length_nil,List.length_map,aL];omega) | (have a:=xX (kr (aZ.1 h0)) (i:=x_0) (by omega);simp only [List.length_append,List.length_cons,List.length_nil,List.length_map,aL];omega)⟩
 case e|j|r|y|a7|ag=>simp only [aO,aL] at *;omega
 case g|h=>have a:=xY (kr (aZ.1 h0)) (i:=x_1) (by omega);simp only [List.length_append,List.length_cons,List.length_nil,List.length_map,aL];omega
 case l|m|n|o|p=>have a:=AQ (kr (aZ.1 h0)) (i:=x_2) (by omega);simp only [List.length_append,List.length_cons,List.length_nil,List.length_map,aL];omega
 case t|u|v|w|z|a0|a1|a2|a3|a4|a5|a8|a9|aa|ab|ac|ad|ae=>have a:=AR (kr (aZ.1 h0)) (i:=x_3) (by omega);simp only [List.length_append,List.length_cons,List.length_nil,List.length_map,aL];omega
 case ah|ai=>trivial
theorem Tryz.Iv:bV Tryz.prog Tryz.B.eT Tryz.X 28 [aA] [.str, .err] (fun _=>True) (fun x y=>y=(fun o=>ir o) x):=
 cK (B:=(nT Tryz.B [41,64,91,85,104,110,123,129])) (X:=Tryz.X) (bZ.hint (l:=[41,64,91,85,104,110,123,129]) Tryz.E4) Tryz.func28 (by kernel_rfl) (fun x=>Bn x) (fun x hw hp=>Iu x hw)
end Go.Proofs.YtgokjhhcfemnhacGreatDoor

namespace Go.Proofs.YtgokjhhcfemnhacGreatDoor
open Go.Vg Go.Mrl
noncomputable def Tryz.Bo:List (FuncId × (Bool × bR)):=[(71,(true,aS [.int .i64] [.str] (fun _=>True) (fun n=>Lib.itoa n))),
 (125,(true,aS [.str] [.int .i64, .err] (fun s=>s.length<=281474976710656) (fun s=>dK s))),
 (130,(true,aS [.str, .str] [.str, .bool] (fun _=>True) (fun x=>(Lib.trimPrefix x.1 x.2,Lib.hasPrefix x.1 x.2)))),
 (103,(true,aS [.str, .str] [.str] (fun _=>True) (fun x=>Lib.trimSuffix x.1 x.2))),
 (102,(true,aS [.str, .str] [.slice .str] (fun x=>x.1.length < 4294967281/\x.2.length=1) (fun x=>parts (IY x.2) x.1))),
 (28,(true,aS [aA] [.str, .err] (fun _=>True) (fun o=>ir o))),
 (111,(false,bQ Tryz.lW [.obj 0, .d .str, .obj 5] (fun a x=>a.1.length<=1000000/\x.2.1.length<=1000000/\x.2.2.1.length<=1000000/\x.2.2.2.1.length<=1000000/\x.2.2.2.2.1.length<=1000000) Tryz.uV))]
theorem Tryz.E5:bZ Tryz.prog Tryz.B Tryz.X Tryz.Bo:=
 aW (aE Tryz.q8) (aW (aE Tryz.uT) (aW (aE Tryz.oK) (aW (aE Tryz.nK) (aW (aE Tryz.uU) (aW (aE Tryz.Iv) (aW (Tryz.Iq) (cS Tryz.cU)))))))
def Bp (s:List UInt8):dE:=[(200000,fun st=>{X:=Nat × D aA × Bool,inv:=fun x=>jk (parts 10 (Lib.trimSuffix s [10])) x.1 x.2.1 x.2.2,bW:=fun x=>List.length (parts 10 (Lib.trimSuffix s [10])) - x.1,bJ:=fun x=>[(19,sI x.1)],bL:=[0,2,3,4,5,17,18],aN:=Tryz.lW,refs:=[(4,0),(5,5)],pd:=fun x=>Gr x.2})]
theorem GV (s:List UInt8) (hw:gI [.str] s):(dR Tryz.B Tryz.Bo Tryz.f77 (Bp s) [.str] [aA, .err] (fun x y=>y=(fun s=>kx s) x) s).holds:=by
 refine holds_of (p:=
  let za:=([],[],[],[],())
  let zb:=kx s
  let zc:=Lib.trimSuffix s [(10:UInt8)]
  let zd:=parts (10:UInt8) zc
  let ze:=@List.nil (List UInt8) = @List.nil (List UInt8)
  let zf:=@List.nil Int = @List.nil Int
  let zg:=@List.nil (List UInt8 × Int × Bool × Unit) = @List.nil (List UInt8 × Int × Bool × Unit)
  let zh:=@List.nil (Int × Int × Int × List UInt8 × Bool × Unit) = @List.nil (Int × Int × Int × List UInt8 × Bool × Unit)
  let zi:=List UInt8
  let zj:=Nat × (List zi × List Int × List (zi × Int × Bool × Unit) × List (Int × Int × Int × zi × Bool × Unit) × Unit) × Bool
  let zk:=(ze/\zf/\zg/\zh/\True)/\zh/\zg/\zf/\ze/\True
  let zl:=!false
  let zm:=(zl && (zl && (zl && (zl && (zl && true)))))=true
  let zn:=fun (x_0:Nat × (List (List UInt8) × List Int × List (List UInt8 × Int × Bool × Unit) × List (Int × Int × Int × List UInt8 × Bool × Unit) × Unit) × Bool)=>(↑x_0.1:Int) < (↑(List.length zd):Int)
  let zo:=fun (x_0:Nat × (List (List UInt8) × List Int × List (List UInt8 × Int × Bool × Unit) × List (Int × Int × Int × List UInt8 × Bool × Unit) × Unit) × Bool)=>x_0.2.1.2.2.1
  let zp:=fun (x_0:Nat × (List (List UInt8) × List Int × List (List UInt8 × Int × Bool × Unit) × List (Int × Int × Int × List UInt8 × Bool × Unit) × Unit) × Bool)=>x_0.2.1.2.2.2.1
  let zq:=fun (x_0:Nat × (List (List UInt8) × List Int × List (List UInt8 × Int × Bool × Unit) × List (Int × Int × Int × List UInt8 × Bool × Unit) × Unit) × Bool)=>eI (H4 ((),x_0.2.1.1,x_0.2.1.2.1,zo x_0,zp x_0,(x_0.2.2,()),())) x_0.2.2 (nth Ty.str zd x_0.1)
  let zr:=fun (x_0:Nat × (List (List UInt8) × List Int × List (List UInt8 × Int × Bool × Unit) × List (Int × Int × Int × List UInt8 × Bool × Unit) × Unit) × Bool)=>(zq x_0).1.2.2.2.1
  let zs:=(za,aV.no (4:Int))=zb
  ((List.length s<=aL)->(((decide ((↑(List.length s):Int) > (1200:Int)))=true->((za,aV.no (2:Int))=zb))/\((decide ((↑(List.length s):Int) > (1200:Int)))=false->(True)/\(List.length zc < (4294967281:Nat)/\List.length [(10:UInt8)]=(1:Nat))/\((List.length zd<=aL)->(((ze/\zf/\zg/\zh/\∃(x':zj),jk zd (Prod.fst x') (Prod.snd x').1 (Prod.snd x').2/\True/\((0:Int)=(↑(Prod.fst x'):Int)/\True)/\zk/\zm/\((),[],[],[],[],(false,()),())=Gr (Prod.snd x')))/\((∀x_0:Nat × (List (List UInt8) × List Int × List (List UInt8 × Int × Bool × Unit) × List (Int × Int × Int × List UInt8 × Bool × Unit) × Unit) × Bool,((jk zd x_0.1 x_0.2.1 x_0.2.2)->(((decide (zn x_0))=true->((0:Int)<=(↑x_0.1:Int)/\zn x_0)/\(x_0.2.1.1=x_0.2.1.1)/\(x_0.2.1.2.1=x_0.2.1.2.1)/\(zo x_0=zo x_0)/\(zp x_0=zp x_0)/\(List.length (nth Ty.str zd x_0.1)<=(1000000:Nat)/\List.length x_0.2.1.1<=(1000000:Nat)/\List.length x_0.2.1.2.1<=(1000000:Nat)/\List.length (zo x_0)<=(1000000:Nat)/\List.length (zp x_0)<=(1000000:Nat))/\((True)->((aO (↑x_0.1:Int))->((aO (1:Int))->(aO ((↑x_0.1:Int) + (1:Int)))/\((zq x_0).1.1=(zq x_0).1.1/\(zq x_0).1.2.1=(zq x_0).1.2.1/\(zq x_0).1.2.2.1=(zq x_0).1.2.2.1/\zr x_0=zr x_0/\∃(x':zj),jk zd (Prod.fst x') (Prod.snd x').1 (Prod.snd x').2/\List.length zd - Prod.fst x' < List.length zd - x_0.1/\((↑x_0.1:Int) + (1:Int)=(↑(Prod.fst x'):Int)/\True)/\zk/\zm/\((),(zq x_0).1.1,(zq x_0).1.2.1,(zq x_0).1.2.2.1,zr x_0,((zq x_0).2,()),())=Gr (Prod.snd x'))))))/\((decide (zn x_0))=false->(True)/\(((x_0.2.2)=true->(zs))/\((x_0.2.2)=false->(((!aV.isNil (ir x_0.2.1).2)=true->(zs))/\((!aV.isNil (ir x_0.2.1).2)=false->(((!(ir x_0.2.1).1 == s)=true->(zs))/\((!(ir x_0.2.1).1 == s)=false->((x_0.2.1,aV.nil)=zb)))))))))))))))))) (by kernel_rfl) ?_
 dsimp -iota -proj -eta only
 refine fun h0=>iL (fun h1=>(EJ (by omega))) (fun h1=>⟨trivial,(by have:=Jv s [10];exact ⟨by omega,rfl⟩),fun h2=>⟨(⟨rfl,rfl,rfl,rfl,(0,cB aA,false),jk.zero _,trivial,⟨rfl,trivial⟩,⟨⟨rfl,rfl,rfl,rfl,trivial⟩,rfl,rfl,rfl,rfl,trivial⟩,rfl,rfl⟩),fun x_0 q_0=>iL (fun h3=>⟨(by omega),rfl,rfl,rfl,rfl,?a,fun h4 h5 h6=>⟨(by simp only [aO,aL] at *;omega),(by exact ⟨rfl,rfl,rfl,rfl,(x_0.1 + 1,eI x_0.2.1 x_0.2.2 (nth .str (parts 10 (Lib.trimSuffix s [10])) x_0.1)),q_0.next (by omega),by simp only;omega,⟨by simp only;omega,trivial⟩,(by trivial),rfl,rfl⟩)⟩⟩) (fun h3=>⟨trivial,⟨fun h4=>(sy q_0 (by omega) (by omega) (.inl h4)),fun h4=>iB (fun h5=>(sy q_0 (by omega) (by omega) (.inr (.inl h5)))) (fun h5=>⟨fun h6 => ?b,fun h6 => ?c⟩)⟩⟩)⟩⟩)
 case a=>
  have hf:=Gt s (by omega);have a0:=q_0.le;have a1:=q_0.l1;have a2:=q_0.l2;have a3:=q_0.l3;have a4:=q_0.l4
  exact ⟨Nat.le_trans (EK (by omega) _) (by decide),by omega,by omega,by omega,by omega⟩
 case b=>
  simp only [bl,reduceCtorEq] at h6
  exact sy q_0 (by omega) (by omega) (.inr (.inr h6))
 case c=>
  simp only [bl,reduceCtorEq] at h6
  exact H6 (by omega) ‹aV.isNil _=true› h6
theorem Tryz.ym:bV Tryz.prog Tryz.B.eT Tryz.X 77 [.str] [aA, .err] (fun _=>True) (fun x y=>y=(fun s=>kx s) x):=
 cK (X:=Tryz.X) Tryz.E5 Tryz.func77 (by kernel_rfl) (fun x=>Bp x) (fun x hw hp=>GV x hw)
end Go.Proofs.YtgokjhhcfemnhacGreatDoor

namespace Go.Proofs.YtgokjhhcfemnhacGreatDoor
open Go.Vg Go.Mrl
noncomputable def Tryz.GW:List (FuncId × (Bool × bR)):=[(47,(false,bQ Tryz.aM [.obj 0, .d .str] (fun _ _=>True) Tryz.jr)),
 (77,(true,aS [.str] [aA, .err] (fun _=>True) (fun s=>kx s))),
 (78,(true,aS [.slice .str, .str] [.bool] (fun _=>True) (fun x=>x.1.any (· == x.2))))]
theorem Tryz.Iw:bZ Tryz.prog Tryz.B Tryz.X Tryz.GW:=
 aW (Tryz.na) (aW (aE Tryz.ym) (aW (aE Tryz.sL) (cS Tryz.cU)))
def Tryz.GX (s:List UInt8) (f:bM):dE:=[
 (0,fun st=>{X:=Nat × List (List UInt8) × List (D aA),inv:=fun y=>jc (aH f) s y.1 y.2.1 y.2.2,bW:=fun y=>7 - y.1,bJ:=fun y=>[(9,sI y.1),(7, .s (.one (.app .str y.2.1 (bG st 7)))),(8, .s (.one (.app aA y.2.2 (bG st 8))))],aC:=fun y=>[(bG st 7, .tok .str y.2.1),(bG st 8, .tok aA y.2.2)],bL:=[0],hM:=[bG st 7,bG st 8]}),
 (2,fun st=>{X:=Nat,inv:=fun k=>k<=List.length (dF (.slice .str) st 50),bW:=fun k=>List.length (dF (.slice .str) st 50) - k,bJ:=fun k=>[(52,sI k),(7, .s (.one (.app .str (dX (dF (.slice .str) st 7) (List.take k (dF (.slice .str) st 50))) (bG st 7))))],aC:=fun k=>[(bG st 7, .tok .str (dX (dF (.slice .str) st 7) (List.take k (dF (.slice .str) st 50))))],bL:=[0,4,5,6,8,9,10,12,13,18,19,20,21,24,25,26,27,28,29,30,31,32,33,34,35,36,37,38,39,40,41,42,43,44,45,46,47,48,49,50,51],hM:=[bG st 7]})]
noncomputable def Tryz.w8:List (Alt Tryz.aM [.obj 0, .d .str]):=[{bP:=Tryz.aM,res:=[.d (.slice .str), .d (.slice aA), .d .err],out:=fun _ x=>x,ret:=fun a x=>((bA (aH x) a.1).1,(bA (aH x) a.1).2.1,aP (bA (aH x) a.1).2.2,())}]
theorem CA (s:List UInt8) (f:bM) (hw:mg [.obj 0, .d .str] (s,())) (hp:(fun _ x=>x.2.1.1.length<=6) (s,()) f):(gW (nT Tryz.B [17]) Tryz.GW Tryz.f31 (Tryz.GX s f) Tryz.aM [.obj 0, .d .str] Tryz.w8 (s,()) f).holds:=by
 refine holds_of (p:=
  let za:=List UInt8
  let zb:=Nat × List za × List (List za × List Int × List (za × Int × Bool × Unit) × List (Int × Int × Int × za × Bool × Unit) × Unit)
  let zc:=aH f
  let zd:=fun (x_0:Nat × List (List UInt8) × List (List (List UInt8) × List Int × List (List UInt8 × Int × Bool × Unit) × List (Int × Int × Int × List UInt8 × Bool × Unit) × Unit))=>(↑x_0.1:Int) < (↑(List.length x_0.2.1):Int)
  let ze:=fun (x_0:Nat × List (List UInt8) × List (List (List UInt8) × List Int × List (List UInt8 × Int × Bool × Unit) × List (Int × Int × Int × List UInt8 × Bool × Unit) × Unit))=>aH f (nth Ty.str x_0.2.1 x_0.1)
  let zf:=bA zc s
  let zg:=(zf.1,zf.2.1,aP zf.2.2,())
  let zh:=fun (x_0:Nat × List (List UInt8) × List (List (List UInt8) × List Int × List (List UInt8 × Int × Bool × Unit) × List (Int × Int × Int × List UInt8 × Bool × Unit) × Unit))=>(bX (ze x_0).1).1.1
  let zi:=fun (x_0:Nat × List (List UInt8) × List (List (List UInt8) × List Int × List (List UInt8 × Int × Bool × Unit) × List (Int × Int × Int × List UInt8 × Bool × Unit) × Unit))=>List.length (zh x_0)
  let zj:=fun (x_0:Nat × List (List UInt8) × List (List (List UInt8) × List Int × List (List UInt8 × Int × Bool × Unit) × List (Int × Int × Int × List UInt8 × Bool × Unit) × Unit)) (x_1:Nat)=>dX x_0.2.1 (List.take x_1 (zh x_0))
  let zk:=aO (1:Int)
  let zl:=fun (x_1:Nat)=>(↑x_1:Int) + (1:Int)
  let zm:=@List.nil (List UInt8) = @List.nil (List UInt8)
  let zn:=C.cX (1:Nat)=C.cX (1:Nat)/\f.1.1=f.1.1/\True
  let zo:=f.2.1=f.2.1
  let zp:=fun (x_0:Nat × List (List UInt8) × List (List (List UInt8) × List Int × List (List UInt8 × Int × Bool × Unit) × List (Int × Int × Int × List UInt8 × Bool × Unit) × Unit))=>x_0.2.2++[(bX (ze x_0).1).1]
  let zq:=@List.nil (List (List UInt8) × List Int × List (List UInt8 × Int × Bool × Unit) × List (Int × Int × Int × List UInt8 × Bool × Unit) × Unit) = @List.nil (List (List UInt8) × List Int × List (List UInt8 × Int × Bool × Unit) × List (Int × Int × Int × List UInt8 × Bool × Unit) × Unit)
  let zr:=fun (x_0:Nat × List (List UInt8) × List (List (List UInt8) × List Int × List (List UInt8 × Int × Bool × Unit) × List (Int × Int × Int × List UInt8 × Bool × Unit) × Unit))=>(zh x_0=zh x_0/\(bX (ze x_0).1).1.2.1=(bX (ze x_0).1).1.2.1/\(bX (ze x_0).1).1.2.2.1=(bX (ze x_0).1).1.2.2.1/\(bX (ze x_0).1).1.2.2.2.1=(bX (ze x_0).1).1.2.2.2.1/\True)/\@List.nil (Int × Int × Int × List UInt8 × Bool × Unit) = @List.nil (Int × Int × Int × List UInt8 × Bool × Unit)/\@List.nil (List UInt8 × Int × Bool × Unit) = @List.nil (List UInt8 × Int × Bool × Unit)/\@List.nil Int = @List.nil Int/\zm/\zn/\zo/\zp x_0=zp x_0/\zq/\zm/\True
  (∃(x:zb),jc zc s (Prod.fst x) (Prod.snd x).1 (Prod.snd x).2/\((0:Int)=(↑(Prod.fst x):Int)/\[s]=(Prod.snd x).1/\@List.nil (List (List UInt8) × List Int × List (List UInt8 × Int × Bool × Unit) × List (Int × Int × Int × List UInt8 × Bool × Unit) × Unit)=(Prod.snd x).2/\True)/\[s]=(Prod.snd x).1/\@List.nil (List (List UInt8) × List Int × List (List UInt8 × Int × Bool × Unit) × List (Int × Int × Int × List UInt8 × Bool × Unit) × Unit)=(Prod.snd x).2/\True)/\(∀x_0:Nat × List (List UInt8) × List (List (List UInt8) × List Int × List (List UInt8 × Int × Bool × Unit) × List (Int × Int × Int × List UInt8 × Bool × Unit) × Unit),((jc zc s x_0.1 x_0.2.1 x_0.2.2)->((List.length x_0.2.1<=aL)->(((decide (zd x_0))=true->((0:Int)<=(↑x_0.1:Int)/\zd x_0)/\(True)/\((True)->(((!aV.isNil (aP (ze x_0).2.2))=true->(True/\f=f/\([],[],aP (ze x_0).2.2,())=zg))/\((!aV.isNil (aP (ze x_0).2.2))=false->(True)/\(((!aV.isNil (aP (bX (ze x_0).1).2))=true->(True/\f=f/\([],[],aP (bX (ze x_0).1).2,())=zg))/\((!aV.isNil (aP (bX (ze x_0).1).2))=false->(x_0.2.2=x_0.2.2/\List.length x_0.2.2 + List.length [(bX (ze x_0).1).1]<=(1000000000:Nat))/\((zi x_0<=aL)->(∃(x:Nat),x<=zi x_0/\((0:Int)=(↑x:Int)/\x_0.2.1=dX x_0.2.1 (List.take x (zh x_0))/\True)/\x_0.2.1=dX x_0.2.1 (List.take x (zh x_0))/\True)/\(∀x_1:Nat,((x_1<=zi x_0)->(((decide ((↑x_1:Int) < (↑(zi x_0):Int)))=true->((0:Int)<=(↑x_1:Int)/\(↑x_1:Int) < (↑(zi x_0):Int))/\(True)/\(((!List.any (zj x_0 x_1) fun (x:za)=>x == nth Ty.str (zh x_0) x_1)=true->(zj x_0 x_1=zj x_0 x_1/\List.length (zj x_0 x_1) + List.length [nth Ty.str (zh x_0) x_1]<=(1000000000:Nat))/\((aO (↑x_1:Int))->((zk)->(aO (zl x_1))/\(∃(x':Nat),x'<=zi x_0/\zi x_0 - x' < zi x_0 - x_1/\(zl x_1=(↑x':Int)/\zj x_0 x_1++[nth Ty.str (zh x_0) x_1]=dX x_0.2.1 (List.take x' (zh x_0))/\True)/\zj x_0 x_1++[nth Ty.str (zh x_0) x_1]=dX x_0.2.1 (List.take x' (zh x_0))/\zr x_0))))/\((!List.any (zj x_0 x_1) fun (x:za)=>x == nth Ty.str (zh x_0) x_1)=false->((aO (↑x_1:Int))->((zk)->(aO (zl x_1))/\(∃(x':Nat),x'<=zi x_0/\zi x_0 - x' < zi x_0 - x_1/\(zl x_1=(↑x':Int)/\zj x_0 x_1=dX x_0.2.1 (List.take x' (zh x_0))/\True)/\zj x_0 x_1=dX x_0.2.1 (List.take x' (zh x_0))/\zr x_0))))))/\((decide ((↑x_1:Int) < (↑(zi x_0):Int)))=false->((aO (↑x_0.1:Int))->((zk)->(aO ((↑x_0.1:Int) + (1:Int)))/\(∃(x':zb),jc zc s (Prod.fst x') (Prod.snd x').1 (Prod.snd x').2/\(7:Nat) - Prod.fst x' < (7:Nat) - x_0.1/\((↑x_0.1:Int) + (1:Int)=(↑(Prod.fst x'):Int)/\zj x_0 x_1=(Prod.snd x').1/\zp x_0=(Prod.snd x').2/\True)/\zj x_0 x_1=(Prod.snd x').1/\zp x_0=(Prod.snd x').2/\zq/\zm/\zn/\zo/\True))))))))))))))/\((decide (zd x_0))=false->(True/\f=f/\(x_0.2.1,x_0.2.2,aV.nil,())=zg))))))) (by kernel_rfl) ?_
 dsimp -iota -proj -eta only
 refine ⟨(⟨(0,[s],[]),jc.zero _ _,⟨rfl,rfl,rfl,trivial⟩,(by trivial)⟩),fun x_0 q_0 h0=>iL (fun h1=>⟨?a,trivial,fun h2=>iB (fun h3=>(by rw [q_0.H8 (gL hp) (by omega) (fun e=>by rw [aZ.2 e] at h3;cases h3)];exact ⟨trivial,rfl,rfl⟩)) (fun h3=>⟨trivial,iB (fun h4=>(by rw [q_0.Jw (by omega) (aZ.1 h3) (fun e=>by rw [aZ.2 e] at h4;cases h4)];exact ⟨trivial,rfl,rfl⟩)) (fun h4=>⟨⟨rfl,q_0.KW⟩,fun h5=>⟨(⟨0,Nat.zero_le _,⟨rfl,rfl,trivial⟩,rfl,trivial⟩),fun x_1 q_1=>iL (fun h6=>⟨?b,trivial,iB (fun h7=>⟨⟨rfl,q_0.Kp (gL hp) (w4 (aZ.1 h3) (aZ.1 h4)) _⟩,fun h8 h9=>⟨?c,(⟨x_1 + 1,by omega,by omega,⟨by omega,Dh (by omega) (by assumption),trivial⟩,Dh (by omega) (by assumption),(by trivial)⟩)⟩⟩) (fun h7 h8 h9=>⟨?d,(⟨x_1 + 1,by omega,by omega,⟨by omega,Di (by omega) (by assumption),trivial⟩,Di (by omega) (by assumption),(by trivial)⟩)⟩)⟩) (fun h6 h7 h8=>⟨?e,(by exact ⟨(x_0.1 + 1,_,_),q_0.next (gL hp) (by omega) (w4 (aZ.1 h3) (aZ.1 h4)),by have:=q_0.room (gL hp) (by omega) (w4 (aZ.1 h3) (aZ.1 h4));simp only;omega,⟨by simp only;omega,Dj (by omega),rfl,trivial⟩,Dj (by omega),rfl,(by trivial)⟩)⟩)⟩⟩)⟩)⟩) (fun h1=>(by rw [q_0.done (by omega)];exact ⟨trivial,rfl,rfl⟩))⟩
 case a|b=>omega
 case c|d|e=>simp only [aO,aL] at *;omega
theorem Tryz.CB:dS Tryz.prog Tryz.B.eT Tryz.X 31 false (bQ Tryz.aM [.obj 0, .d .str] (fun _ x=>x.2.1.1.length<=6) Tryz.w8):=
 cZ (B:=(nT Tryz.B [17])) (X:=Tryz.X) (bZ.hint (l:=[17]) Tryz.Iw) Tryz.func31 (by kernel_rfl) (fun (a:CD [.obj 0, .d .str]) (x:PD Tryz.aM)=>Tryz.GX a.1 x) (fun (a:CD [.obj 0, .d .str]) (x:PD Tryz.aM) hw hp=>CA a.1 x hw hp)
end Go.Proofs.YtgokjhhcfemnhacGreatDoor

namespace Go.Proofs.YtgokjhhcfemnhacGreatDoor
open Go.Vg Go.Mrl
theorem Ix (n:Int) (hw:gI [.int .i64] n) (hp:(fun n=>0<=n/\n<=1000000) n):(dR Tryz.B [] Tryz.f132 [] [.int .i64] [.int .i64] (fun x y=>y=(fun n=>eJ n) x) n).holds:=by
 refine holds_of (p:=
  let za:=aO (16:Int)
  let zb:=aO (n + (16:Int))
  let zc:=n + (16:Int) - (1:Int)
  ((aO n)->((za)->(zb)/\((zb)->((aO (1:Int))->(aO zc)/\((16:Int)≠(0:Int))/\(∀x_0:Int,((x_0=Int.tdiv zc (16:Int))->((aO zc)->((za)->(aO x_0)/\(∀x_1:Int,((x_1=x_0 * (16:Int))->((aO x_0)->((za)->(aO x_1)/\(x_1=eJ n)))))))))))))) (by kernel_rfl) ?_
 dsimp -iota -proj -eta only
 refine fun h0 h1=>⟨?a,fun h2 h3=>⟨?b,(by omega),fun x_0 q_0 h4 h5=>⟨?c,fun x_1 q_1 h6 h7=>⟨?d,?e⟩⟩⟩⟩
 case a|b=>simp only [aO] at *;omega
 case c|d|e=>subst_vars;rw [Int.tdiv_eq_ediv_of_nonneg (by omega)];(try unfold eJ);(try simp only [aO]);omega
theorem Tryz.Iy:bV Tryz.prog Tryz.B.eT Tryz.X 132 [.int .i64] [.int .i64] (fun n=>0<=n/\n<=1000000) (fun x y=>y=(fun n=>eJ n) x):=
 cK (X:=Tryz.X) (cS Tryz.cU) Tryz.func132 (by kernel_rfl) (fun _=>[]) (fun x hw hp=>Ix x hw hp)
theorem Iz (a:Int × Int × Unit) (b:Int × Int × Unit) (hw:gI [aU,aU] (a,b)) (hp:(fun x=>kN x.1/\kN x.2) (a,b)):(dR Tryz.B [] Tryz.f151 [] [aU,aU] [.bool] (fun x y=>y=(fun x=>fO x.1 x.2) x) (a,b)).holds:=by
 refine holds_of (p:=
  let za:=true=fO a b
  let zb:=a.1 + a.2.1
  let zc:=b.1 + b.2.1
  (((decide (a.2.1<=(0:Int)))=true->(za))/\((decide (a.2.1<=(0:Int)))=false->(((decide (b.2.1<=(0:Int)))=true->(za))/\((decide (b.2.1<=(0:Int)))=false->((aO a.1)->((aO a.2.1)->(aO zb)/\(((decide (zb<=b.1))=true->(za))/\((decide (zb<=b.1))=false->((aO b.1)->((aO b.2.1)->(aO zc)/\(decide (zc<=a.1)=fO a b)))))))))))) (by kernel_rfl) ?_
 dsimp -iota -proj -eta only
 dsimp only at hp
 simp only [kN] at hp
 refine iE (fun h0 => ?a) (fun h0=>iE (fun h1 => ?b) (fun h1 h2 h3=>⟨?c,iE (fun h4 => ?d) (fun h4 h5 h6=>⟨?e,?f⟩)⟩))
 case a|b|d|f=>rw [Bool.eq_iff_iff];simp only [fO,Bool.or_eq_true,decide_eq_true_eq,true_iff];omega
 case c|e=>simp only [aO] at *;omega
theorem Tryz.Bq:bV Tryz.prog Tryz.B.eT Tryz.X 151 [aU,aU] [.bool] (fun x=>kN x.1/\kN x.2) (fun x y=>y=(fun x=>fO x.1 x.2) x):=
 cK (X:=Tryz.X) (cS Tryz.cU) Tryz.func151 (by kernel_rfl) (fun _=>[]) (fun x hw hp=>Iz x.1 x.2 hw hp)
noncomputable def Tryz.yn:List (FuncId × (Bool × bR)):=[(151,(true,aS [aU,aU] [.bool] (fun x=>kN x.1/\kN x.2) (fun x=>fO x.1 x.2)))]
theorem Tryz.CC:bZ Tryz.prog Tryz.B Tryz.X Tryz.yn:=
 aW (aE Tryz.Bq) (cS Tryz.cU)
noncomputable def Tryz.Br:List (FuncId × (Bool × bR)):=[(150,(false,iM Tryz.B Tryz.yn Tryz.f150 []))]
theorem Tryz.E6:bZ Tryz.prog Tryz.B Tryz.X Tryz.Br:=
 aW (iz Tryz.CC Tryz.func150 (by kernel_rfl) []) (cS Tryz.cU)
def yp:dE:=[(0,fun st=>{X:=Nat,inv:=fun i=>i<=(dF (.slice aU) st 0).length/\∀j,j < i->fO (Kg aU st (IV st 1 0)) (nth aU (dF (.slice aU) st 0) j)=true,bW:=fun i=>(dF (.slice aU) st 0).length - i,bJ:=fun i=>[(8,sI i)],bL:=[0,1,7]})]
noncomputable def Tryz.Bs:List (FuncId × (Bool × bR)):=[(168,(false,iM Tryz.B Tryz.Br Tryz.f168 yp))]
theorem Tryz.E7:bZ Tryz.prog Tryz.B Tryz.X Tryz.Bs:=
 aW (iz Tryz.E6 Tryz.func168 (by kernel_rfl) yp) (cS Tryz.cU)
noncomputable def Tryz.Bt:List (FuncId × (Bool × bR)):=[(149,(false,iM Tryz.B Tryz.Bs Tryz.f149 []))]
theorem Tryz.E8:bZ Tryz.prog Tryz.B Tryz.X Tryz.Bt:=
 aW (iz Tryz.E7 Tryz.func149 (by kernel_rfl) []) (cS Tryz.cU)
theorem JI (r:Int × Int × Unit) (l:List (D aU)) (hw:gI [aU, .slice aU] (r,l)) (hp:(fun x=>kN x.1/\∀y∈x.2,kN y) (r,l)):(dR Tryz.B Tryz.Bt Tryz.f133 [] [aU, .slice aU] [.bool] (fun x y=>y=(fun x=>gB x.1 x.2) x) (r,l)).holds:=by
 refine holds_of (p:=
  let za:=List.length l
  ((za<=aL)->(∃(x:Nat),(x<=za/\∀(j:Nat),j < x->fO r (nth aU l j)=true)/\((0:Int)=(↑x:Int)/\True)/\True)/\(∀x_0:Nat,((x_0<=za/\∀(j:Nat),j < x_0->fO r (nth aU l j)=true)->(((decide ((↑x_0:Int) < (↑za:Int)))=true->((0:Int)<=(↑x_0:Int)/\(↑x_0:Int) < (↑za:Int))/\(kN r/\kN (nth aU l x_0))/\(((!fO r (nth aU l x_0))=true->((!decide ((↑x_0:Int)>=(0:Int)))=gB r l))/\((!fO r (nth aU l x_0))=false->((aO (↑x_0:Int))->((aO (1:Int))->(aO ((↑x_0:Int) + (1:Int)))/\(∃(x':Nat),(x'<=za/\∀(j:Nat),j < x'->fO r (nth aU l j)=true)/\za - x' < za - x_0/\((↑x_0:Int) + (1:Int)=(↑x':Int)/\True)/\(r.1=r.1/\r.2.1=r.2.1/\True)/\True))))))/\((decide ((↑x_0:Int) < (↑za:Int)))=false->((!decide ((-1:Int)>=(0:Int)))=gB r l))))))) (by kernel_rfl) ?_
 dsimp -iota -proj -eta only
 dsimp only at hp
 refine fun h0=>⟨?a,fun x_0 q_0=>iL (fun h1=>⟨(by omega),⟨hp.1,hp.2 _ (fZ (by omega))⟩,iB (fun h2=>(by rw [B4 (j:=x_0) (by omega) h2];simp)) (fun h2 h3 h4=>⟨(by simp only [aO,aL] at *;omega),(by exact ⟨x_0 + 1,⟨by omega,fun j hj=>by by_cases e:j=x_0;(subst e;exact h2);exact q_0.2 j (by omega)⟩,by omega,⟨by omega,trivial⟩,(by trivial)⟩)⟩)⟩) (fun h1=>(by rw [Eh fun j hj=>q_0.2 j (by omega)];simp))⟩
 case a=>refine ⟨0,?_⟩;(repeat' (first | exact trivial | rfl | omega | assumption | apply And.intro))
theorem Tryz.JJ:bV Tryz.prog Tryz.B.eT Tryz.X 133 [aU, .slice aU] [.bool] (fun x=>kN x.1/\∀y∈x.2,kN y) (fun x y=>y=(fun x=>gB x.1 x.2) x):=
 cK (X:=Tryz.X) Tryz.E8 Tryz.func133 (by kernel_rfl) (fun _=>[]) (fun x hw hp=>JI x.1 x.2 hw hp)
noncomputable def Tryz.Bu:List (FuncId × (Bool × bR)):=[(76,(true,aS [.str] [.err] (fun _=>True) (fun s=>aP (aK s)))),
 (99,(true,aS [.str] [.int .i64] (fun _=>True) (fun s=>aK s))),
 (21,(true,aS [.err] [.int .i64] (fun _=>True) (fun e=>eS e))),
 (132,(true,aS [.int .i64] [.int .i64] (fun n=>0<=n/\n<=1000000) (fun n=>eJ n))),
 (151,(true,aS [aU,aU] [.bool] (fun x=>kN x.1/\kN x.2) (fun x=>fO x.1 x.2))),
 (133,(true,aS [aU, .slice aU] [.bool] (fun x=>kN x.1/\∀y∈x.2,kN y) (fun x=>gB x.1 x.2)))]
theorem Tryz.E9:bZ Tryz.prog Tryz.B Tryz.X Tryz.Bu:=
 aW (aE Tryz.ja) (aW (aE Tryz.eX) (aW (aE Tryz.hZ) (aW (aE Tryz.Iy) (aW (aE Tryz.Bq) (aW (aE Tryz.JJ) (cS Tryz.cU))))))
def Bv (s:List Int) (l:List (D aU)):dE:=[
 (0,fun st=>{X:=Nat,inv:=fun i=>i<=s.length/\∀j,j < i->1<=(nth (.int .i64) s j:Int)/\(nth (.int .i64) s j:Int)<=40,bW:=fun i=>s.length - i,bJ:=fun i=>[(26,sI i)],bL:=[0,1,24,25]}),
 (2,fun st=>{X:=Nat,inv:=fun i=>i<=l.length/\∀j,j < i->lT (nth aU l j),bW:=fun i=>l.length - i,bJ:=fun i=>[(40,sI i)],bL:=[0,1,38,39]}),
 (4,fun st=>{X:=Nat × List (D aU) × List Int,inv:=fun x=>x.1<=s.length/\iA x.2.1 (s.drop x.1) x.2.2=iA l s []/\(∀y∈x.2.1,lT y)/\x.2.1.length=l.length + x.1/\x.2.2.length=x.1,bW:=fun x=>s.length - x.1,bJ:=fun x=>[(68,sI x.1),(10, .s (.one (.app aU x.2.1 (bG st 10)))),(11, .s (.one (.app (.int .i64) x.2.2 (bG st 11))))],aC:=fun x=>[(bG st 10, .tok aU x.2.1),(bG st 11, .tok (.int .i64) x.2.2)],bL:=[66,67],hM:=[bG st 10,bG st 11]}),
 (6,fun st=>{X:=Nat,inv:=fun j=>j<=32/\fV (dF (.slice aU) st 10) (D1 (.int .i64) st (bG st 14) 1) (40 - j) (16 * (j:Int))=fV (dF (.slice aU) st 10) (D1 (.int .i64) st (bG st 14) 1) 40 0,bW:=fun j=>40 - j,bJ:=fun j=>[],aC:=fun j=>[(bG st 14, .cells 213 [.d (.int .i64) (16 * (j:Int)), .d (.int .i64) (D1 (.int .i64) st (bG st 14) 1)])],bL:=[4,5,10,11,13,14,66,67,68,69,70,71,72,73,74],hM:=[bG st 14]})]
theorem IA (s:List Int) (l:List (D aU)) (hw:gI [.slice (.int .i64), .slice aU] (s,l)):(dR (nT Tryz.B [65]) Tryz.Bu Tryz.f113 (Bv s l) [.slice (.int .i64), .slice aU] [.slice (.int .i64), .err] (fun x y=>y=(fun x=>cP x) x) (s,l)).holds:=by
 refine holds_of (p:=
  let za:=List.length s
  let zb:=za<=aL
  let zc:=(↑za:Int)
  let zd:=cP (s,l)
  let ze:=([],aV.no (2:Int))=zd
  let zf:=List.length l
  let zg:=Ty.int IntKind.i64
  let zh:=fun (x_0:Nat)=>(↑x_0:Int)
  let zi:=([],aV.no (1:Int))=zd
  let zj:=aO (1:Int)
  let zk:=@List.nil Int = @List.nil Int/\True
  let zl:=Int × Int × Unit
  let zm:=Nat × List zl × List Int
  let zn:=iA l s (@List.nil Int)
  let zo:=fun (x_2:Nat × List (Int × Int × Unit) × List Int)=>eJ (nth zg s x_2.1)
  let zp:=fun (x_2:Nat × List (Int × Int × Unit) × List Int)=>fV x_2.2.1 (zo x_2) (40:Nat) (0:Int)
  let zq:=fun (x_3:Nat)=>(16:Int) * zh x_3
  ((zb)->(((decide (zc > (6:Int)))=true->(ze))/\((decide (zc > (6:Int)))=false->((zf<=aL)->(((decide ((↑zf:Int) > (20:Int)))=true->(ze))/\((decide ((↑zf:Int) > (20:Int)))=false->((zb)->(∃(x:Nat),(x<=za/\∀(j:Nat),j < x->(1:Int)<=nth zg s j/\nth zg s j<=(40:Int))/\((0:Int)=(↑x:Int)/\True)/\True)/\(∀x_0:Nat,((x_0<=za/\∀(j:Nat),j < x_0->(1:Int)<=nth zg s j/\nth zg s j<=(40:Int))->(((decide (zh x_0 < zc))=true->((0:Int)<=zh x_0/\zh x_0 < zc)/\(((decide (nth zg s x_0 < (1:Int)))=true->(zi))/\((decide (nth zg s x_0 < (1:Int)))=false->(((decide (nth zg s x_0 > (40:Int)))=true->(zi))/\((decide (nth zg s x_0 > (40:Int)))=false->((aO (zh x_0))->((zj)->(aO (zh x_0 + (1:Int)))/\(∃(x':Nat),(x'<=za/\∀(j:Nat),j < x'->(1:Int)<=nth zg s j/\nth zg s j<=(40:Int))/\za - x' < za - x_0/\(zh x_0 + (1:Int)=(↑x':Int)/\True)/\zk))))))))/\((decide (zh x_0 < zc))=false->((zf<=aL)->(∃(x:Nat),(x<=zf/\∀(j:Nat),j < x->lT (nth aU l j))/\((0:Int)=(↑x:Int)/\True)/\True)/\(∀x_1:Nat,((x_1<=zf/\∀(j:Nat),j < x_1->lT (nth aU l j))->(((decide (zh x_1 < (↑zf:Int)))=true->((0:Int)<=zh x_1/\zh x_1 < (↑zf:Int))/\(((decide ((nth aU l x_1).1 < (0:Int)))=true->(zi))/\((decide ((nth aU l x_1).1 < (0:Int)))=false->(((decide ((nth aU l x_1).1 > (256:Int)))=true->(zi))/\((decide ((nth aU l x_1).1 > (256:Int)))=false->(((decide ((nth aU l x_1).2.1 < (0:Int)))=true->(zi))/\((decide ((nth aU l x_1).2.1 < (0:Int)))=false->(((decide ((nth aU l x_1).2.1 > (256:Int)))=true->(zi))/\((decide ((nth aU l x_1).2.1 > (256:Int)))=false->((aO (zh x_1))->((zj)->(aO (zh x_1 + (1:Int)))/\(∃(x':Nat),(x'<=zf/\∀(j:Nat),j < x'->lT (nth aU l j))/\zf - x' < zf - x_1/\(zh x_1 + (1:Int)=(↑x':Int)/\True)/\zk))))))))))))/\((decide (zh x_1 < (↑zf:Int)))=false->(zf<=(1000000000:Nat))/\((zb)->(∃(x:zm),(Prod.fst x<=za/\iA (Prod.snd x).1 (List.drop (Prod.fst x) s) (Prod.snd x).2=zn/\(∀(y:zl),y∈(Prod.snd x).1->lT y)/\List.length (Prod.snd x).1=zf + Prod.fst x/\List.length (Prod.snd x).2=Prod.fst x)/\((0:Int)=(↑(Prod.fst x):Int)/\l=(Prod.snd x).1/\@List.nil Int=(Prod.snd x).2/\True)/\l=(Prod.snd x).1/\@List.nil Int=(Prod.snd x).2/\True)/\(∀x_2:Nat × List (Int × Int × Unit) × List Int,((x_2.1<=za/\iA x_2.2.1 (List.drop x_2.1 s) x_2.2.2=zn/\(∀(y:zl),y∈x_2.2.1->lT y)/\List.length x_2.2.1=zf + x_2.1/\List.length x_2.2.2=x_2.1)->(((decide ((↑x_2.1:Int) < zc))=true->((0:Int)<=(↑x_2.1:Int)/\(↑x_2.1:Int) < zc)/\((0:Int)<=nth zg s x_2.1/\nth zg s x_2.1<=(1000000:Int))/\(∃(x:Nat),(x<=(32:Nat)/\fV x_2.2.1 (zo x_2) ((40:Nat) - x) ((16:Int) * (↑x:Int))=zp x_2)/\True/\((0:Int)=(16:Int) * (↑x:Int)/\zo x_2=zo x_2/\True)/\True)/\(∀x_3:Nat,((x_3<=(32:Nat)/\fV x_2.2.1 (zo x_2) ((40:Nat) - x_3) (zq x_3)=zp x_2)->(kN (zq x_3,zo x_2,())/\∀(y:zl),y∈x_2.2.1->kN y)/\(((!gB (zq x_3,zo x_2,()) x_2.2.1)=true->((aO (zq x_3))->((aO (16:Int))->(aO (zq x_3 + (16:Int)))/\(∃(x':Nat),(x'<=(32:Nat)/\fV x_2.2.1 (zo x_2) ((40:Nat) - x') ((16:Int) * (↑x':Int))=zp x_2)/\(40:Nat) - x' < (40:Nat) - x_3/\True/\(zq x_3 + (16:Int)=(16:Int) * (↑x':Int)/\zo x_2=zo x_2/\True)/\x_2.2.1=x_2.2.1/\x_2.2.2=x_2.2.2/\zk))))/\((!gB (zq x_3,zo x_2,()) x_2.2.1)=false->((aO (zq x_3))->((aO (zo x_2))->(aO (zq x_3 + zo x_2))/\(((decide (zq x_3 + zo x_2 > (256:Int)))=true->(([],aV.no (8:Int))=zd))/\((decide (zq x_3 + zo x_2 > (256:Int)))=false->(x_2.2.1=x_2.2.1/\List.length x_2.2.1 + List.length [(zq x_3,zo x_2,())]<=(1000000000:Nat))/\(x_2.2.2=x_2.2.2/\List.length x_2.2.2 + List.length [zq x_3]<=(1000000000:Nat))/\((aO (↑x_2.1:Int))->((zj)->(aO ((↑x_2.1:Int) + (1:Int)))/\(∃(x':zm),(Prod.fst x'<=za/\iA (Prod.snd x').1 (List.drop (Prod.fst x') s) (Prod.snd x').2=zn/\(∀(y:zl),y∈(Prod.snd x').1->lT y)/\List.length (Prod.snd x').1=zf + Prod.fst x'/\List.length (Prod.snd x').2=Prod.fst x')/\za - Prod.fst x' < za - x_2.1/\((↑x_2.1:Int) + (1:Int)=(↑(Prod.fst x'):Int)/\x_2.2.1++[(zq x_3,zo x_2,())]=(Prod.snd x').1/\x_2.2.2++[zq x_3]=(Prod.snd x').2/\True)/\x_2.2.1++[(zq x_3,zo x_2,())]=(Prod.snd x').1/\x_2.2.2++[zq x_3]=(Prod.snd x').2/\zk))))))))))))/\((decide ((↑x_2.1:Int) < zc))=false->((x_2.2.2,aV.nil)=zd))))))))))))))))))))))) (by kernel_rfl) ?_
 dsimp -iota -proj -eta only
 refine fun h0=>iL (fun h1 => ?a) (fun h1 h2=>iL (fun h3 => ?b) (fun h3 h4=>⟨?c,fun x_0 q_0=>iL (fun h5=>⟨?d,iL (fun h6 => ?e) (fun h6=>iL (fun h7 => ?f) (fun h7 h8 h9=>⟨?g,(by (try dsimp only [D] at *);exact ⟨x_0 + 1,⟨by omega,fun j hj=>by by_cases e:j=x_0;(subst e;(try dsimp only [D]);omega);exact q_0.2 j (by omega)⟩,by omega,⟨by omega,trivial⟩,(by trivial)⟩)⟩))⟩) (fun h5 h6=>⟨?h,fun x_1 q_1=>iL (fun h7=>⟨?i,iL (fun h8 => ?j) (fun h8=>iL (fun h9 => ?k) (fun h9=>iL (fun h10 => ?l) (fun h10=>iL (fun h11 => ?m) (fun h11 h12 h13=>⟨?n,(by (try dsimp only [D] at *);exact ⟨x_1 + 1,⟨by omega,fun j hj=>by by_cases e:j=x_1;(subst e;unfold lT;(try dsimp only [D]);omega);exact q_1.2 j (by omega)⟩,by omega,⟨by omega,trivial⟩,(by trivial)⟩)⟩))))⟩) (fun h7=>⟨?o,fun h8=>⟨(⟨(0,l,[]),⟨Nat.zero_le _,rfl,(fun y (hy:y∈l)=>by obtain ⟨i,hi,e⟩:=kH (t:=aU) hy;rw [<-e];exact q_1.2 i (by omega)),rfl,rfl⟩,(by trivial),(by trivial)⟩),fun x_2 q_2=>iL (fun h9=>⟨?p,(by have:=q_0.2 x_2.1 (by omega);(try dsimp only [D] at *);omega),?q,fun x_3 q_3=>⟨?r,iB (fun h10 h11 h12=>⟨?s,?t⟩) (fun h10 h11 h12=>⟨?u,iL (fun h13 => ?v) (fun h13=>⟨?w,?x,fun h14 h15=>⟨?y,?z⟩⟩)⟩)⟩⟩) (fun h9=>(by rw [xH (by omega) (fun j hj=>q_0.2 j (by omega)) (fun j hj=>q_1.2 j (by omega)),<-q_2.2.1,B5 (by omega)]))⟩⟩)⟩)⟩))
 case a|b=>rw [B6 (by omega)]
 case c|h|q=>refine ⟨0,?_⟩;(repeat' (first | exact trivial | rfl | omega | assumption | apply And.intro))
 case d|i|o|p=>omega
 case e|f=>(try dsimp only [D] at *);rw [B7 (by omega) (i:=x_0) (by omega) (by (try dsimp only [D]);omega)]
 case g|n|s|y=>simp only [aO,aL] at *;omega
 case j|k|l|m=>(try dsimp only [D] at *);rw [Au (by omega) (i:=x_1) (by omega) (by unfold lT;(try dsimp only [D]);omega)]
 case r=>
  have hs:=q_0.2 x_2.1 (by omega);have hr:=mh hs.1 hs.2
  exact ⟨by refine ⟨?_,?_,?_,?_⟩ <;> simp only <;> omega,fun y hy=>(q_2.2.2.1 y hy).kN⟩
 case t=>
  have hf:gB (16 * (x_3:Int),eJ (nth (.int .i64) s x_2.1),()) x_2.2.1=false:=by assumption
  have hn:=FY q_2.2.2.1 hf
  exact ⟨x_3 + 1,⟨by omega,by rw [<-q_3.2,show 40 - x_3=(40 - (x_3 + 1)) + 1 by omega,FZ hf,show 16 * ((x_3 + 1:Nat):Int)=16 * (x_3:Int) + 16 by omega]⟩,by omega,trivial,⟨by omega,rfl,trivial⟩,(by trivial)⟩
 case u=>
  have hs:=q_0.2 x_2.1 (by omega);have hr:=mh hs.1 hs.2;have hf:gB (16 * (x_3:Int),eJ (nth (.int .i64) s x_2.1),()) x_2.2.1=true:=by assumption
  have hb:=q_3.2.symm.trans (pD hf)
  simp only [aO];omega
 case v=>
  have hs:=q_0.2 x_2.1 (by omega);have hr:=mh hs.1 hs.2;have hf:gB (16 * (x_3:Int),eJ (nth (.int .i64) s x_2.1),()) x_2.2.1=true:=by assumption
  have hb:=q_3.2.symm.trans (pD hf)
  rw [xH (by omega) (fun j hj=>q_0.2 j (by omega)) (fun j hj=>q_1.2 j (by omega)),<-q_2.2.1,r5 (by omega),if_pos (by rw [hb];omega)]
 case w|x=>simp only [List.length_singleton,true_and];omega
 case z=>
  have hs:=q_0.2 x_2.1 (by omega);have hr:=mh hs.1 hs.2;have hf:gB (16 * (x_3:Int),eJ (nth (.int .i64) s x_2.1),()) x_2.2.1=true:=by assumption
  have hb:=q_3.2.symm.trans (pD hf)
  exact ⟨(x_2.1 + 1,_,_),⟨by omega,by rw [<-q_2.2.1,r5 (k:=x_2.1) (by omega),if_neg (by rw [hb];omega),hb],HP q_2.2.2.1 (by refine ⟨?_,?_,?_,?_⟩ <;> simp only <;> omega),by simp only [List.length_append,List.length_singleton];omega,by simp only [List.length_append,List.length_singleton];omega⟩,by simp only;omega,⟨by simp only;omega,rfl,rfl,trivial⟩,(by trivial)⟩
theorem Tryz.IB:bV Tryz.prog Tryz.B.eT Tryz.X 113 [.slice (.int .i64), .slice aU] [.slice (.int .i64), .err] (fun _=>True) (fun x y=>y=(fun x=>cP x) x):=
 cK (B:=(nT Tryz.B [65])) (X:=Tryz.X) (bZ.hint (l:=[65]) Tryz.E9) Tryz.func113 (by kernel_rfl) (fun x=>Bv x.1 x.2) (fun x hw hp=>IA x.1 x.2 hw)
end Go.Proofs.YtgokjhhcfemnhacGreatDoor

namespace Go.Proofs.YtgokjhhcfemnhacGreatDoor
open Go.Vg Go.Mrl
def Bw (o:D aA):dE:=[
 (0,fun st=>{X:=Nat,inv:=fun i=>i<=o.1.length/\∀j,j < i->(nth .str o.1 j).length<=20,bW:=fun i=>o.1.length - i,bJ:=fun i=>[(3,sI i)],bL:=[1]}),
 (2,fun st=>{X:=Nat,inv:=fun i=>i<=o.2.2.1.length/\∀j,j < i->(nth aI o.2.2.1 j).1.length<=20,bW:=fun i=>o.2.2.1.length - i,bJ:=fun i=>[(4,sI i)],bL:=[1]}),
 (4,fun st=>{X:=Nat,inv:=fun i=>i<=o.2.2.2.1.length/\∀j,j < i->(nth aR o.2.2.2.1 j).2.2.2.1.length<=20,bW:=fun i=>o.2.2.2.1.length - i,bJ:=fun i=>[(5,sI i)],bL:=[1]})]
theorem w9 (o:D aA) (hw:gI [aA] o):(dR Tryz.B [] Tryz.f27 (Bw o) [aA] [.bool] (fun o y=>y=true->jH o) o).holds:=by
 refine holds_of (p:=
  let za:=List.length o.1
  let zb:=false=true->jH o
  let zc:=List.length o.2.1
  let zd:=o.2.2.1
  let ze:=List.length zd
  let zf:=o.2.2.2.1
  let zg:=List.length zf
  let zh:=fun (x_0:Nat)=>(↑x_0:Int)
  let zi:=fun (x_0:Nat)=>(0:Int)<=zh x_0
  let zj:=aO (1:Int)
  let zk:=fun (x_0:Nat)=>zh x_0 + (1:Int)
  let zl:=(o.1=o.1/\o.2.1=o.2.1/\zd=zd/\zf=zf/\True)/\True
  let zm:=fun (x_2:Nat)=>List.length (nth aR zf x_2).2.2.2.1
  ((za<=aL)->(((decide ((↑za:Int) > (6:Int)))=true->(zb))/\((decide ((↑za:Int) > (6:Int)))=false->((zc<=aL)->(((decide ((↑zc:Int) > (50:Int)))=true->(zb))/\((decide ((↑zc:Int) > (50:Int)))=false->((ze<=aL)->(((decide ((↑ze:Int) > (10:Int)))=true->(zb))/\((decide ((↑ze:Int) > (10:Int)))=false->((zg<=aL)->(((decide ((↑zg:Int) > (10:Int)))=true->(zb))/\((decide ((↑zg:Int) > (10:Int)))=false->(∃(x:Nat),(x<=za/\∀(j:Nat),j < x->List.length (nth Ty.str o.1 j)<=(20:Nat))/\((0:Int)=(↑x:Int)/\True)/\True)/\(∀x_0:Nat,((x_0<=za/\∀(j:Nat),j < x_0->List.length (nth Ty.str o.1 j)<=(20:Nat))->((za<=aL)->(((decide (zh x_0 < (↑za:Int)))=true->(zi x_0/\zh x_0 < (↑za:Int))/\((List.length (nth Ty.str o.1 x_0)<=aL)->(((decide ((↑(List.length (nth Ty.str o.1 x_0)):Int) > (20:Int)))=true->(zb))/\((decide ((↑(List.length (nth Ty.str o.1 x_0)):Int) > (20:Int)))=false->((aO (zh x_0))->((zj)->(aO (zk x_0))/\(∃(x':Nat),(x'<=za/\∀(j:Nat),j < x'->List.length (nth Ty.str o.1 j)<=(20:Nat))/\za - x' < za - x_0/\(zk x_0=(↑x':Int)/\True)/\zl)))))))/\((decide (zh x_0 < (↑za:Int)))=false->(∃(x:Nat),(x<=ze/\∀(j:Nat),j < x->List.length (nth aI zd j).1<=(20:Nat))/\((0:Int)=(↑x:Int)/\True)/\True)/\(∀x_1:Nat,((x_1<=ze/\∀(j:Nat),j < x_1->List.length (nth aI zd j).1<=(20:Nat))->((ze<=aL)->(((decide (zh x_1 < (↑ze:Int)))=true->(zi x_1/\zh x_1 < (↑ze:Int))/\((List.length (nth aI zd x_1).1<=aL)->(((decide ((↑(List.length (nth aI zd x_1).1):Int) > (20:Int)))=true->(zb))/\((decide ((↑(List.length (nth aI zd x_1).1):Int) > (20:Int)))=false->((aO (zh x_1))->((zj)->(aO (zk x_1))/\(∃(x':Nat),(x'<=ze/\∀(j:Nat),j < x'->List.length (nth aI zd j).1<=(20:Nat))/\ze - x' < ze - x_1/\(zk x_1=(↑x':Int)/\True)/\zl)))))))/\((decide (zh x_1 < (↑ze:Int)))=false->(∃(x:Nat),(x<=zg/\∀(j:Nat),j < x->List.length (nth aR zf j).2.2.2.1<=(20:Nat))/\((0:Int)=(↑x:Int)/\True)/\True)/\(∀x_2:Nat,((x_2<=zg/\∀(j:Nat),j < x_2->List.length (nth aR zf j).2.2.2.1<=(20:Nat))->((zg<=aL)->(((decide (zh x_2 < (↑zg:Int)))=true->(zi x_2/\zh x_2 < (↑zg:Int))/\((zm x_2<=aL)->(((decide ((↑(zm x_2):Int) > (20:Int)))=true->(zb))/\((decide ((↑(zm x_2):Int) > (20:Int)))=false->((aO (zh x_2))->((zj)->(aO (zk x_2))/\(∃(x':Nat),(x'<=zg/\∀(j:Nat),j < x'->List.length (nth aR zf j).2.2.2.1<=(20:Nat))/\zg - x' < zg - x_2/\(zk x_2=(↑x':Int)/\True)/\zl)))))))/\((decide (zh x_2 < (↑zg:Int)))=false->(true=true->jH o))))))))))))))))))))))))))))) (by kernel_rfl) ?_
 dsimp -iota -proj -eta only
 refine fun h0=>iL (fun h1 => ?a) (fun h1 h2=>iL (fun h3 => ?b) (fun h3 h4=>iL (fun h5 => ?c) (fun h5 h6=>iL (fun h7 => ?d) (fun h7=>⟨?e,fun x_0 q_0 h8=>iL (fun h9=>⟨?f,fun h10=>iL (fun h11 => ?g) (fun h11 h12 h13=>⟨?h,(⟨x_0 + 1,⟨by omega,lA q_0.2 (by omega)⟩,by omega,⟨by omega,trivial⟩,(by trivial)⟩)⟩)⟩) (fun h9=>⟨?i,fun x_1 q_1 h10=>iL (fun h11=>⟨?j,fun h12=>iL (fun h13 => ?k) (fun h13 h14 h15=>⟨?l,(⟨x_1 + 1,⟨by omega,lA q_1.2 (by omega)⟩,by omega,⟨by omega,trivial⟩,(by trivial)⟩)⟩)⟩) (fun h11=>⟨?m,fun x_2 q_2 h12=>iL (fun h13=>⟨?n,fun h14=>iL (fun h15 => ?o) (fun h15 h16 h17=>⟨?p,(⟨x_2 + 1,⟨by omega,lA q_2.2 (by omega)⟩,by omega,⟨by omega,trivial⟩,(by trivial)⟩)⟩)⟩) (fun h13=>(fun _=>⟨by omega,by omega,by omega,by omega,fun i hi=>q_0.2 i (by omega),fun i hi=>q_1.2 i (by omega),fun i hi=>q_2.2 i (by omega)⟩))⟩)⟩)⟩))))
 case a|b|c|d|g|k|o=>simp_all
 case e|i|m=>refine ⟨0,?_⟩;(repeat' (first | exact trivial | rfl | omega | assumption | apply And.intro))
 case f|j|n=>omega
 case h|l|p=>simp only [aO,aL] at *;omega
theorem Tryz.qf:bV Tryz.prog Tryz.B.eT Tryz.X 27 [aA] [.bool] (fun _=>True) (fun o y=>y=true->jH o):=
 cK (X:=Tryz.X) (cS Tryz.cU) Tryz.func27 (by kernel_rfl) (fun x=>Bw x) (fun x hw hp=>w9 x hw)
noncomputable def Tryz.yq:List (FuncId × (Bool × bR)):=[(27,(true,iX [aA] [.bool] (fun _=>True) (fun o y=>y=true->jH o)))]
theorem Tryz.CE:bZ Tryz.prog Tryz.B Tryz.X Tryz.yq:=
 aW (eN Tryz.qf) (cS Tryz.cU)
def yr (l:List (D aA)):dE:=[
 (0,fun st=>{X:=Nat,inv:=fun i=>i<=l.length/\∀j,j < i->jH (nth aA l j),bW:=fun i=>l.length - i,bJ:=fun i=>[(3,sI i)],bL:=[0]})]
theorem wy (l:List (D aA)) (hw:gI [.slice aA] l):(dR Tryz.B Tryz.yq Tryz.f82 (yr l) [.slice aA] [.bool] (fun l y=>y=true->p5 l) l).holds:=by
 refine holds_of (p:=
  let za:=List.length l
  let zb:=false=true->p5 l
  ((za<=aL)->(((decide ((↑za:Int) > (8:Int)))=true->(zb))/\((decide ((↑za:Int) > (8:Int)))=false->(∃(x:Nat),(x<=za/\∀(j:Nat),j < x->jH (nth aA l j))/\((0:Int)=(↑x:Int)/\True)/\True)/\(∀x_0:Nat,((x_0<=za/\∀(j:Nat),j < x_0->jH (nth aA l j))->((za<=aL)->(((decide ((↑x_0:Int) < (↑za:Int)))=true->((0:Int)<=(↑x_0:Int)/\(↑x_0:Int) < (↑za:Int))/\(True)/\(∀x_1:Bool,((x_1=true->jH (nth aA l x_0))->(((!x_1)=true->(zb))/\((!x_1)=false->((aO (↑x_0:Int))->((aO (1:Int))->(aO ((↑x_0:Int) + (1:Int)))/\(∃(x':Nat),(x'<=za/\∀(j:Nat),j < x'->jH (nth aA l j))/\za - x' < za - x_0/\((↑x_0:Int) + (1:Int)=(↑x':Int)/\True)/\True))))))))/\((decide ((↑x_0:Int) < (↑za:Int)))=false->(true=true->p5 l)))))))))) (by kernel_rfl) ?_
 dsimp -iota -proj -eta only
 refine fun h0=>iL (fun h1 => ?a) (fun h1=>⟨?b,fun x_0 q_0 h2=>iL (fun h3=>⟨(by omega),trivial,fun x_1 q_1=>iB (fun h4 => ?c) (fun h4 h5 h6=>⟨(by simp only [aO,aL] at *;omega),(⟨x_0 + 1,⟨by omega,lA q_0.2 (by simp_all)⟩,by omega,⟨by omega,trivial⟩,(by trivial)⟩)⟩)⟩) (fun h3=>(fun _=>⟨by omega,fun i hi=>q_0.2 i (by omega)⟩))⟩)
 case a|c=>simp_all
 case b=>refine ⟨0,?_⟩;(repeat' (first | exact trivial | rfl | omega | assumption | apply And.intro))
theorem Tryz.wz:bV Tryz.prog Tryz.B.eT Tryz.X 82 [.slice aA] [.bool] (fun _=>True) (fun l y=>y=true->p5 l):=
 cK (X:=Tryz.X) Tryz.CE Tryz.func82 (by kernel_rfl) (fun x=>yr x) (fun x hw hp=>wy x hw)
def Bx (l:List (D aA)) (s:List UInt8):dE:=[
 (0,fun st=>{X:=Nat × Int × Int,inv:=fun x=>x.1<=l.length/\fS l s x.1 0 x.2.1 x.2.2,bW:=fun x=>l.length - x.1,bJ:=fun x=>[(14,sI x.1),(6,sI x.2.1),(7,sI x.2.2)],bL:=[1,12,13]}),
 (2,fun st=>{X:=Nat × Int × Int,inv:=fun x=>x.1<=(nth aA l (dF (.int .i64) st 14).toNat).2.2.1.length/\fS l s (dF (.int .i64) st 14).toNat x.1 x.2.1 x.2.2,bW:=fun x=>(nth aA l (dF (.int .i64) st 14).toNat).2.2.1.length - x.1,bJ:=fun x=>[(22,sI x.1),(6,sI x.2.1),(7,sI x.2.2)],bL:=[1,8,9,12,13,14,15,16,17,18,19,20,21]})]
theorem IC (l:List (D aA)) (s:List UInt8) (hw:gI [.slice aA, .str] (l,s)):(dR Tryz.B [] Tryz.f39 (Bx l s) [.slice aA, .str] [.int .i64, .int .i64] (fun x y=>y=(fun x=>cM x) x) (l,s)).holds:=by
 refine holds_of (p:=
  let za:=List.length l
  let zb:=Nat × Int × Int
  let zc:=fun (x_0:Nat × Int × Int)=>(↑x_0.1:Int)
  let zd:=fun (x_0:Nat × Int × Int)=>(nth aA l x_0.1).2.2.1
  let ze:=fun (x_0:Nat × Int × Int)=>List.length (zd x_0)
  let zf:=aO (1:Int)
  let zg:=fun (x_1:Nat × Int × Int)=>zc x_1 + (1:Int)
  let zh:=fun (x_0:Nat × Int × Int)=>(nth aA l x_0.1).2.2.2.1
  let zi:=fun (x_0:Nat × Int × Int)=>((nth aA l x_0.1).1=(nth aA l x_0.1).1/\(nth aA l x_0.1).2.1=(nth aA l x_0.1).2.1/\zd x_0=zd x_0/\zh x_0=zh x_0/\True)/\@List.nil (Int × Int × Int × List UInt8 × Bool × Unit) = @List.nil (Int × Int × Int × List UInt8 × Bool × Unit)/\@List.nil (List UInt8 × Int × Bool × Unit) = @List.nil (List UInt8 × Int × Bool × Unit)/\@List.nil Int = @List.nil Int/\@List.nil (List UInt8) = @List.nil (List UInt8)/\True
  let zj:=fun (x_1:Nat × Int × Int) (x_0:Nat × Int × Int)=>((aO (zc x_1))->((zf)->(aO (zg x_1))/\(∃(x':zb),(Prod.fst x'<=ze x_0/\fS l s x_0.1 (Prod.fst x') (Prod.snd x').1 (Prod.snd x').2)/\ze x_0 - Prod.fst x' < ze x_0 - x_1.1/\(zg x_1=(↑(Prod.fst x'):Int)/\x_1.2.1=(Prod.snd x').1/\x_1.2.2=(Prod.snd x').2/\True)/\zi x_0)))
  let zk:=cM (l,s)
  ((za<=aL)->(∃(x:zb),(Prod.fst x<=za/\fS l s (Prod.fst x) (0:Nat) (Prod.snd x).1 (Prod.snd x).2)/\((0:Int)=(↑(Prod.fst x):Int)/\(-1:Int)=(Prod.snd x).1/\(-1:Int)=(Prod.snd x).2/\True)/\True)/\(∀x_0:Nat × Int × Int,((x_0.1<=za/\fS l s x_0.1 (0:Nat) x_0.2.1 x_0.2.2)->(((decide (zc x_0 < (↑za:Int)))=true->((0:Int)<=zc x_0/\zc x_0 < (↑za:Int))/\((ze x_0<=aL)->(∃(x:zb),(Prod.fst x<=ze x_0/\fS l s x_0.1 (Prod.fst x) (Prod.snd x).1 (Prod.snd x).2)/\((0:Int)=(↑(Prod.fst x):Int)/\x_0.2.1=(Prod.snd x).1/\x_0.2.2=(Prod.snd x).2/\True)/\True)/\(∀x_1:Nat × Int × Int,((x_1.1<=ze x_0/\fS l s x_0.1 x_1.1 x_1.2.1 x_1.2.2)->(((decide (zc x_1 < (↑(ze x_0):Int)))=true->((0:Int)<=zc x_1/\zc x_1 < (↑(ze x_0):Int))/\(((!(nth aI (zd x_0) x_1.1).1 == s)=true->(zj x_1 x_0))/\((!(nth aI (zd x_0) x_1.1).1 == s)=false->(((!(nth aI (zd x_0) x_1.1).2.2.1)=true->((zc x_0,zc x_1)=zk))/\((!(nth aI (zd x_0) x_1.1).2.2.1)=false->(((decide (x_1.2.1 < (0:Int)))=true->((aO (zc x_1))->((zf)->(aO (zg x_1))/\(∃(x':zb),(Prod.fst x'<=ze x_0/\fS l s x_0.1 (Prod.fst x') (Prod.snd x').1 (Prod.snd x').2)/\ze x_0 - Prod.fst x' < ze x_0 - x_1.1/\(zg x_1=(↑(Prod.fst x'):Int)/\zc x_0=(Prod.snd x').1/\zc x_1=(Prod.snd x').2/\True)/\zi x_0))))/\((decide (x_1.2.1 < (0:Int)))=false->(zj x_1 x_0))))))))/\((decide (zc x_1 < (↑(ze x_0):Int)))=false->((aO (zc x_0))->((zf)->(aO (zg x_0))/\(∃(x':zb),(Prod.fst x'<=za/\fS l s (Prod.fst x') (0:Nat) (Prod.snd x').1 (Prod.snd x').2)/\za - Prod.fst x' < za - x_0.1/\(zg x_0=(↑(Prod.fst x'):Int)/\x_1.2.1=(Prod.snd x').1/\x_1.2.2=(Prod.snd x').2/\True)/\True)))))))))/\((decide (zc x_0 < (↑za:Int)))=false->(x_0.2=zk))))))) (by kernel_rfl) ?_
 dsimp -iota -proj -eta only
 refine fun h0=>⟨(⟨(0,-1,-1),⟨by omega,fS.start l s⟩,⟨rfl,rfl,rfl,trivial⟩,trivial⟩),fun x_0 q_0=>iL (fun h1=>⟨?a,fun h2=>⟨(⟨(0,x_0.2),⟨by omega,q_0.2⟩,⟨rfl,rfl,rfl,trivial⟩,trivial⟩),fun x_1 q_1=>iL (fun h3=>⟨?b,⟨fun h4 h5 h6=>⟨?c,?d⟩,fun h4=>iB (fun h5 => ?e) (fun h5=>iL (fun h6 h7 h8=>⟨?f,?g⟩) (fun h6 h7 h8=>⟨?h,?i⟩))⟩⟩) (fun h3 h4 h5=>⟨(by simp only [aO,aL] at *;omega),(by exact ⟨(x_0.1 + 1,x_1.2),⟨by omega,q_1.2.row (by omega)⟩,by simp only;omega,⟨by simp only;omega,rfl,rfl,trivial⟩,(by trivial)⟩)⟩)⟩⟩) (fun h1=>((q_0.2.done (by omega)).symm))⟩
 case a|b=>omega
 case c|f|h=>
  simp only [bl,reduceCtorEq] at h4
  simp only [aO,aL] at *;omega
 case d=>
  simp only [bl,reduceCtorEq] at h4
  exact ⟨(x_1.1 + 1,x_1.2),⟨by omega,q_1.2.skip (by assumption)⟩,by simp only;omega,⟨by simp only;omega,rfl,rfl,trivial⟩,(by trivial)⟩
 case e=>
  simp only [bl,reduceCtorEq] at h4
  exact (q_1.2.Ki (by omega) (by omega) (by assumption) (by assumption)).symm
 case g=>
  simp only [bl,reduceCtorEq] at h4
  exact ⟨(x_1.1 + 1,_,_),⟨by omega,q_1.2.wP (by omega) (by omega) (by assumption) (by simp_all) (by omega)⟩,by simp only;omega,⟨by simp only;omega,rfl,rfl,trivial⟩,(by trivial)⟩
 case i=>
  simp only [bl,reduceCtorEq] at h4
  exact ⟨(x_1.1 + 1,x_1.2),⟨by omega,q_1.2.more (by simp_all) (by omega)⟩,by simp only;omega,⟨by simp only;omega,rfl,rfl,trivial⟩,(by trivial)⟩
theorem Tryz.ID:bV Tryz.prog Tryz.B.eT Tryz.X 39 [.slice aA, .str] [.int .i64, .int .i64] (fun _=>True) (fun x y=>y=(fun x=>cM x) x):=
 cK (X:=Tryz.X) (cS Tryz.cU) Tryz.func39 (by kernel_rfl) (fun x=>Bx x.1 x.2) (fun x hw hp=>IC x.1 x.2 hw)
noncomputable def Tryz.By:List (FuncId × (Bool × bR)):=[(76,(true,aS [.str] [.err] (fun _=>True) (fun s=>aP (aK s)))),
 (99,(true,aS [.str] [.int .i64] (fun _=>True) (fun s=>aK s))),
 (21,(true,aS [.err] [.int .i64] (fun _=>True) (fun e=>eS e))),
 (27,(true,iX [aA] [.bool] (fun _=>True) (fun o y=>y=true->jH o))),
 (82,(true,iX [.slice aA] [.bool] (fun _=>True) (fun l y=>y=true->p5 l))),
 (39,(true,aS [.slice aA, .str] [.int .i64, .int .i64] (fun _=>True) (fun x=>cM x)))]
theorem Tryz.Fa:bZ Tryz.prog Tryz.B Tryz.X Tryz.By:=
 aW (aE Tryz.ja) (aW (aE Tryz.eX) (aW (aE Tryz.hZ) (aW (eN Tryz.qf) (aW (eN Tryz.wz) (aW (aE Tryz.ID) (cS Tryz.cU))))))
end Go.Proofs.YtgokjhhcfemnhacGreatDoor

namespace Go.Proofs.YtgokjhhcfemnhacGreatDoor
open Go.Vg Go.Mrl
def Bz (a:List Int) (b:List Int):dE:=[(0,fun st=>{X:=Nat,inv:=fun i=>i<=a.length/\∀j,j < i->nth (.int .i64) a j=nth (.int .i64) b j,bW:=fun i=>a.length - i,bJ:=fun i=>[(5,sI i)],bL:=[0,1]})]
theorem xa (a:List Int) (b:List Int) (hw:gI [.slice (.int .i64), .slice (.int .i64)] (a,b)):(dR Tryz.B [] Tryz.f37 (Bz a b) [.slice (.int .i64), .slice (.int .i64)] [.bool] (fun x y=>y=(fun x=>kI x.1 x.2) x) (a,b)).holds:=by
 refine holds_of (p:=
  let za:=List.length a
  let zb:=(↑(List.length b):Int)
  let zc:=false=kI a b
  let zd:=Ty.int IntKind.i64
  ((za<=aL)->((List.length b<=aL)->((((↑za:Int) != zb)=true->(zc))/\(((↑za:Int) != zb)=false->(∃(x:Nat),(x<=za/\∀(j:Nat),j < x->nth zd a j=nth zd b j)/\((0:Int)=(↑x:Int)/\True)/\True)/\(∀x_0:Nat,((x_0<=za/\∀(j:Nat),j < x_0->nth zd a j=nth zd b j)->((za<=aL)->(((decide ((↑x_0:Int) < (↑za:Int)))=true->((0:Int)<=(↑x_0:Int)/\(↑x_0:Int) < (↑za:Int))/\((0:Int)<=(↑x_0:Int)/\(↑x_0:Int) < zb)/\(((nth zd a x_0 != nth zd b x_0)=true->(zc))/\((nth zd a x_0 != nth zd b x_0)=false->((aO (↑x_0:Int))->((aO (1:Int))->(aO ((↑x_0:Int) + (1:Int)))/\(∃(x':Nat),(x'<=za/\∀(j:Nat),j < x'->nth zd a j=nth zd b j)/\za - x' < za - x_0/\((↑x_0:Int) + (1:Int)=(↑x':Int)/\True)/\True))))))/\((decide ((↑x_0:Int) < (↑za:Int)))=false->(true=kI a b))))))))))) (by kernel_rfl) ?_
 dsimp -iota -proj -eta only
 refine fun h0 h1=>iN (fun h2=>(F0 (by assumption))) (fun h2=>⟨(⟨0,⟨by omega,fun j hj=>by omega⟩,⟨rfl,trivial⟩,trivial⟩),fun x_0 q_0 h3=>iL (fun h4=>⟨?a,?b,iN (fun h5=>(HQ (i:=x_0) (by assumption))) (fun h5 h6 h7=>⟨(by simp only [aO,aL] at *;omega),(⟨x_0 + 1,⟨by omega,F1 q_0.2 (by assumption)⟩,by omega,⟨by omega,trivial⟩,(by trivial)⟩)⟩)⟩) (fun h4=>(Ei (by assumption) (fun i hi=>q_0.2 i (by omega))))⟩)
 case a|b=>omega
theorem Tryz.xb:bV Tryz.prog Tryz.B.eT Tryz.X 37 [.slice (.int .i64), .slice (.int .i64)] [.bool] (fun _=>True) (fun x y=>y=(fun x=>kI x.1 x.2) x):=
 cK (X:=Tryz.X) (cS Tryz.cU) Tryz.func37 (by kernel_rfl) (fun x=>Bz x.1 x.2) (fun x hw hp=>xa x.1 x.2 hw)
end Go.Proofs.YtgokjhhcfemnhacGreatDoor

namespace Go.Proofs.YtgokjhhcfemnhacGreatDoor
open Go.Vg Go.Mrl
theorem GY (l:List (D aA)) (b:List Int) (t:D aR) (hw:gI [.slice aA, .slice (.int .i64),aR] (l,b,t)) (hp:(fun x=>gX x.1/\x.2.1.length=x.1.length/\mB x.2.1) (l,b,t)):(dR Tryz.B Tryz.By Tryz.f116 [] [.slice aA, .slice (.int .i64),aR] [.int .i64, .err] (fun x y=>y=(fun x=>dH x.1 x.2.1 x.2.2) x) (l,b,t)).holds:=by
 refine holds_of (p:=
  let za:=cM (l,t.2.2.2.1)
  let zb:=(0:Int)<=za.1
  let zc:=(nth aA l (Int.toNat za.1)).2.2.1
  let zd:=nth (Ty.int IntKind.i64) b (Int.toNat za.1)
  let ze:=(nth aI zc (Int.toNat za.2)).2.1
  let zf:=dH l b t
  (True)/\(((decide (za.1>=(0:Int)))=true->(zb/\za.1 < (↑(List.length b):Int))/\(zb/\za.1 < (↑(List.length l):Int))/\((0:Int)<=za.2/\za.2 < (↑(List.length zc):Int))/\((aO zd)->((aO ze)->(aO (zd + ze))/\((zd + ze,aV.nil)=zf))))/\((decide (za.1>=(0:Int)))=false->(((t.2.2.2.2.1)=true->(((0:Int),aV.nil)=zf))/\((t.2.2.2.2.1)=false->(((0:Int),aV.no (6:Int))=zf)))))) (by kernel_rfl) ?_
 dsimp -iota -proj -eta only
 dsimp only at hp
 refine ⟨trivial,iE (fun h0=>⟨?a,?b,?c,fun h1 h2=>⟨?d,((vX (by omega)).symm)⟩⟩) (fun h0=>⟨fun h1=>((tI (by omega) h1).symm),fun h1=>((r7 (by omega) h1).symm)⟩)⟩
 case a|b|c=>
  have hf:=s7 (l:=l) (s:=t.2.2.2.1) (by omega)
  omega
 case d=>
  have hf:=s7 (l:=l) (s:=t.2.2.2.1) (by omega)
  have hb:=mP (n:=l.length) (i:=(cM (l,t.2.2.2.1)).1) hp.2.2 hp.2.1 (by omega) hf.1;have hs:=F8 (s:=t.2.2.2.1) hp.1 (by omega)
  unfold Small at hs;dsimp only [D] at *;simp only [aO];omega
theorem Tryz.GZ:bV Tryz.prog Tryz.B.eT Tryz.X 116 [.slice aA, .slice (.int .i64),aR] [.int .i64, .err] (fun x=>gX x.1/\x.2.1.length=x.1.length/\mB x.2.1) (fun x y=>y=(fun x=>dH x.1 x.2.1 x.2.2) x):=
 cK (X:=Tryz.X) Tryz.Fa Tryz.func116 (by kernel_rfl) (fun _=>[]) (fun x hw hp=>GY x.1 x.2.1 x.2.2 hw hp)
noncomputable def Tryz.yt:List (FuncId × (Bool × bR)):=[(116,(true,aS [.slice aA, .slice (.int .i64),aR] [.int .i64, .err] (fun x=>gX x.1/\x.2.1.length=x.1.length/\mB x.2.1) (fun x=>dH x.1 x.2.1 x.2.2)))]
theorem Tryz.CF:bZ Tryz.prog Tryz.B Tryz.X Tryz.yt:=
 aW (aE Tryz.GZ) (cS Tryz.cU)
theorem Kv (l:List (D aA)) (b:List Int) (i:Int) (t:D aR) (hw:gI [.slice aA, .slice (.int .i64), .int .i64,aR] (l,b,i,t)) (hp:(fun x=>gX x.1/\x.2.1.length=x.1.length/\mB x.2.1/\0<=x.2.2.1/\x.2.2.1 < x.1.length/\Small x.2.2.2.1/\Word x.2.2.2.2.2.1) (l,b,i,t)):(dR Tryz.B Tryz.yt Tryz.f81 [] [.slice aA, .slice (.int .i64), .int .i64,aR] [.int .i64, .err] (fun x y=>y=(fun x=>fI x.1 x.2.1 x.2.2.1 x.2.2.2) x) (l,b,i,t)).holds:=by
 refine holds_of (p:=
  let za:=(0:Int)<=i/\i < (↑(List.length b):Int)
  let zb:=nth (Ty.int IntKind.i64) b (Int.toNat i)
  let zc:=t.2.2.1
  let zd:=zb + zc
  let ze:=dH l b t
  let zf:=fI l b i t
  let zg:=ze.1 + zc
  let zh:=t.2.1 == (3:Int)
  let zi:=zb + t.1
  let zj:=aO zi
  let zk:=zg - zi
  let zl:=((0:Int),aV.no (7:Int))=zf
  let zm:=(-2147483648:Int)
  let zn:=zd - zi
  (za)/\((aO zb)->((aO zc)->(aO zd)/\(((t.2.1 != (1:Int))=true->(gX l/\List.length b=List.length l/\mB b)/\(((!aV.isNil ze.2)=true->(((0:Int),ze.2)=zf))/\((!aV.isNil ze.2)=false->((aO ze.1)->((aO zc)->(aO zg)/\(((zh)=true->(za)/\((aO zb)->((aO t.1)->(zj)/\((aO zg)->((zj)->(aO zk)/\(((decide (zk < (-500:Int)))=true->(zl))/\((decide (zk < (-500:Int)))=false->(((decide (zk > (500:Int)))=true->(zl))/\((decide (zk > (500:Int)))=false->(((decide (zk < zm))=true->(zl))/\((decide (zk < zm))=false->(((decide (zk > (2147483647:Int)))=true->(zl))/\((decide (zk > (2147483647:Int)))=false->((zk,aV.nil)=zf))))))))))))))/\((zh)=false->(((decide (zg < zm))=true->(zl))/\((decide (zg < zm))=false->(((decide (zg > (2147483647:Int)))=true->(zl))/\((decide (zg > (2147483647:Int)))=false->((zg,aV.nil)=zf))))))))))))/\((t.2.1 != (1:Int))=false->(((zh)=true->(za)/\((aO zb)->((aO t.1)->(zj)/\((aO zd)->((zj)->(aO zn)/\(((decide (zn < (-500:Int)))=true->(zl))/\((decide (zn < (-500:Int)))=false->(((decide (zn > (500:Int)))=true->(zl))/\((decide (zn > (500:Int)))=false->(((decide (zn < zm))=true->(zl))/\((decide (zn < zm))=false->(((decide (zn > (2147483647:Int)))=true->(zl))/\((decide (zn > (2147483647:Int)))=false->((zn,aV.nil)=zf))))))))))))))/\((zh)=false->(((decide (zd < zm))=true->(zl))/\((decide (zd < zm))=false->(((decide (zd > (2147483647:Int)))=true->(zl))/\((decide (zd > (2147483647:Int)))=false->((zd,aV.nil)=zf)))))))))))) (by kernel_rfl) ?_
 dsimp -iota -proj -eta only
 dsimp only at hp
 refine ⟨?a,fun h0 h1=>⟨?b,iN (fun h2=>⟨(by simp_all),iB (fun h3=>((Js (by assumption) (by assumption)).symm)) (fun h3 h4 h5=>⟨?c,iQ (fun h6=>⟨?d,fun h7 h8=>⟨?e,fun h9 h10=>⟨?f,iL (fun h11 => ?g) (fun h11=>iL (fun h12 => ?h) (fun h12=>iL (fun h13 => ?i) (fun h13=>iL (fun h14 => ?j) (fun h14=>(by rw [p7 (by assumption) (by assumption),Jt (by assumption) rfl (by dsimp only [D] at *;omega)])))))⟩⟩⟩) (fun h6=>iL (fun h7 => ?k) (fun h7=>iL (fun h8 => ?l) (fun h8=>(by rw [p7 (by assumption) (by assumption),wX (by assumption) rfl (by dsimp only [D] at *;omega)]))))⟩)⟩) (fun h2=>iQ (fun h3=>⟨?m,fun h4 h5=>⟨?n,fun h6 h7=>⟨?o,iL (fun h8 => ?p) (fun h8=>iL (fun h9 => ?q) (fun h9=>iL (fun h10 => ?r) (fun h10=>iL (fun h11 => ?s) (fun h11 => ?t))))⟩⟩⟩) (fun h3=>iL (fun h4 => ?u) (fun h4=>iL (fun h5 => ?v) (fun h5=>(by rw [Aw (by assumption),wX (by simp_all) rfl (by dsimp only [D] at *;omega)])))))⟩⟩
 case a|d|i|j|m|r|s=>omega
 case b|c|e|f|n|o=>
  have hb:=mP hp.2.2.1 hp.2.1 hp.2.2.2.1 hp.2.2.2.2.1;have ht:=r8 t hp.1 hp.2.1 hp.2.2.1;have hs:=hp.2.2.2.2.2;unfold Small Word at hs;dsimp only [D] at *
  simp only [aO];omega
 case g|h=>rw [p7 (by assumption) (by assumption),HW (by assumption) (by dsimp only [D] at *;omega)]
 case k|l=>
  have hb:=mP hp.2.2.1 hp.2.1 hp.2.2.2.1 hp.2.2.2.2.1;have ht:=r8 t hp.1 hp.2.1 hp.2.2.1;have hs:=hp.2.2.2.2.2;unfold Small Word at hs;dsimp only [D] at *
  first | omega | (rw [p7 (by assumption) (by assumption),Ax (by assumption) (by omega)])
 case p|q|t=>dsimp only [D] at *;omega
 case u|v=>
  have hb:=mP hp.2.2.1 hp.2.1 hp.2.2.2.1 hp.2.2.2.2.1;have ht:=r8 t hp.1 hp.2.1 hp.2.2.1;have hs:=hp.2.2.2.2.2;unfold Small Word at hs;dsimp only [D] at *
  first | omega | (rw [Aw (by assumption),Ax (by simp_all) (by omega)])
theorem Tryz.Ky:bV Tryz.prog Tryz.B.eT Tryz.X 81 [.slice aA, .slice (.int .i64), .int .i64,aR] [.int .i64, .err] (fun x=>gX x.1/\x.2.1.length=x.1.length/\mB x.2.1/\0<=x.2.2.1/\x.2.2.1 < x.1.length/\Small x.2.2.2.1/\Word x.2.2.2.2.2.1) (fun x y=>y=(fun x=>fI x.1 x.2.1 x.2.2.1 x.2.2.2) x):=
 cK (X:=Tryz.X) Tryz.CF Tryz.func81 (by kernel_rfl) (fun _=>[]) (fun x hw hp=>Kv x.1 x.2.1 x.2.2.1 x.2.2.2 hw hp)
noncomputable def Tryz.yu:List (FuncId × (Bool × bR)):=[(81,(true,aS [.slice aA, .slice (.int .i64), .int .i64,aR] [.int .i64, .err] (fun x=>gX x.1/\x.2.1.length=x.1.length/\mB x.2.1/\0<=x.2.2.1/\x.2.2.1 < x.1.length/\Small x.2.2.2.1/\Word x.2.2.2.2.2.1) (fun x=>fI x.1 x.2.1 x.2.2.1 x.2.2.2)))]
theorem Tryz.CG:bZ Tryz.prog Tryz.B Tryz.X Tryz.yu:=
 aW (aE Tryz.Ky) (cS Tryz.cU)
def G0 (l:List (D aA)) (b:List Int):dE:=[
 (0,fun st=>{X:=Nat,inv:=fun i=>i<=b.length/\∀j,j < i->0<=(nth (.int .i64) b j:Int)/\(nth (.int .i64) b j:Int)<=256,bW:=fun i=>b.length - i,bJ:=fun i=>[(23,sI i)],bL:=[0,1,21,22]}),
 (2,fun st=>{X:=Nat × List (D bO),inv:=fun x=>x.1<=l.length/\kO l b (l.drop x.1) x.1 x.2=kO l b l 0 []/\x.2.length<=10 * x.1,bW:=fun x=>l.length - x.1,bJ:=fun x=>[(37,sI x.1),(8, .s (.one (.app bO x.2 (bG st 8))))],aC:=fun x=>[(bG st 8, .tok bO x.2)],bL:=[0,1,35,36],hM:=[bG st 8]}),
 (4,fun st=>{X:=Nat × List (D bO),inv:=fun x=>x.1<=(nth aA l (dF (.int .i64) st 37).toNat).2.2.2.1.length/\lB (kO l b (l.drop ((dF (.int .i64) st 37).toNat + 1)) ((dF (.int .i64) st 37).toNat + 1)) (lf l b (dF (.int .i64) st 37).toNat ((nth aA l (dF (.int .i64) st 37).toNat).2.2.2.1.drop x.1) x.2)=kO l b l 0 []/\x.2.length<=10 * (dF (.int .i64) st 37).toNat + x.1,bW:=fun x=>(nth aA l (dF (.int .i64) st 37).toNat).2.2.2.1.length - x.1,bJ:=fun x=>[(45,sI x.1),(8, .s (.one (.app bO x.2 (bG st 8))))],aC:=fun x=>[(bG st 8, .tok bO x.2)],bL:=[0,1,9,10,35,36,37,38,39,40,41,42,43,44],hM:=[bG st 8]})]
theorem Kz (l:List (D aA)) (b:List Int) (hw:gI [.slice aA, .slice (.int .i64)] (l,b)) (hp:(fun x=>gX x.1) (l,b)):(dR Tryz.B Tryz.yu Tryz.f35 (G0 l b) [.slice aA, .slice (.int .i64)] [.slice bO, .err] (fun x y=>y=(fun x=>fP x) x) (l,b)).holds:=by
 refine holds_of (p:=
  let za:=List.length b
  let zb:=List.length l
  let zc:=fP (l,b)
  let zd:=Ty.int IntKind.i64
  let ze:=([],aV.no (1:Int))=zc
  let zf:=aO (1:Int)
  let zg:=@List.nil (Int × Int × Int × Unit) = @List.nil (Int × Int × Int × Unit)/\True
  let zh:=Nat × List (Int × Int × Int × Unit)
  let zi:=kO l b l (0:Nat) (@List.nil Pt)
  let zj:=fun (x_1:Nat × List (Int × Int × Int × Unit))=>(10:Nat) * x_1.1
  let zk:=fun (x_1:Nat × List (Int × Int × Int × Unit))=>(↑x_1.1:Int)
  let zl:=fun (x_1:Nat × List (Int × Int × Int × Unit))=>zk x_1 < (↑zb:Int)
  let zm:=fun (x_1:Nat × List (Int × Int × Int × Unit))=>(0:Int)<=zk x_1
  let zn:=fun (x_1:Nat × List (Int × Int × Int × Unit))=>(nth aA l x_1.1).2.2.2.1
  let zo:=fun (x_1:Nat × List (Int × Int × Int × Unit))=>List.length (zn x_1)
  let zp:=fun (x_1:Nat × List (Int × Int × Int × Unit))=>kO l b (List.drop (x_1.1 + (1:Nat)) l) (x_1.1 + (1:Nat))
  let zq:=fun (x_1 x_2:Nat × List (Int × Int × Int × Unit))=>(fI l b (zk x_1) (nth aR (zn x_1) x_2.1)).2
  let zr:=fun (x_1 x_2:Nat × List (Int × Int × Int × Unit))=>[(zk x_1,(nth aR (zn x_1) x_2.1).1,(fI l b (zk x_1) (nth aR (zn x_1) x_2.1)).1,())]
  ((za<=aL)->((zb<=aL)->((((↑za:Int) != (↑zb:Int))=true->(([],aV.no (3:Int))=zc))/\(((↑za:Int) != (↑zb:Int))=false->((za<=aL)->(∃(x:Nat),(x<=za/\∀(j:Nat),j < x->(0:Int)<=nth zd b j/\nth zd b j<=(256:Int))/\((0:Int)=(↑x:Int)/\True)/\True)/\(∀x_0:Nat,((x_0<=za/\∀(j:Nat),j < x_0->(0:Int)<=nth zd b j/\nth zd b j<=(256:Int))->(((decide ((↑x_0:Int) < (↑za:Int)))=true->((0:Int)<=(↑x_0:Int)/\(↑x_0:Int) < (↑za:Int))/\(((decide (nth zd b x_0 < (0:Int)))=true->(ze))/\((decide (nth zd b x_0 < (0:Int)))=false->(((decide (nth zd b x_0 > (256:Int)))=true->(ze))/\((decide (nth zd b x_0 > (256:Int)))=false->((aO (↑x_0:Int))->((zf)->(aO ((↑x_0:Int) + (1:Int)))/\(∃(x':Nat),(x'<=za/\∀(j:Nat),j < x'->(0:Int)<=nth zd b j/\nth zd b j<=(256:Int))/\za - x' < za - x_0/\((↑x_0:Int) + (1:Int)=(↑x':Int)/\True)/\zg))))))))/\((decide ((↑x_0:Int) < (↑za:Int)))=false->((zb<=aL)->(∃(x:zh),(Prod.fst x<=zb/\kO l b (List.drop (Prod.fst x) l) (Prod.fst x) (Prod.snd x)=zi/\List.length (Prod.snd x)<=(10:Nat) * Prod.fst x)/\((0:Int)=(↑(Prod.fst x):Int)/\@List.nil (Int × Int × Int × Unit)=Prod.snd x/\True)/\@List.nil (Int × Int × Int × Unit)=Prod.snd x/\True)/\(∀x_1:Nat × List (Int × Int × Int × Unit),((x_1.1<=zb/\kO l b (List.drop x_1.1 l) x_1.1 x_1.2=zi/\List.length x_1.2<=zj x_1)->(((decide (zl x_1))=true->(zm x_1/\zl x_1)/\((zo x_1<=aL)->(∃(x:zh),(Prod.fst x<=zo x_1/\lB (zp x_1) (lf l b x_1.1 (List.drop (Prod.fst x) (zn x_1)) (Prod.snd x))=zi/\List.length (Prod.snd x)<=zj x_1 + Prod.fst x)/\((0:Int)=(↑(Prod.fst x):Int)/\x_1.2=Prod.snd x/\True)/\x_1.2=Prod.snd x/\True)/\(∀x_2:Nat × List (Int × Int × Int × Unit),((x_2.1<=zo x_1/\lB (zp x_1) (lf l b x_1.1 (List.drop x_2.1 (zn x_1)) x_2.2)=zi/\List.length x_2.2<=zj x_1 + x_2.1)->(((decide (zk x_2 < (↑(zo x_1):Int)))=true->(zm x_2/\zk x_2 < (↑(zo x_1):Int))/\(gX l/\za=zb/\mB b/\zm x_1/\zl x_1/\Small (nth aR (zn x_1) x_2.1).1/\Word (nth aR (zn x_1) x_2.1).2.2.1)/\(((!aV.isNil (zq x_1 x_2))=true->(([],zq x_1 x_2)=zc))/\((!aV.isNil (zq x_1 x_2))=false->(x_2.2=x_2.2/\List.length x_2.2 + List.length (zr x_1 x_2)<=(1000000000:Nat))/\((aO (zk x_2))->((zf)->(aO (zk x_2 + (1:Int)))/\(∃(x':zh),(Prod.fst x'<=zo x_1/\lB (zp x_1) (lf l b x_1.1 (List.drop (Prod.fst x') (zn x_1)) (Prod.snd x'))=zi/\List.length (Prod.snd x')<=zj x_1 + Prod.fst x')/\zo x_1 - Prod.fst x' < zo x_1 - x_2.1/\(zk x_2 + (1:Int)=(↑(Prod.fst x'):Int)/\x_2.2++zr x_1 x_2=Prod.snd x'/\True)/\x_2.2++zr x_1 x_2=Prod.snd x'/\((nth aA l x_1.1).1=(nth aA l x_1.1).1/\(nth aA l x_1.1).2.1=(nth aA l x_1.1).2.1/\(nth aA l x_1.1).2.2.1=(nth aA l x_1.1).2.2.1/\zn x_1=zn x_1/\True)/\@List.nil (Int × Int × Int × List UInt8 × Bool × Unit) = @List.nil (Int × Int × Int × List UInt8 × Bool × Unit)/\@List.nil (List UInt8 × Int × Bool × Unit) = @List.nil (List UInt8 × Int × Bool × Unit)/\@List.nil Int = @List.nil Int/\@List.nil (List UInt8) = @List.nil (List UInt8)/\zg))))))/\((decide (zk x_2 < (↑(zo x_1):Int)))=false->((aO (zk x_1))->((zf)->(aO (zk x_1 + (1:Int)))/\(∃(x':zh),(Prod.fst x'<=zb/\kO l b (List.drop (Prod.fst x') l) (Prod.fst x') (Prod.snd x')=zi/\List.length (Prod.snd x')<=(10:Nat) * Prod.fst x')/\zb - Prod.fst x' < zb - x_1.1/\(zk x_1 + (1:Int)=(↑(Prod.fst x'):Int)/\x_2.2=Prod.snd x'/\True)/\x_2.2=Prod.snd x'/\zg)))))))))/\((decide (zl x_1))=false->((x_1.2,aV.nil)=zc)))))))))))))))) (by kernel_rfl) ?_
 dsimp -iota -proj -eta only
 dsimp only at hp
 refine fun h0 h1=>iN (fun h2=>((HV (by omega)).symm)) (fun h2 h3=>⟨(⟨0,⟨by omega,fun j hj=>by omega⟩,⟨rfl,trivial⟩,trivial⟩),fun x_0 q_0=>iL (fun h4=>⟨?a,iL (fun h5 => ?b) (fun h5=>iL (fun h6 => ?c) (fun h6 h7 h8=>⟨?d,(⟨x_0 + 1,⟨by omega,lA q_0.2 (by dsimp only [D] at *;omega)⟩,by omega,⟨by omega,trivial⟩,(by trivial)⟩)⟩))⟩) (fun h4 h5=>⟨(⟨(0,[]),⟨by omega,rfl,by simp⟩,(by trivial),(by trivial)⟩),fun x_1 q_1=>iL (fun h6=>⟨?e,fun h7=>⟨(by exact ⟨(0,x_1.2),⟨by omega,by rw [<-F6 (by omega)];exact q_1.2.1,by simp only;omega⟩,(by trivial),(by trivial)⟩),fun x_2 q_2=>iL (fun h8=>⟨?f,?g,iB (fun h9 => ?h) (fun h9=>⟨?i,fun h10 h11=>⟨?j,?k⟩⟩)⟩) (fun h8 h9 h10=>⟨?l,?m⟩)⟩⟩) (fun h6 => ?n)⟩)⟩)
 case a|e|f=>omega
 case b|c=>exact (F7 (i:=x_0) (by omega) (by omega) (by dsimp only [D] at *;omega)).symm
 case d|j|l=>simp only [aO,aL] at *;omega
 case g=>
  have hlen:b.length=l.length:=(by omega);have hib:mB b:=fun j hj=>q_0.2 j (by omega)
  have hm:=hp.2 x_1.1 (by omega);have htk:=hm.2.2 x_2.1 (by omega);have hb:=mP (i:=(x_1.1:Int)) hib hlen (by omega) (by omega);unfold Small Word at htk;rw [Int.toNat_natCast] at hb
  exact ⟨hp,hlen,hib,by omega,by omega,htk.1,htk.2⟩
 case h=>
  have hlen:b.length=l.length:=(by omega);have hib:mB b:=fun j hj=>q_0.2 j (by omega)
  rw [wW hlen hib,<-q_2.2.1,Jq (by omega) (by assumption)]
 case i=>
  have hlen:b.length=l.length:=(by omega);have hib:mB b:=fun j hj=>q_0.2 j (by omega)
  have hm:=hp.2 x_1.1 (by omega);have htk:=hm.2.2 x_2.1 (by omega);have hb:=mP (i:=(x_1.1:Int)) hib hlen (by omega) (by omega);unfold Small Word at htk;rw [Int.toNat_natCast] at hb
  have:=hm.1;have:=hp.1
  exact ⟨rfl,by simp only [List.length_singleton,aL];omega⟩
 case k=>
  have ho:(fI l b x_1.1 (nth aR (nth aA l x_1.1).2.2.2.1 x_2.1)).2.isNil=true:=by assumption
  exact ⟨(x_2.1 + 1,_),⟨by omega,by rw [<-q_2.2.1,Kj (k:=x_2.1) (by omega) ho],by simp only [List.length_append,List.length_singleton];omega⟩,by simp only;omega,⟨by simp only;omega,rfl,trivial⟩,(by trivial)⟩
 case m=>
  have hm:=hp.2 x_1.1 (by omega)
  exact ⟨(x_1.1 + 1,x_2.2),⟨by omega,by rw [<-q_2.2.1,Jr (by omega)],by have:=hm.1;simp only;omega⟩,by simp only;omega,⟨by simp only;omega,rfl,trivial⟩,(by trivial)⟩
 case n=>
  have hlen:b.length=l.length:=(by omega);have hib:mB b:=fun j hj=>q_0.2 j (by omega)
  rw [wW hlen hib,<-q_1.2.1,Jp (by omega)]
theorem Tryz.KA:bV Tryz.prog Tryz.B.eT Tryz.X 35 [.slice aA, .slice (.int .i64)] [.slice bO, .err] (fun x=>gX x.1) (fun x y=>y=(fun x=>fP x) x):=
 cK (X:=Tryz.X) Tryz.CG Tryz.func35 (by kernel_rfl) (fun x=>G0 x.1 x.2) (fun x hw hp=>Kz x.1 x.2 hw hp)
end Go.Proofs.YtgokjhhcfemnhacGreatDoor

namespace Go.Proofs.YtgokjhhcfemnhacGreatDoor
open Go.Vg Go.Mrl
def G1 (w:List (List Int)) (l:List (D bO)):dE:=[
 (200000,fun st=>{X:=Nat,inv:=fun i=>i<=w.length,bW:=fun i=>w.length - i,bJ:=fun i=>[(13,sI i)],aN:=[.ext 0 jI],refs:=[(6,0)],pd:=fun i=>(w.take i,()),bL:=[1,4,5,11,12]}),
 (2,fun st=>{X:=Nat,inv:=fun k=>k<=l.length/\∀j,j < k->p6 w (nth bO l j),bW:=fun k=>l.length - k,bJ:=fun k=>[(25,sI k)],aC:=fun k=>[(bG st 6, .ext 0 jI (kQ w (l.take k)))],bL:=[6,23,24],hM:=[bG st 6]})]
theorem KB (w:List (List Int)) (l:List (D bO)) (hw:gI [jI, .slice bO] (w,l)) (hp:(fun x=>x.1.length<=100000/\∀i,i < x.1.length->(nth gu x.1 i).length<=100000000) (w,l)):(dR (nT Tryz.B [6]) [] Tryz.f36 (G1 w l) [jI, .slice bO] [jI, .err] (fun x y=>y=(fun x=>gv x) x) (w,l)).holds:=by
 refine holds_of (p:=
  let za:=List.length w
  let zb:=@List.nil (List Int) = @List.nil (List Int)/\True
  let zc:=(!false && true)=true
  let zd:=fun (x_0:Nat)=>[nth (Ty.slice (Ty.int IntKind.i64)) w x_0]
  let ze:=fun (x_0:Nat)=>(↑x_0:Int) + (1:Int)
  let zf:=List.length l
  let zg:=fun (x_1:Nat)=>(nth bO l x_1).1
  let zh:=([],aV.no (1:Int))=gv (w,l)
  let zi:=fun (x_1:Nat)=>kQ w (List.take x_1 l)
  let zj:=fun (x_1:Nat)=>(nth bO l x_1).2.1
  let zk:=fun (x_1:Nat)=>(0:Int)<=zg x_1/\zg x_1 < (↑(List.length (zi x_1)):Int)
  let zl:=fun (x_1:Nat)=>Int.toNat (zg x_1) < List.length (zi x_1)
  let zm:=fun (x_1:Nat)=>nth gu (zi x_1) (Int.toNat (zg x_1))
  ((za<=aL)->(((∃(x':Nat),x'<=za/\True/\((0:Int)=(↑x':Int)/\True)/\zb/\zc/\([],())=(List.take x' w,())))/\((∀x_0:Nat,((x_0<=za)->(((decide ((↑x_0:Int) < (↑za:Int)))=true->((0:Int)<=(↑x_0:Int)/\(↑x_0:Int) < (↑za:Int))/\(List.length (nth (Ty.slice (Ty.int IntKind.i64)) w x_0)<=(1000000000:Nat))/\((0:Nat) < List.length (zd x_0)/\List.length (List.take x_0 w) + List.length (zd x_0)<=(1000000000:Nat))/\((aO (↑x_0:Int))->((aO (1:Int))->(aO (ze x_0))/\(∃(x':Nat),x'<=za/\za - x' < za - x_0/\(ze x_0=(↑x':Int)/\True)/\zb/\zc/\(List.take x_0 w++zd x_0,())=(List.take x' w,())))))/\((decide ((↑x_0:Int) < (↑za:Int)))=false->((zf<=aL)->(∃(x:Nat),(x<=zf/\∀(j:Nat),j < x->p6 w (nth bO l j))/\((0:Int)=(↑x:Int)/\True)/\List.take x_0 w=kQ w (List.take x l)/\True)/\(∀x_1:Nat,((x_1<=zf/\∀(j:Nat),j < x_1->p6 w (nth bO l j))->(((decide ((↑x_1:Int) < (↑zf:Int)))=true->((0:Int)<=(↑x_1:Int)/\(↑x_1:Int) < (↑zf:Int))/\(((decide (zg x_1 < (0:Int)))=true->(zh))/\((decide (zg x_1 < (0:Int)))=false->((List.length (zi x_1)<=aL)->(((decide (zg x_1>=(↑(List.length (zi x_1)):Int)))=true->(zh))/\((decide (zg x_1>=(↑(List.length (zi x_1)):Int)))=false->(((decide (zj x_1 < (0:Int)))=true->(zh))/\((decide (zj x_1 < (0:Int)))=false->(zk x_1)/\(zl x_1)/\(zl x_1)/\((List.length (zm x_1)<=aL)->(((decide (zj x_1>=(↑(List.length (zm x_1)):Int)))=true->(zh))/\((decide (zj x_1>=(↑(List.length (zm x_1)):Int)))=false->(zk x_1)/\(zl x_1)/\(zl x_1/\(0:Int)<=zj x_1/\zj x_1 < (↑(List.length (zm x_1)):Int))/\(zl x_1/\Int.toNat (zj x_1) < List.length (zm x_1))/\((aO (↑x_1:Int))->((aO (1:Int))->(aO (ze x_1))/\(∃(x':Nat),(x'<=zf/\∀(j:Nat),j < x'->p6 w (nth bO l j))/\zf - x' < zf - x_1/\(ze x_1=(↑x':Int)/\True)/\List.set (zi x_1) (Int.toNat (zg x_1)) (List.set (zm x_1) (Int.toNat (zj x_1)) (nth bO l x_1).2.2.1)=kQ w (List.take x' l)/\zb))))))))))))))/\((decide ((↑x_1:Int) < (↑zf:Int)))=false->((zi x_1,aV.nil)=gv (w,l))))))))))))))) (by kernel_rfl) ?_
 dsimp -iota -proj -eta only
 dsimp only at hp
 refine fun h0=>⟨(⟨0,by omega,trivial,⟨rfl,trivial⟩,⟨rfl,trivial⟩,rfl,rfl⟩),fun x_0 q_0=>iL (fun h1=>⟨?a,(by have:=hp.2 x_0 (by omega);show List.length (nth gu w x_0)<=1000000000;omega),(by have:=hp.1;simp only [List.length_singleton,List.length_take,aL];omega),fun h2 h3=>⟨?b,(⟨x_0 + 1,by omega,by omega,⟨by omega,trivial⟩,⟨rfl,trivial⟩,rfl,by rw [iO (t:=gu) (by omega)]⟩)⟩⟩) (fun h1 h2=>⟨(by exact ⟨0,⟨by omega,fun j hj=>by omega⟩,⟨rfl,trivial⟩,by rw [List.take_of_length_le (by omega)];rfl,trivial⟩),fun x_1 q_1=>iL (fun h3=>⟨?c,iL (fun h4 => ?d) (fun h4 h5=>iE (fun h6 => ?e) (fun h6=>iL (fun h7 => ?f) (fun h7=>⟨?g,?h,?i,fun h8=>iE (fun h9 => ?j) (fun h9=>⟨?k,?l,?m,?n,fun h10 h11=>⟨?o,?p⟩⟩)⟩)))⟩) (fun h3=>(by rw [wV fun i hi=>q_1.2 i (by omega),List.take_of_length_le (by omega)]))⟩)⟩
 case a|c=>omega
 case b|o=>simp only [aO,aL] at *;omega
 case d|e|f|j=>
  have hr:=r6 (l.take x_1) w (nth bO l x_1).1.toNat;have hll:=nn (l.take x_1) w
  exact (HS (i:=x_1) (by omega) (by unfold p6;dsimp only [D] at *;omega)).symm
 case g|h|i|k|l|m|n=>
  have hr:=r6 (l.take x_1) w (nth bO l x_1).1.toNat;have hll:=nn (l.take x_1) w
  first | omega | (dsimp only [D] at *;omega)
 case p=>
  have hr:=r6 (l.take x_1) w (nth bO l x_1).1.toNat;have hll:=nn (l.take x_1) w
  exact ⟨x_1 + 1,⟨by omega,lA q_1.2 (by unfold p6;dsimp only [D] at *;omega)⟩,by omega,⟨by omega,trivial⟩,F5 (by omega),(by trivial)⟩
theorem Tryz.KC:bV Tryz.prog Tryz.B.eT Tryz.X 36 [jI, .slice bO] [jI, .err] (fun x=>x.1.length<=100000/\∀i,i < x.1.length->(nth gu x.1 i).length<=100000000) (fun x y=>y=(fun x=>gv x) x):=
 cK (B:=(nT Tryz.B [6])) (X:=Tryz.X) (bZ.hint (l:=[6]) (cS Tryz.cU)) Tryz.func36 (by kernel_rfl) (fun x=>G1 x.1 x.2) (fun x hw hp=>KB x.1 x.2 hw hp)
end Go.Proofs.YtgokjhhcfemnhacGreatDoor

namespace Go.Proofs.YtgokjhhcfemnhacGreatDoor
open Go.Vg Go.Mrl
def BA (l:List (D aA)):dE:=[
 (0,fun st=>{X:=Nat,inv:=fun i=>i<=l.length,bW:=fun i=>l.length - i,bJ:=fun i=>[(8,sI i),(3, .s (.one (.app (.int .i64) (cL (l.take i)) (bG st 3))))],aC:=fun i=>[(bG st 3, .tok (.int .i64) (cL (l.take i)))],bL:=[2,6,7],hM:=[bG st 3]})]
theorem G2 (l:List (D aA)) (hw:gI [.slice aA] l) (hp:(fun l=>l.length<=1000) l):(dR Tryz.B [] Tryz.f114 (BA l) [.slice aA] [.slice (.int .i64)] (fun x y=>y=(fun l=>cL l) x) l).holds:=by
 refine holds_of (p:=
  let za:=List.length l
  let zb:=fun (x_0:Nat)=>List.length (nth aA l x_0).2.1
  let zc:=fun (x_0:Nat)=>cL (List.take x_0 l)
  let zd:=fun (x_0:Nat)=>zc x_0++[(↑(zb x_0):Int)]
  ((za<=aL)->(∃(x:Nat),x<=za/\((0:Int)=(↑x:Int)/\@List.nil Int=cL (List.take x l)/\True)/\@List.nil Int=cL (List.take x l)/\True)/\(∀x_0:Nat,((x_0<=za)->(((decide ((↑x_0:Int) < (↑za:Int)))=true->((0:Int)<=(↑x_0:Int)/\(↑x_0:Int) < (↑za:Int))/\((zb x_0<=aL)->(zc x_0=zc x_0/\List.length (zc x_0) + List.length [(↑(zb x_0):Int)]<=(1000000000:Nat))/\((aO (↑x_0:Int))->((aO (1:Int))->(aO ((↑x_0:Int) + (1:Int)))/\(∃(x':Nat),x'<=za/\za - x' < za - x_0/\((↑x_0:Int) + (1:Int)=(↑x':Int)/\zd x_0=cL (List.take x' l)/\True)/\zd x_0=cL (List.take x' l)/\@List.nil Int = @List.nil Int/\True)))))/\((decide ((↑x_0:Int) < (↑za:Int)))=false->(zc x_0=cL l))))))) (by kernel_rfl) ?_
 dsimp -iota -proj -eta only
 exact fun h0=>⟨(⟨0,by omega,⟨rfl,rfl,trivial⟩,rfl,trivial⟩),fun x_0 q_0=>iL (fun h1=>⟨(by omega),fun h2=>⟨(by exact ⟨rfl,by rw [EL,List.length_take];simp only [List.length_singleton];omega⟩),fun h3 h4=>⟨(by simp only [aO,aL] at *;omega),(⟨x_0 + 1,by omega,by omega,⟨by omega,(tO (by omega)).symm,trivial⟩,(tO (by omega)).symm,(by trivial)⟩)⟩⟩⟩) (fun h1=>(by rw [List.take_of_length_le (by omega)]))⟩
theorem Tryz.G3:bV Tryz.prog Tryz.B.eT Tryz.X 114 [.slice aA] [.slice (.int .i64)] (fun l=>l.length<=1000) (fun x y=>y=(fun l=>cL l) x):=
 cK (X:=Tryz.X) (cS Tryz.cU) Tryz.func114 (by kernel_rfl) (fun x=>BA x) (fun x hw hp=>G2 x hw hp)
def BB (l:List (D aA)):dE:=[
 (0,fun st=>{X:=Nat,inv:=fun i=>i<=l.length,bW:=fun i=>l.length - i,bJ:=fun i=>[(8,sI i),(3, .s (.one (.app gu (cQ (l.take i)) (bG st 3))))],aC:=fun i=>[(bG st 3, .tok gu (cQ (l.take i)))],bL:=[2,6,7],hM:=[bG st 3]})]
theorem G4 (l:List (D aA)) (hw:gI [.slice aA] l) (hp:(fun l=>l.length<=1000) l):(dR Tryz.B [] Tryz.f115 (BB l) [.slice aA] [jI] (fun x y=>y=(fun l=>cQ l) x) l).holds:=by
 refine holds_of (p:=
  let za:=List.length l
  let zb:=fun (x_0:Nat)=>cQ (List.take x_0 l)
  let zc:=fun (x_0:Nat)=>zb x_0++[(nth aA l x_0).2.1]
  ((za<=aL)->(∃(x:Nat),x<=za/\((0:Int)=(↑x:Int)/\@List.nil (List Int)=cQ (List.take x l)/\True)/\@List.nil (List Int)=cQ (List.take x l)/\True)/\(∀x_0:Nat,((x_0<=za)->(((decide ((↑x_0:Int) < (↑za:Int)))=true->((0:Int)<=(↑x_0:Int)/\(↑x_0:Int) < (↑za:Int))/\(zb x_0=zb x_0/\List.length (zb x_0) + List.length [(nth aA l x_0).2.1]<=(1000000000:Nat))/\((aO (↑x_0:Int))->((aO (1:Int))->(aO ((↑x_0:Int) + (1:Int)))/\(∃(x':Nat),x'<=za/\za - x' < za - x_0/\((↑x_0:Int) + (1:Int)=(↑x':Int)/\zc x_0=cQ (List.take x' l)/\True)/\zc x_0=cQ (List.take x' l)/\@List.nil (List Int) = @List.nil (List Int)/\True))))/\((decide ((↑x_0:Int) < (↑za:Int)))=false->(zb x_0=cQ l))))))) (by kernel_rfl) ?_
 dsimp -iota -proj -eta only
 exact fun h0=>⟨(⟨0,by omega,⟨rfl,rfl,trivial⟩,rfl,trivial⟩),fun x_0 q_0=>iL (fun h1=>⟨(by omega),(by exact ⟨rfl,by rw [mw,List.length_take];simp only [List.length_singleton];omega⟩),fun h2 h3=>⟨(by simp only [aO,aL] at *;omega),(⟨x_0 + 1,by omega,by omega,⟨by omega,(tP (by omega)).symm,trivial⟩,(tP (by omega)).symm,(by trivial)⟩)⟩⟩) (fun h1=>(by rw [List.take_of_length_le (by omega)]))⟩
theorem Tryz.G5:bV Tryz.prog Tryz.B.eT Tryz.X 115 [.slice aA] [jI] (fun l=>l.length<=1000) (fun x y=>y=(fun l=>cQ l) x):=
 cK (X:=Tryz.X) (cS Tryz.cU) Tryz.func115 (by kernel_rfl) (fun x=>BB x) (fun x hw hp=>G4 x hw hp)
noncomputable def Tryz.G6:List (FuncId × (Bool × bR)):=[(115,(true,aS [.slice aA] [jI] (fun l=>l.length<=1000) (fun l=>cQ l))),
 (36,(true,aS [jI, .slice bO] [jI, .err] (fun x=>x.1.length<=100000/\∀i,i < x.1.length->(nth gu x.1 i).length<=100000000) (fun x=>gv x)))]
theorem Tryz.IE:bZ Tryz.prog Tryz.B Tryz.X Tryz.G6:=
 aW (aE Tryz.G5) (aW (aE Tryz.KC) (cS Tryz.cU))
noncomputable def G7 (ns:List (List UInt8)) (bs:List Int) (os:List (D aA)) (ps:List (D bO)):dE:=[
 (0,fun st=>{X:=Nat,inv:=fun i=>i<=os.length,bW:=fun i=>os.length - i,bJ:=fun i=>[(39,sI i),(12, .s (.one (.app hP (im ns bs (gv (cQ os,ps)).1 i) (bG st 12))))],aC:=fun i=>[(bG st 12, .tok hP (im ns bs (gv (cQ os,ps)).1 i))],bL:=[0,1,8,9,10,38],hM:=[bG st 12]})]
theorem KD (ns:List (List UInt8)) (bs:List Int) (os:List (D aA)) (ps:List (D bO)) (hw:gI [.slice .str, .slice (.int .i64), .slice aA, .slice bO] (ns,bs,os,ps)) (hp:(fun x=>x.2.2.1.length<=1000/\∀i,i < x.2.2.1.length->(nth aA x.2.2.1 i).2.1.length<=1000) (ns,bs,os,ps)):(dR Tryz.B Tryz.G6 Tryz.f80 (G7 ns bs os ps) [.slice .str, .slice (.int .i64), .slice aA, .slice bO] [.slice hP, .err] (fun x y=>y=(fun x=>gV x.1 x.2.1 x.2.2.1 x.2.2.2) x) (ns,bs,os,ps)).holds:=by
 refine holds_of (p:=
  let za:=List.length os
  let zb:=za<=aL
  let zc:=(↑(List.length ns):Int)
  let zd:=(↑za:Int)
  let ze:=gV ns bs os ps
  let zf:=([],aV.no (3:Int))=ze
  let zg:=(↑(List.length bs):Int)
  let zh:=cQ os
  let zi:=gv (zh,ps)
  let zj:=(gv (zh,ps)).1
  let zk:=fun (x_0:Nat)=>(↑x_0:Int)
  let zl:=fun (x_0:Nat)=>(0:Int)<=zk x_0
  let zm:=fun (x_0:Nat)=>im ns bs zj x_0
  let zn:=fun (x_0:Nat)=>[(nth Ty.str ns x_0,nth (Ty.int IntKind.i64) bs x_0,nth (Ty.slice (Ty.int IntKind.i64)) zi.1 x_0,())]
  ((List.length ns<=aL)->((zb)->(((zc != zd)=true->(zf))/\((zc != zd)=false->((List.length bs<=aL)->((zb)->(((zg != zd)=true->(zf))/\((zg != zd)=false->(za<=(1000:Nat))/\(List.length zh<=(100000:Nat)/\∀(i:Nat),i < List.length zh->List.length (nth gu zh i)<=(100000000:Nat))/\(((!aV.isNil zi.2)=true->(([],zi.2)=ze))/\((!aV.isNil zi.2)=false->((zb)->(∃(x:Nat),x<=za/\((0:Int)=(↑x:Int)/\@List.nil (List UInt8 × Int × List Int × Unit)=im ns bs zj x/\True)/\@List.nil (List UInt8 × Int × List Int × Unit)=im ns bs zj x/\True)/\(∀x_0:Nat,((x_0<=za)->(((decide (zk x_0 < zd))=true->(zl x_0/\zk x_0 < zc)/\(zl x_0/\zk x_0 < zg)/\(zl x_0/\zk x_0 < (↑(List.length zi.1):Int))/\(zm x_0=zm x_0/\List.length (zm x_0) + List.length (zn x_0)<=(1000000000:Nat))/\((aO (zk x_0))->((aO (1:Int))->(aO (zk x_0 + (1:Int)))/\(∃(x':Nat),x'<=za/\za - x' < za - x_0/\(zk x_0 + (1:Int)=(↑x':Int)/\zm x_0++zn x_0=im ns bs zj x'/\True)/\zm x_0++zn x_0=im ns bs zj x'/\@List.nil (List UInt8 × Int × List Int × Unit) = @List.nil (List UInt8 × Int × List Int × Unit)/\True))))/\((decide (zk x_0 < zd))=false->((zm x_0,aV.nil)=ze))))))))))))))))) (by kernel_rfl) ?_
 dsimp -iota -proj -eta only
 dsimp only at hp
 refine fun h0 h1=>iN (fun h2=>((wj (.inl (by omega))).symm)) (fun h2 h3 h4=>iN (fun h5=>((wj (.inr (by omega))).symm)) (fun h5=>⟨?a,(Jx hp),iB (fun h6=>((Ic (by omega) (by omega) h6).symm)) (fun h6 h7=>⟨(⟨0,by omega,⟨rfl,rfl,trivial⟩,rfl,trivial⟩),fun x_0 q_0=>iL (fun h8=>⟨?b,?c,(by rw [HU (by assumption),mw];omega),(by exact ⟨rfl,by rw [EO];simp only [List.length_singleton];omega⟩),fun h9 h10=>⟨(by simp only [aO,aL] at *;omega),(⟨x_0 + 1,by omega,by omega,⟨by omega,(tR _ _ _ _).symm,trivial⟩,(tR _ _ _ _).symm,(by trivial)⟩)⟩⟩) (fun h8=>(by rw [Dp (by omega) (by omega) (by assumption),show x_0=os.length by omega]))⟩)⟩))
 case a|b|c=>omega
theorem Tryz.G8:bV Tryz.prog Tryz.B.eT Tryz.X 80 [.slice .str, .slice (.int .i64), .slice aA, .slice bO] [.slice hP, .err] (fun x=>x.2.2.1.length<=1000/\∀i,i < x.2.2.1.length->(nth aA x.2.2.1 i).2.1.length<=1000) (fun x y=>y=(fun x=>gV x.1 x.2.1 x.2.2.1 x.2.2.2) x):=
 cK (X:=Tryz.X) Tryz.IE Tryz.func80 (by kernel_rfl) (fun x=>G7 x.1 x.2.1 x.2.2.1 x.2.2.2) (fun x hw hp=>KD x.1 x.2.1 x.2.2.1 x.2.2.2 hw hp)
noncomputable def Tryz.yv:List (FuncId × (Bool × bR)):=[(31,(false,bQ Tryz.aM [.obj 0, .d .str] (fun _ x=>x.2.1.1.length<=6) Tryz.w8)),
 (114,(true,aS [.slice aA] [.slice (.int .i64)] (fun l=>l.length<=1000) (fun l=>cL l))),
 (113,(true,aS [.slice (.int .i64), .slice aU] [.slice (.int .i64), .err] (fun _=>True) (fun x=>cP x))),
 (35,(true,aS [.slice aA, .slice (.int .i64)] [.slice bO, .err] (fun x=>gX x.1) (fun x=>fP x)))]
theorem Tryz.CH:bZ Tryz.prog Tryz.B Tryz.X Tryz.yv:=
 aW (Tryz.CB) (aW (aE Tryz.G3) (aW (aE Tryz.IB) (aW (aE Tryz.KA) (cS Tryz.cU))))
noncomputable def Tryz.nX:List (Alt Tryz.aM [.obj 0, .d .str]):=[{bP:=Tryz.aM,res:=[.d (.slice .str), .d (.slice aA), .d (.slice (.int .i64)), .d (.slice bO), .d .err],out:=fun _ x=>x,ret:=fun a x=>((aT (aH x) a.1).1,(aT (aH x) a.1).2.1,(aT (aH x) a.1).2.2.1,(aT (aH x) a.1).2.2.2.1,aP (aT (aH x) a.1).2.2.2.2,())}]
theorem G9 (s:List UInt8) (f:bM) (hw:mg [.obj 0, .d .str] (s,())) (hp:(fun _ x=>x.2.1.1.length<=6) (s,()) f):(gW Tryz.B Tryz.yv Tryz.f79 [] Tryz.aM [.obj 0, .d .str] Tryz.nX (s,()) f).holds:=by
 refine holds_of (p:=
  let za:=bA (aH f) s
  let zb:=aP za.2.2
  let zc:=f=f
  let zd:=aT (aH f) s
  let ze:=(zd.1,zd.2.1,zd.2.2.1,zd.2.2.2.1,aP zd.2.2.2.2,())
  let zf:=za.2.1
  let zg:=cP (cL zf,[])
  let zh:=fP (zf,zg.1)
  (List.length f.2.1.1<=(6:Nat))/\((True)->(((!aV.isNil zb)=true->(True/\zc/\([],[],[],[],zb,())=ze))/\((!aV.isNil zb)=false->(List.length zf<=(1000:Nat))/\(True)/\(((!aV.isNil zg.2)=true->(True/\zc/\([],[],[],[],zg.2,())=ze))/\((!aV.isNil zg.2)=false->(gX zf)/\(((!aV.isNil zh.2)=true->(True/\zc/\([],[],[],[],zh.2,())=ze))/\((!aV.isNil zh.2)=false->(True/\zc/\(za.1,zf,zg.1,zh.1,aV.nil,())=ze))))))))) (by kernel_rfl) ?_
 dsimp -iota -proj -eta only
 exact ⟨(by trivial),fun h0=>iB (fun h1=>⟨trivial,rfl,by rw [sF (iU h1)]⟩) (fun h1=>⟨(Nat.le_trans (Gw (gL hp) (aZ.1 (by assumption))) (by decide)),trivial,iB (fun h2=>⟨trivial,rfl,by rw [sG (aZ.1 (by assumption)) h2,nW (wh _)]⟩) (fun h2=>⟨(EP (gL hp) (aZ.1 (by assumption))),iB (fun h3=>⟨trivial,rfl,by rw [wi (aZ.1 (by assumption)) (by assumption) h3,Ih]⟩) (fun h3=>(by exact ⟨trivial,rfl,by rw [tQ (aZ.1 (by assumption)) (by assumption) (by assumption)];rfl⟩))⟩)⟩)⟩
theorem Tryz.yw:dS Tryz.prog Tryz.B.eT Tryz.X 79 false (bQ Tryz.aM [.obj 0, .d .str] (fun _ x=>x.2.1.1.length<=6) Tryz.nX):=
 cZ (X:=Tryz.X) Tryz.CH Tryz.func79 (by kernel_rfl) (fun (a:CD [.obj 0, .d .str]) (x:PD Tryz.aM)=>[]) (fun (a:CD [.obj 0, .d .str]) (x:PD Tryz.aM) hw hp=>G9 a.1 x hw hp)
noncomputable def Tryz.Dx:List (FuncId × (Bool × bR)):=[(79,(false,bQ Tryz.aM [.obj 0, .d .str] (fun _ x=>x.2.1.1.length<=6) Tryz.nX)),
 (80,(true,aS [.slice .str, .slice (.int .i64), .slice aA, .slice bO] [.slice hP, .err] (fun x=>x.2.2.1.length<=1000/\∀i,i < x.2.2.1.length->(nth aA x.2.2.1 i).2.1.length<=1000) (fun x=>gV x.1 x.2.1 x.2.2.1 x.2.2.2)))]
theorem Tryz.Ha:bZ Tryz.prog Tryz.B Tryz.X Tryz.Dx:=
 aW (Tryz.yw) (aW (aE Tryz.G8) (cS Tryz.cU))
noncomputable def Tryz.uW:List (Alt Tryz.aM [.obj 0, .d .str]):=[{bP:=Tryz.aM,res:=[.d (.slice hP), .d .err],out:=fun _ x=>x,ret:=fun a x=>((jg (aH x) a.1).1,aP (jg (aH x) a.1).2,())}]
theorem JK (s:List UInt8) (f:bM) (hw:mg [.obj 0, .d .str] (s,())) (hp:(fun _ x=>x.2.1.1.length<=6) (s,()) f):(gW Tryz.B Tryz.Dx Tryz.f34 [] Tryz.aM [.obj 0, .d .str] Tryz.uW (s,()) f).holds:=by
 refine holds_of (p:=
  let za:=aT (aH f) s
  let zb:=aP za.2.2.2.2
  let zc:=jg (aH f) s
  let zd:=(zc.1,aP zc.2,())
  let ze:=List.length za.2.1
  let zf:=gV za.1 za.2.2.1 za.2.1 za.2.2.2.1
  (List.length f.2.1.1<=(6:Nat))/\((True)->(((!aV.isNil zb)=true->(True/\f=f/\([],zb,())=zd))/\((!aV.isNil zb)=false->(ze<=(1000:Nat)/\∀(i:Nat),i < ze->List.length (nth aA za.2.1 i).2.1<=(1000:Nat))/\(True/\f=f/\(zf.1,zf.2,())=zd))))) (by kernel_rfl) ?_
 dsimp -iota -proj -eta only
 exact ⟨(by trivial),fun h0=>iB (fun h1=>⟨trivial,rfl,by rw [Ie (iU h1)]⟩) (fun h1=>⟨(A0 (gL hp) (aZ.1 (by assumption))),⟨trivial,rfl,Ig (aZ.1 (by assumption))⟩⟩)⟩
theorem Tryz.JL:dS Tryz.prog Tryz.B.eT Tryz.X 34 false (bQ Tryz.aM [.obj 0, .d .str] (fun _ x=>x.2.1.1.length<=6) Tryz.uW):=
 cZ (X:=Tryz.X) Tryz.Ha Tryz.func34 (by kernel_rfl) (fun (a:CD [.obj 0, .d .str]) (x:PD Tryz.aM)=>[]) (fun (a:CD [.obj 0, .d .str]) (x:PD Tryz.aM) hw hp=>JK a.1 x hw hp)
end Go.Proofs.YtgokjhhcfemnhacGreatDoor

namespace Go.Proofs.YtgokjhhcfemnhacGreatDoor
open Go.Vg Go.Mrl
end Go.Proofs.YtgokjhhcfemnhacGreatDoor

namespace Go.Proofs.YtgokjhhcfemnhacGreatDoor
open Go.Vg Go.Mrl
noncomputable def Tryz.BC:List (FuncId × (Bool × bR)):=[(76,(true,aS [.str] [.err] (fun _=>True) (fun s=>aP (aK s)))),
 (99,(true,aS [.str] [.int .i64] (fun _=>True) (fun s=>aK s))),
 (21,(true,aS [.err] [.int .i64] (fun _=>True) (fun e=>eS e))),
 (29,(false,bQ [] [] (fun _ _=>True) Tryz.qe)),
 (30,(false,bQ Tryz.aM [.obj 0, .d .str, .d .str] (fun _ x=>x.2.1.1.length<=6/\0<=x.1.1/\x.1.1<=1000000) Tryz.mA)),
 (34,(false,bQ Tryz.aM [.obj 0, .d .str] (fun _ x=>x.2.1.1.length<=6) Tryz.uW)),
 (37,(true,aS [.slice (.int .i64), .slice (.int .i64)] [.bool] (fun _=>True) (fun x=>kI x.1 x.2)))]
theorem Tryz.Fb:bZ Tryz.prog Tryz.B Tryz.X Tryz.BC:=
 aW (aE Tryz.ja) (aW (aE Tryz.eX) (aW (aE Tryz.hZ) (aW (Tryz.w7) (aW (Tryz.sK) (aW (Tryz.JL) (aW (aE Tryz.xb) (cS Tryz.cU)))))))
theorem IF  (hw:gI [] ()):(dR Tryz.B Tryz.BC Tryz.f26 [] [] [.bool] (fun x y=>y=(fun _=>true) x) ()).holds:=by
 refine holds_of (p:=
  let za:=(0:Int)<=(0:Int)
  let zb:=!aV.isNil (aP (0:Int))
  let zc:=false=true
  let zd:=(0:Int) + (1:Int)
  let ze:=dA cH (@List.nil FE) [(97:UInt8)] ([(110:UInt8),101,101,100,32,98,10,119,111,114,100,32,48,10,119,104,111,108,101,32,48,32,48,32,120,10],zd,()) (0:Int)
  let zf:=(zd + (1:Int),())
  let zg:=jy cH (@List.nil FE) [(97:UInt8)] (0:Int)
  let zh:=dA cH ze [(98:UInt8)] ([(119:UInt8),111,114,100,32,55,10,115,121,109,98,111,108,32,120,32,48,10],zf) zg
  let zi:=jg (aH (zf,(zh,jy cH ze [(98:UInt8)] zg,()),())) [(97:UInt8)]
  let zj:=(↑(List.length zi.1):Int)
  (True)/\((True)->(List.length (@List.nil FE)<=(6:Nat)/\za/\(0:Int)<=(1000000:Int))/\((True)->(((zb)=true->(zc))/\((zb)=false->(List.length ze<=(6:Nat)/\(0:Int)<=zd/\zd<=(1000000:Int))/\((True)->(((zb)=true->(zc))/\((zb)=false->(List.length zh<=(6:Nat))/\((True)->(((aV.isNil (aP zi.2))=true->((List.length zi.1<=aL)->(((zj == (2:Int))=true->(za/\(0:Int) < zj)/\(True)/\(kI (nth hP zi.1 (0:Nat)).2.2.1 [(16:Int)]=true))/\((zj == (2:Int))=false->(zc)))))/\((aV.isNil (aP zi.2))=false->(zc)))))))))))) (by kernel_rfl) ?_
 dsimp -iota -proj -eta only
 refine ⟨trivial,fun h0=>⟨?a,fun h1=>⟨fun h2=>absurd (show false=true from h2) (by decide),fun h2=>⟨?b,fun h3=>⟨fun h4=>absurd (show false=true from h4) (by decide),fun h4=>⟨?c,fun h5=>⟨fun h6 h7=>iQ (fun h8=>⟨(by omega),trivial,(by exact (show kI (nth hP (jg (aH Gz) [97]).1 0).2.2.1 [16]=true by rw [uR];rfl))⟩) (fun h8=>(by exact absurd (show ((jg (aH Gz) [97]).1.length:Int)=2 by rw [uR];rfl) h8)),fun h6=>(by exact Bool.noConfusion ((show (aP (jg (aH Gz) [97]).2).isNil=true by rw [uR];rfl).symm.trans h6))⟩⟩⟩⟩⟩⟩⟩
 case a|b|c=>trivial
theorem Tryz.IG:bV Tryz.prog Tryz.B.eT Tryz.X 26 [] [.bool] (fun _=>True) (fun x y=>y=(fun _=>true) x):=
 cK (X:=Tryz.X) Tryz.Fb Tryz.func26 (by kernel_rfl) (fun _=>[]) (fun x hw hp=>IF  hw)
end Go.Proofs.YtgokjhhcfemnhacGreatDoor

namespace Go.Proofs.YtgokjhhcfemnhacGreatDoor
open Go.Vg Go.Mrl
def yx (e:D bK):dE:=[
 (0,fun st=>{X:=Nat,inv:=fun i=>i<=e.2.1.length/\∀j,j < i->(nth aJ e.2.1 j).1.length<=20,bW:=fun i=>e.2.1.length - i,bJ:=fun i=>[(3,sI i)],bL:=[1]})]
theorem yJ (e:D bK) (hw:gI [bK] e):(dR Tryz.B [] Tryz.f56 (yx e) [bK] [.bool] (fun e y=>y=true->ml e) e).holds:=by
 refine holds_of (p:=
  let za:=false=true->ml e
  let zb:=e.2.1
  let zc:=List.length zb
  let zd:=e.2.2.1
  let ze:=fun (x_0:Nat)=>List.length (nth aJ zb x_0).1
  ((List.length e.1<=aL)->(((decide ((↑(List.length e.1):Int) > (20:Int)))=true->(za))/\((decide ((↑(List.length e.1):Int) > (20:Int)))=false->((zc<=aL)->(((decide ((↑zc:Int) > (8:Int)))=true->(za))/\((decide ((↑zc:Int) > (8:Int)))=false->((List.length zd<=aL)->(((decide ((↑(List.length zd):Int) > (40:Int)))=true->(za))/\((decide ((↑(List.length zd):Int) > (40:Int)))=false->(∃(x:Nat),(x<=zc/\∀(j:Nat),j < x->List.length (nth aJ zb j).1<=(20:Nat))/\((0:Int)=(↑x:Int)/\True)/\True)/\(∀x_0:Nat,((x_0<=zc/\∀(j:Nat),j < x_0->List.length (nth aJ zb j).1<=(20:Nat))->((zc<=aL)->(((decide ((↑x_0:Int) < (↑zc:Int)))=true->((0:Int)<=(↑x_0:Int)/\(↑x_0:Int) < (↑zc:Int))/\((ze x_0<=aL)->(((decide ((↑(ze x_0):Int) > (20:Int)))=true->(za))/\((decide ((↑(ze x_0):Int) > (20:Int)))=false->((aO (↑x_0:Int))->((aO (1:Int))->(aO ((↑x_0:Int) + (1:Int)))/\(∃(x':Nat),(x'<=zc/\∀(j:Nat),j < x'->List.length (nth aJ zb j).1<=(20:Nat))/\zc - x' < zc - x_0/\((↑x_0:Int) + (1:Int)=(↑x':Int)/\True)/\(e.1=e.1/\zb=zb/\zd=zd/\True)/\True)))))))/\((decide ((↑x_0:Int) < (↑zc:Int)))=false->(true=true->ml e)))))))))))))))) (by kernel_rfl) ?_
 dsimp -iota -proj -eta only
 refine fun h0=>iL (fun h1 => ?a) (fun h1 h2=>iL (fun h3 => ?b) (fun h3 h4=>iL (fun h5 => ?c) (fun h5=>⟨?d,fun x_0 q_0 h6=>iL (fun h7=>⟨(by omega),fun h8=>iL (fun h9 => ?e) (fun h9 h10 h11=>⟨(by simp only [aO,aL] at *;omega),(⟨x_0 + 1,⟨by omega,lA q_0.2 (by omega)⟩,by omega,⟨by omega,trivial⟩,(by trivial)⟩)⟩)⟩) (fun h7=>(fun _=>⟨by omega,by omega,by omega,fun i hi=>q_0.2 i (by omega)⟩))⟩)))
 case a|b|c|e=>simp_all
 case d=>refine ⟨0,?_⟩;(repeat' (first | exact trivial | rfl | omega | assumption | apply And.intro))
theorem Tryz.nL:bV Tryz.prog Tryz.B.eT Tryz.X 56 [bK] [.bool] (fun _=>True) (fun e y=>y=true->ml e):=
 cK (X:=Tryz.X) (cS Tryz.cU) Tryz.func56 (by kernel_rfl) (fun x=>yx x) (fun x hw hp=>yJ x hw)
noncomputable def Tryz.BD:List (FuncId × (Bool × bR)):=[(56,(true,iX [bK] [.bool] (fun _=>True) (fun e y=>y=true->ml e)))]
theorem Tryz.Fc:bZ Tryz.prog Tryz.B Tryz.X Tryz.BD:=
 aW (eN Tryz.nL) (cS Tryz.cU)
def yy (l:List (D cJ)) (m:Int):dE:=[
 (0,fun st=>{X:=Nat × Int,inv:=fun x=>x.1<=l.length/\(0<=x.2/\x.2<=20000)/\∀j,j < x.1->sd (nth cJ l j),bW:=fun x=>l.length - x.1,bJ:=fun x=>[(6,sI x.1),(5,sI x.2)],bL:=[0]})]
theorem BE (l:List (D cJ)) (m:Int) (hw:gI [.slice cJ, .int .i64] (l,m)):(dR (Eb Tryz.B) Tryz.BD Tryz.f15 (yy l m) [.slice cJ, .int .i64] [.bool] (fun x y=>y=true->mQ x.1 x.2) (l,m)).holds:=by
 refine holds_of (p:=
  let za:=List.length l
  let zb:=false=true->mQ l m
  let zc:=fun (x_0:Nat × Int)=>(↑x_0.1:Int) < (↑za:Int)
  let zd:=fun (x_0:Nat × Int)=>(0:Int)<=(↑x_0.1:Int)/\zc x_0
  let ze:=fun (x_0:Nat × Int)=>List.length (nth cJ l x_0.1).2.2.1
  let zf:=fun (x_0:Nat × Int)=>List.length (nth cJ l x_0.1).2.1
  ((za<=aL)->(((decide ((↑za:Int) > m))=true->(zb))/\((decide ((↑za:Int) > m))=false->(∃(x:Nat × Int),(x.1<=za/\((0:Int)<=x.2/\x.2<=(20000:Int))/\∀(j:Nat),j < x.1->sd (nth cJ l j))/\((0:Int)=(↑x.1:Int)/\(0:Int)=x.2/\True)/\True)/\(∀x_0:Nat × Int,((x_0.1<=za/\((0:Int)<=x_0.2/\x_0.2<=(20000:Int))/\∀(j:Nat),j < x_0.1->sd (nth cJ l j))->((za<=aL)->(((decide (zc x_0))=true->(zd x_0)/\((ze x_0<=aL)->(∀x_1:Int,((x_1=IntKind.wrap IntKind.i64 (x_0.2 + (↑(ze x_0):Int)))->(zd x_0)/\((zf x_0<=aL)->(((decide ((↑(zf x_0):Int) > (100:Int)))=true->(zb))/\((decide ((↑(zf x_0):Int) > (100:Int)))=false->(zd x_0)/\((ze x_0<=aL)->(((decide ((↑(ze x_0):Int) > (1300:Int)))=true->(zb))/\((decide ((↑(ze x_0):Int) > (1300:Int)))=false->(((decide (x_1 > (20000:Int)))=true->(zb))/\((decide (x_1 > (20000:Int)))=false->(zd x_0)/\(True)/\(∀x_2:Bool,((x_2=true->ml (nth cJ l x_0.1).2.2.2.2.2.1)->(((!x_2)=true->(zb))/\((!x_2)=false->(∀x_3:Int,((x_3=IntKind.wrap IntKind.i64 ((↑x_0.1:Int) + (1:Int)))->(∃(x':Nat × Int),(x'.1<=za/\((0:Int)<=x'.2/\x'.2<=(20000:Int))/\∀(j:Nat),j < x'.1->sd (nth cJ l j))/\za - x'.1 < za - x_0.1/\(x_3=(↑x'.1:Int)/\x_1=x'.2/\True)/\True)))))))))))))))))))/\((decide (zc x_0))=false->(true=true->mQ l m)))))))))) (by kernel_rfl) ?_
 dsimp -iota -proj -eta only
 refine fun h0=>iL (fun h1 => ?a) (fun h1=>⟨(by exact ⟨(0,0),⟨by omega,by simp,fun j hj=>by simp only at hj;omega⟩,⟨rfl,rfl,trivial⟩,trivial⟩),fun x_0 q_0 h2=>iL (fun h3=>⟨?b,fun h4 x_1 q_1=>⟨?c,fun h5=>iL (fun h6 => ?d) (fun h6=>⟨?e,fun h7=>iL (fun h8 => ?f) (fun h8=>iL (fun h9 => ?g) (fun h9=>⟨?h,trivial,fun x_2 q_2=>iB (fun h10 => ?i) (fun h10 x_3 q_3 => ?j)⟩))⟩)⟩⟩) (fun h3=>(fun _=>⟨by omega,fun i hi=>q_0.2.2 i (by omega)⟩))⟩)
 case a|d|f|g|i=>simp_all
 case b|c|e|h=>omega
 case j=>
  have hw2:IntKind.wrap IntKind.i64 (x_0.2 + (List.length (nth cJ l x_0.1).2.2.1:Int))=x_0.2 + (List.length (nth cJ l x_0.1).2.2.1:Int):=p8 (by omega) (by omega)
  have hw3:IntKind.wrap IntKind.i64 ((x_0.1:Int) + 1)=(x_0.1:Int) + 1:=p8 (by omega) (by have:(aL:Int)=9223372036854775807:=rfl;omega)
  exact ⟨(x_0.1 + 1,_),⟨by omega,by simp only;omega,lA q_0.2.2 ⟨by omega,by omega,by simp_all⟩⟩,by simp only;omega,⟨by simp only;omega,rfl,trivial⟩,(by trivial)⟩
theorem Tryz.sM:bV Tryz.prog Tryz.B.eT Tryz.X 15 [.slice cJ, .int .i64] [.bool] (fun _=>True) (fun x y=>y=true->mQ x.1 x.2):=
 cK (B:=(Eb Tryz.B)) (X:=Tryz.X) (bZ.wrap Tryz.Fc) Tryz.func15 (by kernel_rfl) (fun x=>yy x.1 x.2) (fun x hw hp=>BE x.1 x.2 hw)
end Go.Proofs.YtgokjhhcfemnhacGreatDoor

namespace Go.Proofs.YtgokjhhcfemnhacGreatDoor
open Go.Vg Go.Mrl
noncomputable def Tryz.yz:List (FuncId × (Bool × bR)):=[(76,(true,aS [.str] [.err] (fun _=>True) (fun s=>aP (aK s)))),
 (99,(true,aS [.str] [.int .i64] (fun _=>True) (fun s=>aK s))),
 (21,(true,aS [.err] [.int .i64] (fun _=>True) (fun e=>eS e))),
 (56,(true,iX [bK] [.bool] (fun _=>True) (fun e y=>y=true->ml e))),
 (15,(true,iX [.slice cJ, .int .i64] [.bool] (fun _=>True) (fun x y=>y=true->mQ x.1 x.2))),
 (29,(false,bQ [] [] (fun _ _=>True) Tryz.qe)),
 (47,(false,bQ Tryz.aM [.obj 0, .d .str] (fun _ _=>True) Tryz.jr)),
 (30,(false,bQ Tryz.aM [.obj 0, .d .str, .d .str] (fun _ x=>x.2.1.1.length<=6/\0<=x.1.1/\x.1.1<=1000000) Tryz.mA)),
 (41,(false,bQ Tryz.aM [.obj 0, .d .str] (fun _ _=>True) Tryz.nr))]
theorem Tryz.CI:bZ Tryz.prog Tryz.B Tryz.X Tryz.yz:=
 aW (aE Tryz.ja) (aW (aE Tryz.eX) (aW (aE Tryz.hZ) (aW (eN Tryz.nL) (aW (eN Tryz.sM) (aW (Tryz.w7) (aW (Tryz.na) (aW (Tryz.sK) (aW (Tryz.wv) (cS Tryz.cU)))))))))
def Tryz.Dy (l:List (D cJ)) (f:bM):dE:=[(0,fun st=>{X:=Nat,inv:=fun i=>i<=l.length,bW:=fun i=>l.length - i,bJ:=fun i=>[(4,sI i)],bL:=[0,1],aC:=fun i=>[(0, .cells 152 [.cX 1, .d (.int .i64) (bC f (l.take i)).1.1]),(1, .ext 1 (gC cH) (bC f (l.take i)).2.1)],hM:=[0,1]})]
def Tryz.uX:List (Alt Tryz.aM [.obj 0, .d (.slice cJ)]):=[{bP:=Tryz.aM,res:=[],out:=fun a x=>bC x a.1,ret:=fun _ _=>()}]
theorem JM (l:List (D cJ)) (f:bM) (hw:mg [.obj 0, .d (.slice cJ)] (l,())) (hp:(fun _ x=>cE x) (l,()) f):(gW Tryz.B Tryz.yz Tryz.f40 (Tryz.Dy l f) Tryz.aM [.obj 0, .d (.slice cJ)] Tryz.uX (l,()) f).holds:=by
 refine holds_of (p:=
  let za:=List.length l
  let zb:=C.cX (1:Nat)=C.cX (1:Nat)
  let zc:=fun (x_0:Nat)=>(0:Int)<=(↑x_0:Int)/\(↑x_0:Int) < (↑za:Int)
  let zd:=fun (x_0:Nat)=>bC f (List.take x_0 l)
  let ze:=aO (1:Int)
  let zf:=fun (x_0:Nat)=>(↑x_0:Int) + (1:Int)
  let zg:=fun (x_0:Nat)=>(bF (zd x_0) (nth cJ l x_0).2.1 (nth cJ l x_0).2.2.1).1
  let zh:=fun (x_0:Nat)=>(dG (zd x_0) (nth cJ l x_0).2.1).1
  (∃(x:Nat),x<=za/\((0:Int)=(↑x:Int)/\True)/\(zb/\f.1.1=(bC f (List.take x l)).1.1/\True)/\f.2.1=(bC f (List.take x l)).2.1/\True)/\(∀x_0:Nat,((x_0<=za)->((za<=aL)->(((decide ((↑x_0:Int) < (↑za:Int)))=true->(zc x_0)/\((((nth cJ l x_0).1 == [(119:UInt8),114,105,116,101])=true->(zc x_0)/\(zc x_0)/\(List.length (zd x_0).2.1.1<=(6:Nat)/\(0:Int)<=(zd x_0).1.1/\(zd x_0).1.1<=(1000000:Int))/\((True)->((aO (↑x_0:Int))->((ze)->(aO (zf x_0))/\(∃(x':Nat),x'<=za/\za - x' < za - x_0/\(zf x_0=(↑x':Int)/\True)/\(zb/\(zg x_0).1.1=(bC f (List.take x' l)).1.1/\True)/\(zg x_0).2.1=(bC f (List.take x' l)).2.1/\True)))))/\(((nth cJ l x_0).1 == [(119:UInt8),114,105,116,101])=false->(zc x_0)/\((((nth cJ l x_0).1 == [(114:UInt8),101,109,111,118,101])=true->(zc x_0)/\(True)/\((True)->((aO (↑x_0:Int))->((ze)->(aO (zf x_0))/\(∃(x':Nat),x'<=za/\za - x' < za - x_0/\(zf x_0=(↑x':Int)/\True)/\(zb/\(zh x_0).1.1=(bC f (List.take x' l)).1.1/\True)/\(zh x_0).2.1=(bC f (List.take x' l)).2.1/\True)))))/\(((nth cJ l x_0).1 == [(114:UInt8),101,109,111,118,101])=false->((aO (↑x_0:Int))->((ze)->(aO (zf x_0))/\(∃(x':Nat),x'<=za/\za - x' < za - x_0/\(zf x_0=(↑x':Int)/\True)/\(zb/\(zd x_0).1.1=(bC f (List.take x' l)).1.1/\True)/\(zd x_0).2.1=(bC f (List.take x' l)).2.1/\True))))))))/\((decide ((↑x_0:Int) < (↑za:Int)))=false->(True/\zd x_0=bC f l/\()=()))))))) (by kernel_rfl) ?_
 dsimp -iota -proj -eta only
 refine ⟨(⟨0,by omega,⟨rfl,trivial⟩,⟨rfl,rfl,trivial⟩,rfl,trivial⟩),fun x_0 q_0 h0=>iL (fun h1=>⟨?a,iQ (fun h2=>⟨?b,?c,((cE.done _ hp).pre),fun h3 h4 h5=>⟨?d,(by exact ⟨x_0 + 1,by omega,by omega,⟨by omega,trivial⟩,by rw [qS (by omega),Ce (by unfold oD;assumption)];exact ⟨⟨rfl,rfl,trivial⟩,rfl,trivial⟩⟩)⟩⟩) (fun h2=>⟨?e,iQ (fun h3=>⟨?f,trivial,fun h4 h5 h6=>⟨?g,(by exact ⟨x_0 + 1,by omega,by omega,⟨by omega,trivial⟩,by rw [qS (by omega),AK (by unfold oD;assumption) (by unfold qb;assumption)];exact ⟨⟨rfl,rfl,trivial⟩,rfl,trivial⟩⟩)⟩⟩) (fun h3 h4 h5=>⟨?h,(by exact ⟨x_0 + 1,by omega,by omega,⟨by omega,trivial⟩,by rw [qS (by omega),El (by unfold oD;assumption) (by unfold qb;assumption)];exact ⟨⟨rfl,rfl,trivial⟩,rfl,trivial⟩⟩)⟩)⟩)⟩) (fun h1=>(by rw [List.take_of_length_le (by omega)];exact ⟨trivial,rfl,rfl⟩))⟩
 case a|b|c|e|f=>omega
 case d|g|h=>simp only [aO,aL] at *;omega
theorem Tryz.JN:dS Tryz.prog Tryz.B.eT Tryz.X 40 false (bQ Tryz.aM [.obj 0, .d (.slice cJ)] (fun _ x=>cE x) Tryz.uX):=
 cZ (X:=Tryz.X) Tryz.CI Tryz.func40 (by kernel_rfl) (fun (a:CD [.obj 0, .d (.slice cJ)]) (x:PD Tryz.aM)=>Tryz.Dy a.1 x) (fun (a:CD [.obj 0, .d (.slice cJ)]) (x:PD Tryz.aM) hw hp=>JM a.1 x hw hp)
end Go.Proofs.YtgokjhhcfemnhacGreatDoor

namespace Go.Proofs.YtgokjhhcfemnhacGreatDoor
open Go.Vg Go.Mrl
noncomputable def Tryz.Dz:List (FuncId × (Bool × bR)):=[(79,(false,bQ Tryz.aM [.obj 0, .d .str] (fun _ x=>x.2.1.1.length<=6) Tryz.nX)),
 (47,(false,bQ Tryz.aM [.obj 0, .d .str] (fun _ _=>True) Tryz.jr))]
theorem Tryz.Hb:bZ Tryz.prog Tryz.B Tryz.X Tryz.Dz:=
 aW (Tryz.yw) (aW (Tryz.na) (cS Tryz.cU))
def Tryz.DA (s:List UInt8) (f:bM):dE:=[
 (0,fun st=>{X:=Nat,inv:=fun i=>i<=List.length (dF (.slice .str) st 6),bW:=fun i=>List.length (dF (.slice .str) st 6) - i,bJ:=fun i=>[(35,sI i)],bL:=[0,4,8,11,33,34],aC:=fun i=>[(bG st 11, .cells 40 [.d .str s, .app aJ (bU (aH f) (dF (.slice .str) st 6) (dF (.slice (.int .i64)) st 8) i) (D0 st (bG st 11) 1), .d (.slice bO) (dF (.slice bO) st 9)]),(D0 st (bG st 11) 1, .tok aJ (bU (aH f) (dF (.slice .str) st 6) (dF (.slice (.int .i64)) st 8) i))],hM:=[bG st 11,D0 st (bG st 11) 1]})]
noncomputable def Tryz.uY:List (Alt Tryz.aM [.obj 0, .d .str]):=[{bP:=Tryz.aM,res:=[.d bK, .d .err],out:=fun _ x=>x,ret:=fun a x=>((dV (aH x) a.1).1,aP (dV (aH x) a.1).2,())}]
theorem JO (s:List UInt8) (f:bM) (hw:mg [.obj 0, .d .str] (s,())) (hp:(fun _ x=>x.2.1.1.length<=6) (s,()) f):(gW Tryz.B Tryz.Dz Tryz.f44 (Tryz.DA s f) Tryz.aM [.obj 0, .d .str] Tryz.uY (s,()) f).holds:=by
 refine holds_of (p:=
  let za:=aH f
  let zb:=aT za s
  let zc:=aP zb.2.2.2.2
  let zd:=([],[],[],())
  let ze:=((dV za s).1,aP (dV za s).2,())
  let zf:=zb.1
  let zg:=List.length zf
  let zh:=zb.2.2.1
  let zi:=zb.2.2.2.1
  let zj:=zi=zi/\True
  let zk:=fun (x_0:Nat)=>aP (aH f (nth Ty.str zf x_0)).2.2
  let zl:=fun (x_0:Nat)=>bU za zf zh x_0
  let zm:=fun (x_0:Nat)=>[(nth Ty.str zf x_0,(aH f (nth Ty.str zf x_0)).2.1,nth (Ty.int IntKind.i64) zh x_0,())]
  let zn:=@List.nil (Int × Int × Int × Unit) = @List.nil (Int × Int × Int × Unit)
  let zo:=@List.nil (List UInt8 × Int × Int × Unit) = @List.nil (List UInt8 × Int × Int × Unit)
  (List.length f.2.1.1<=(6:Nat))/\((True)->(((!aV.isNil zc)=true->(True/\f=f/\(zd,zc,())=ze))/\((!aV.isNil zc)=false->((zg<=aL)->(∃(x:Nat),x<=zg/\((0:Int)=(↑x:Int)/\True)/\(s=s/\@List.nil (List UInt8 × Int × Int × Unit)=bU za zf zh x/\zj)/\@List.nil (List UInt8 × Int × Int × Unit)=bU za zf zh x/\True)/\(∀x_0:Nat,((x_0<=zg)->(((decide ((↑x_0:Int) < (↑zg:Int)))=true->((0:Int)<=(↑x_0:Int)/\(↑x_0:Int) < (↑zg:Int))/\(True)/\((True)->(((!aV.isNil (zk x_0))=true->(True/\f=f/\(zd,zk x_0,())=ze))/\((!aV.isNil (zk x_0))=false->((0:Int)<=(↑x_0:Int)/\(↑x_0:Int) < (↑(List.length zh):Int))/\(zl x_0=zl x_0/\List.length (zl x_0) + List.length (zm x_0)<=(1000000000:Nat))/\((aO (↑x_0:Int))->((aO (1:Int))->(aO ((↑x_0:Int) + (1:Int)))/\(∃(x':Nat),x'<=zg/\zg - x' < zg - x_0/\((↑x_0:Int) + (1:Int)=(↑x':Int)/\True)/\(s=s/\zl x_0++zm x_0=bU za zf zh x'/\zj)/\zl x_0++zm x_0=bU za zf zh x'/\zn/\zo/\(C.cX (1:Nat)=C.cX (1:Nat)/\f.1.1=f.1.1/\True)/\f.2.1=f.2.1/\(@List.nil UInt8 = @List.nil UInt8/\zo/\zn/\True)/\zn/\zo/\True)))))))/\((decide ((↑x_0:Int) < (↑zg:Int)))=false->(True/\f=f/\((s,zl x_0,zi,()),aV.nil,())=ze)))))))))) (by kernel_rfl) ?_
 dsimp -iota -proj -eta only
 exact ⟨(by trivial),fun h0=>iB (fun h1=>(by exact ⟨trivial,rfl,by rw [A4 (iU h1)];rfl⟩)) (fun h1 h2=>⟨(⟨0,Nat.zero_le _,⟨rfl,trivial⟩,⟨rfl,rfl,rfl,trivial⟩,rfl,(by trivial)⟩),fun x_0 q_0=>iL (fun h3=>⟨(by omega),trivial,fun h4=>iB (fun h5=>(absurd (GA (gL hp) (aZ.1 h1) (by omega)) (iU h5))) (fun h5=>⟨(by have:=(yc (gL hp) (aZ.1 h1)).1;omega),(by exact ⟨rfl,by rw [fJ];have:=(yc (gL hp) (aZ.1 h1)).2;simp only [List.length_singleton];omega⟩),fun h6 h7=>⟨(by simp only [aO,aL] at *;omega),(⟨x_0 + 1,by omega,by omega,⟨by omega,trivial⟩,⟨rfl,(sH _ _ _ _).symm,rfl,trivial⟩,(sH _ _ _ _).symm,(by trivial)⟩)⟩⟩)⟩) (fun h3=>(by exact ⟨trivial,rfl,by rw [Dq (aZ.1 h1),show x_0=List.length (aT (aH f) s).1 by omega];rfl⟩))⟩)⟩
theorem Tryz.JP:dS Tryz.prog Tryz.B.eT Tryz.X 44 false (bQ Tryz.aM [.obj 0, .d .str] (fun _ x=>x.2.1.1.length<=6) Tryz.uY):=
 cZ (X:=Tryz.X) Tryz.Hb Tryz.func44 (by kernel_rfl) (fun (a:CD [.obj 0, .d .str]) (x:PD Tryz.aM)=>Tryz.DA a.1 x) (fun (a:CD [.obj 0, .d .str]) (x:PD Tryz.aM) hw hp=>JO a.1 x hw hp)
noncomputable def Tryz.BF:List (FuncId × (Bool × bR)):=[(47,(false,bQ Tryz.aM [.obj 0, .d .str] (fun _ _=>True) Tryz.jr))]
theorem Tryz.Fe:bZ Tryz.prog Tryz.B Tryz.X Tryz.BF:=
 aW (Tryz.na) (cS Tryz.cU)
def Tryz.BG (e:D bK) (f:bM):dE:=[
 (0,fun st=>{X:=Nat,inv:=fun i=>i<=List.length e.2.1/\∀j,j < i->fC (aH f) (nth aJ e.2.1 j)=true,bW:=fun i=>List.length e.2.1 - i,bJ:=fun i=>[(13,sI i)],bL:=[1,2,11,12]})]
def Tryz.ph:List (Alt Tryz.aM [.d bK, .obj 0]):=[{bP:=Tryz.aM,res:=[.d .bool],out:=fun _ x=>x,ret:=fun a x=>(dP (aH x) a.1,())}]
theorem IH (e:D bK) (f:bM) (hw:mg [.d bK, .obj 0] (e,())):(gW Tryz.B Tryz.BF Tryz.f46 (Tryz.BG e f) Tryz.aM [.d bK, .obj 0] Tryz.ph (e,()) f).holds:=by
 refine holds_of (p:=
  let za:=e.2.1
  let zb:=List.length za
  let zc:=aH f
  let zd:=fun (x_0:Nat)=>(aH f (nth aJ za x_0).1).2
  let ze:=(dP zc e,())
  let zf:=True/\f=f/\(false,())=ze
  ((zb<=aL)->(∃(x:Nat),(x<=zb/\∀(j:Nat),j < x->fC zc (nth aJ za j)=true)/\((0:Int)=(↑x:Int)/\True)/\True)/\(∀x_0:Nat,((x_0<=zb/\∀(j:Nat),j < x_0->fC zc (nth aJ za j)=true)->(((decide ((↑x_0:Int) < (↑zb:Int)))=true->((0:Int)<=(↑x_0:Int)/\(↑x_0:Int) < (↑zb:Int))/\(True)/\((True)->(((!aV.isNil (aP (zd x_0).2))=true->(zf))/\((!aV.isNil (aP (zd x_0).2))=false->((((zd x_0).1 != (nth aJ za x_0).2.1)=true->(zf))/\(((zd x_0).1 != (nth aJ za x_0).2.1)=false->((aO (↑x_0:Int))->((aO (1:Int))->(aO ((↑x_0:Int) + (1:Int)))/\(∃(x':Nat),(x'<=zb/\∀(j:Nat),j < x'->fC zc (nth aJ za j)=true)/\zb - x' < zb - x_0/\((↑x_0:Int) + (1:Int)=(↑x':Int)/\True)/\(e.1=e.1/\za=za/\e.2.2.1=e.2.2.1/\True)/\(C.cX (1:Nat)=C.cX (1:Nat)/\f.1.1=f.1.1/\True)/\f.2.1=f.2.1/\True)))))))))/\((decide ((↑x_0:Int) < (↑zb:Int)))=false->((zb<=aL)->(True/\f=f/\(decide ((↑zb:Int) > (0:Int)),())=ze)))))))) (by kernel_rfl) ?_
 dsimp -iota -proj -eta only
 exact fun h0=>⟨(⟨0,⟨Nat.zero_le _,fun j hj=>absurd hj (Nat.not_lt_zero _)⟩,⟨rfl,trivial⟩,trivial⟩),fun x_0 q_0=>iL (fun h1=>⟨(by omega),trivial,fun h2=>iB (fun h3=>⟨trivial,rfl,by rw [uP (i:=x_0) (by omega) (GC h3)]⟩) (fun h3=>iN (fun h4=>⟨trivial,rfl,by rw [uP (i:=x_0) (by omega) (wq h4)]⟩) (fun h4 h5 h6=>⟨(by simp only [aO,aL] at *;omega),(⟨x_0 + 1,⟨by omega,lA q_0.2 (ET (by assumption) (by assumption))⟩,by omega,⟨by omega,trivial⟩,(by trivial)⟩)⟩))⟩) (fun h1 h2=>(by exact ⟨trivial,rfl,by rw [ya fun i hi=>q_0.2 i (by omega)];simp⟩))⟩
theorem Tryz.BH:dS Tryz.prog Tryz.B.eT Tryz.X 46 false (bQ Tryz.aM [.d bK, .obj 0] (fun _ _=>True) Tryz.ph):=
 cZ (X:=Tryz.X) Tryz.Fe Tryz.func46 (by kernel_rfl) (fun (a:CD [.d bK, .obj 0]) (x:PD Tryz.aM)=>Tryz.BG a.1 x) (fun (a:CD [.d bK, .obj 0]) (x:PD Tryz.aM) hw hp=>IH a.1 x hw)
noncomputable def Tryz.Hc:List (FuncId × (Bool × bR)):=[(46,(false,bQ Tryz.aM [.d bK, .obj 0] (fun _ _=>True) Tryz.ph)),
 (47,(false,bQ Tryz.aM [.obj 0, .d .str] (fun _ _=>True) Tryz.jr)),
 (77,(true,aS [.str] [aA, .err] (fun _=>True) (fun s=>kx s))),
 (80,(true,aS [.slice .str, .slice (.int .i64), .slice aA, .slice bO] [.slice hP, .err] (fun x=>x.2.2.1.length<=1000/\∀i,i < x.2.2.1.length->(nth aA x.2.2.1 i).2.1.length<=1000) (fun x=>gV x.1 x.2.1 x.2.2.1 x.2.2.2)))]
theorem Tryz.II:bZ Tryz.prog Tryz.B Tryz.X Tryz.Hc:=
 aW (Tryz.BH) (aW (Tryz.na) (aW (aE Tryz.ym) (aW (aE Tryz.G8) (cS Tryz.cU))))
noncomputable def Tryz.Hd (e:D bK) (f:bM):dE:=[
 (0,fun st=>{X:=Nat,inv:=fun i=>i<=List.length e.2.1/\∀j,j < i->(bX (aH f (nth aJ e.2.1 j).1).1).2=0,bW:=fun i=>List.length e.2.1 - i,bJ:=fun i=>[(23,sI i),(6, .s (.one (.app .str (eV (List.take i e.2.1)) (bG st 6)))),(7, .s (.one (.app (.int .i64) (eW (List.take i e.2.1)) (bG st 7)))),(8, .s (.one (.app aA (eO (aH f) (List.take i e.2.1)) (bG st 8))))],aC:=fun i=>[(bG st 6, .tok .str (eV (List.take i e.2.1))),(bG st 7, .tok (.int .i64) (eW (List.take i e.2.1))),(bG st 8, .tok aA (eO (aH f) (List.take i e.2.1)))],bL:=[1,2,21,22],hM:=[bG st 6,bG st 7,bG st 8]}),
 (300015,fun st=>{X:=Nat,inv:=fun i=>i=(dF (.int .i64) st 23).toNat + 1,bW:=fun _=>0,bJ:=fun i=>[(6, .s (.one (.app .str (eV (List.take i e.2.1)) (bG st 6)))),(7, .s (.one (.app (.int .i64) (eW (List.take i e.2.1)) (bG st 7)))),(8, .s (.one (.app aA (eO (aH f) (List.take i e.2.1)) (bG st 8))))],aC:=fun i=>[(bG st 6, .tok .str (eV (List.take i e.2.1))),(bG st 7, .tok (.int .i64) (eW (List.take i e.2.1))),(bG st 8, .tok aA (eO (aH f) (List.take i e.2.1)))],bL:=[1,2,4,5,10,11,13,14,21,22,23,24,25,26,27,28,29,30,31,32,33,34,35,36,37,38,39,40,41,42,43,44,45],hM:=[bG st 6,bG st 7,bG st 8]})]
noncomputable def Tryz.xc:List (Alt Tryz.aM [.d bK, .obj 0]):=[{bP:=Tryz.aM,res:=[.d (.slice hP), .d .err],out:=fun _ x=>x,ret:=fun a x=>((mz (aH x) a.1).1,aP (mz (aH x) a.1).2,())}]
theorem KE (e:D bK) (f:bM) (hw:mg [.d bK, .obj 0] (e,())) (hp:(fun a x=>a.1.2.1.length<=1000/\x.2.1.1.length<=6) (e,()) f):(gW Tryz.B Tryz.Hc Tryz.f48 (Tryz.Hd e f) Tryz.aM [.d bK, .obj 0] Tryz.xc (e,()) f).holds:=by
 refine holds_of (p:=
  let za:=aH f
  let zb:=f=f
  let zc:=((mz za e).1,aP (mz za e).2,())
  let zd:=e.2.1
  let ze:=List.length zd
  let zf:=fun (x_0:Nat)=>(nth aJ zd x_0).1
  let zg:=fun (x_0:Nat)=>aP (aH f (zf x_0)).2.2
  let zh:=fun (x_0:Nat)=>aP (bX (aH f (zf x_0)).1).2
  let zi:=fun (x_0:Nat)=>eV (List.take x_0 zd)
  let zj:=fun (x_0:Nat)=>zi x_0=zi x_0/\List.length (zi x_0) + List.length [zf x_0]<=(1000000000:Nat)
  let zk:=fun (x_0:Nat)=>eW (List.take x_0 zd)
  let zl:=fun (x_0:Nat)=>(nth aJ zd x_0).2.2.1
  let zm:=fun (x_0:Nat)=>eO za (List.take x_0 zd)
  let zn:=fun (x_0:Nat)=>(bX (aH f (zf x_0)).1).1
  let zo:=C.cX (1:Nat)=C.cX (1:Nat)/\f.1.1=f.1.1/\True
  let zp:=f.2.1=f.2.1
  let zq:=e.2.2.1
  let zr:=@List.nil (List UInt8 × Int × List Int × Unit) = @List.nil (List UInt8 × Int × List Int × Unit)/\(e.1=e.1/\zd=zd/\zq=zq/\True)/\True
  let zs:=fun (x_0:Nat)=>(zk x_0=zk x_0/\List.length (zk x_0) + List.length [zl x_0]<=(1000000000:Nat))/\(zm x_0=zm x_0/\List.length (zm x_0) + List.length [zn x_0]<=(1000000000:Nat))/\(∃(x':Nat),x'=x_0 + (1:Nat)/\(zi x_0++[zf x_0]=eV (List.take x' zd)/\zk x_0++[zl x_0]=eW (List.take x' zd)/\zm x_0++[zn x_0]=eO za (List.take x' zd)/\True)/\zi x_0++[zf x_0]=eV (List.take x' zd)/\zk x_0++[zl x_0]=eW (List.take x' zd)/\zm x_0++[zn x_0]=eO za (List.take x' zd)/\((zn x_0).1=(zn x_0).1/\(zn x_0).2.1=(zn x_0).2.1/\(zn x_0).2.2.1=(zn x_0).2.2.1/\(zn x_0).2.2.2.1=(zn x_0).2.2.2.1/\True)/\@List.nil (Int × Int × Int × List UInt8 × Bool × Unit) = @List.nil (Int × Int × Int × List UInt8 × Bool × Unit)/\@List.nil (List UInt8 × Int × Bool × Unit) = @List.nil (List UInt8 × Int × Bool × Unit)/\@List.nil Int = @List.nil Int/\@List.nil (List UInt8) = @List.nil (List UInt8)/\zo/\zp/\(zf x_0=zf x_0/\(nth aJ zd x_0).2.1=(nth aJ zd x_0).2.1/\zl x_0=zl x_0/\True)/\zr)
  let zt:=fun (x_0:Nat)=>(zj x_0)/\((((fun a0:Prop=>a0/\a0/\a0) ((zs x_0))))/\(((fun a0:Prop=>a0/\a0) ((zs x_0))))/\((zs x_0)))
  let zu:=fun (x_0:Nat)=>(zj x_0)/\(zs x_0)
  let zv:=fun (x_0:Nat)=>(((zj x_0)/\((fun a0:Prop=>a0/\a0/\a0) ((zs x_0))))/\((zj x_0)/\((fun a0:Prop=>a0/\a0) ((zs x_0))))/\((zu x_0)))
  let zw:=fun (x_0:Nat)=>(zj x_0)/\((((fun a0:Prop=>a0/\a0) ((zs x_0))))/\((zs x_0)))
  let zx:=fun (x_0:Nat)=>(((zj x_0)/\((fun a0:Prop=>a0/\a0) ((zs x_0))))/\((zu x_0)))
  let zy:=fun (x_0:Nat)=>((fun a0 a1 a2 a3 a4:Prop=>a0/\a1/\a2/\a3/\a4/\a4) ((zt x_0)) ((zv x_0)) ((zw x_0)) ((zx x_0)) ((zu x_0)))
  let zz:=fun (x_0:Nat)=>((fun a0 a1 a2:Prop=>a0/\a1/\a2/\a2) ((zw x_0)) ((zx x_0)) ((zu x_0)))
  let zaa:=fun (x_0:Nat)=>gV (zi x_0) (zk x_0) (zm x_0) zq
  (True)/\((True)->(((!dP za e)=true->(True/\zb/\([],aV.no (10:Int),())=zc))/\((!dP za e)=false->((ze<=aL)->(∃(x:Nat),(x<=ze/\∀(j:Nat),j < x->(bX (aH f (nth aJ zd j).1).1).2=(0:Int))/\((0:Int)=(↑x:Int)/\@List.nil (List UInt8)=eV (List.take x zd)/\@List.nil Int=eW (List.take x zd)/\@List.nil (List (List UInt8) × List Int × List (List UInt8 × Int × Bool × Unit) × List (Int × Int × Int × List UInt8 × Bool × Unit) × Unit)=eO za (List.take x zd)/\True)/\@List.nil (List UInt8)=eV (List.take x zd)/\@List.nil Int=eW (List.take x zd)/\@List.nil (List (List UInt8) × List Int × List (List UInt8 × Int × Bool × Unit) × List (Int × Int × Int × List UInt8 × Bool × Unit) × Unit)=eO za (List.take x zd)/\True)/\(∀x_0:Nat,((x_0<=ze/\∀(j:Nat),j < x_0->(bX (aH f (nth aJ zd j).1).1).2=(0:Int))->(((decide ((↑x_0:Int) < (↑ze:Int)))=true->((0:Int)<=(↑x_0:Int)/\(↑x_0:Int) < (↑ze:Int))/\(True)/\((True)->(((!aV.isNil (zg x_0))=true->(True/\zb/\([],zg x_0,())=zc))/\((!aV.isNil (zg x_0))=false->(True)/\(((!aV.isNil (zh x_0))=true->(True/\zb/\([],zh x_0,())=zc))/\((!aV.isNil (zh x_0))=false->((((((fun a0 a1 a2 a3 a4:Prop=>a0/\a1/\a2/\a3/\a4/\a4/\a4) ((zt x_0)) ((zy x_0)) ((zw x_0)) ((zz x_0)) ((zu x_0))))/\((((zy x_0))/\((((zv x_0))/\((zx x_0))/\((zu x_0))))/\((zz x_0))/\((((zx x_0))/\((zu x_0))))/\(((fun a0:Prop=>a0/\a0) ((zu x_0))))/\((zu x_0))))/\(((fun a0 a1 a2:Prop=>a0/\a1/\a2/\a2/\a2) ((zw x_0)) ((zz x_0)) ((zu x_0))))/\((((zz x_0))/\((((zx x_0))/\((zu x_0))))/\(((fun a0:Prop=>a0/\a0) ((zu x_0))))/\((zu x_0))))/\(((fun a0:Prop=>a0/\a0/\a0) ((zu x_0))))/\(((fun a0:Prop=>a0/\a0) ((zu x_0))))/\((zu x_0))))/\((∀x_1:Nat,((x_1=x_0 + (1:Nat))->((aO (↑x_0:Int))->((aO (1:Int))->(aO ((↑x_0:Int) + (1:Int)))/\(∃(x':Nat),(x'<=ze/\∀(j:Nat),j < x'->(bX (aH f (nth aJ zd j).1).1).2=(0:Int))/\ze - x' < ze - x_0/\((↑x_0:Int) + (1:Int)=(↑x':Int)/\zi x_1=eV (List.take x' zd)/\zk x_1=eW (List.take x' zd)/\zm x_1=eO za (List.take x' zd)/\True)/\zi x_1=eV (List.take x' zd)/\zk x_1=eW (List.take x' zd)/\zm x_1=eO za (List.take x' zd)/\zo/\zp/\zr)))))))))))))/\((decide ((↑x_0:Int) < (↑ze:Int)))=false->(List.length (zm x_0)<=(1000:Nat)/\∀(i:Nat),i < List.length (zm x_0)->List.length (nth aA (zm x_0) i).2.1<=(1000:Nat))/\(True/\zb/\((zaa x_0).1,(zaa x_0).2,())=zc)))))))))) (by kernel_rfl) ?_
 dsimp -iota -proj -eta only
 dsimp only at hp
 refine ⟨trivial,fun h0=>iB (fun h1=>(by exact ⟨trivial,rfl,by rw [sJ h1];rfl⟩)) (fun h1 h2=>⟨(⟨0,⟨Nat.zero_le _,fun j hj=>absurd hj (Nat.not_lt_zero _)⟩,⟨rfl,rfl,rfl,rfl,trivial⟩,(by trivial)⟩),fun x_0 q_0=>iL (fun h3=>⟨(by omega),trivial,fun h4=>iB (fun h5=>(absurd ((Gx h1).2 x_0 (by omega)).1 (iU h5))) (fun h5=>⟨trivial,iB (fun h6=>⟨trivial,rfl,by rw [Jy h1 (A5 q_0.2 (by omega) (iU h6)) (iU h6)]⟩) (fun h6=>⟨⟨(show ∀{a0 a1 a2 a3 a4:Prop},a0->a1->a2->a3->a4->a0/\a1/\a2/\a3/\a4/\a4/\a4 from fun g0 g1 g2 g3 g4=>⟨g0,g1,g2,g3,g4,g4,g4⟩) (⟨?a,⟨(show ∀{a0:Prop},a0->a0/\a0/\a0 from fun g0=>⟨g0,g0,g0⟩) (⟨?b,?c,?d⟩),(show ∀{a0:Prop},a0->a0/\a0 from fun g0=>⟨g0,g0⟩) (⟨?e,?f,?g⟩),⟨?h,?i,?j⟩⟩⟩) ((show ∀{a0 a1 a2 a3 a4:Prop},a0->a1->a2->a3->a4->a0/\a1/\a2/\a3/\a4/\a4 from fun g0 g1 g2 g3 g4=>⟨g0,g1,g2,g3,g4,g4⟩) (⟨?k,⟨(show ∀{a0:Prop},a0->a0/\a0/\a0 from fun g0=>⟨g0,g0,g0⟩) (⟨?l,?m,?n⟩),(show ∀{a0:Prop},a0->a0/\a0 from fun g0=>⟨g0,g0⟩) (⟨?o,?p,?q⟩),⟨?r,?s,?t⟩⟩⟩) (⟨⟨?u,(show ∀{a0:Prop},a0->a0/\a0/\a0 from fun g0=>⟨g0,g0,g0⟩) (⟨?v,?w,?x⟩)⟩,⟨?y,(show ∀{a0:Prop},a0->a0/\a0 from fun g0=>⟨g0,g0⟩) (⟨?z,?a0,?a1⟩)⟩,⟨?a2,?a3,?a4,?a5⟩⟩) (⟨?a6,⟨(show ∀{a0:Prop},a0->a0/\a0 from fun g0=>⟨g0,g0⟩) (⟨?a7,?a8,?a9⟩),⟨?aa,?ab,?ac⟩⟩⟩) (⟨⟨?ad,(show ∀{a0:Prop},a0->a0/\a0 from fun g0=>⟨g0,g0⟩) (⟨?ae,?af,?ag⟩)⟩,⟨?ah,?ai,?aj,?ak⟩⟩) (⟨?al,?am,?an,?ao⟩)) (⟨?ap,⟨(show ∀{a0:Prop},a0->a0/\a0 from fun g0=>⟨g0,g0⟩) (⟨?aq,?ar,?au⟩),⟨?av,?aw,?ax⟩⟩⟩) ((show ∀{a0 a1 a2:Prop},a0->a1->a2->a0/\a1/\a2/\a2 from fun g0 g1 g2=>⟨g0,g1,g2,g2⟩) (⟨?ay,⟨(show ∀{a0:Prop},a0->a0/\a0 from fun g0=>⟨g0,g0⟩) (⟨?az,?b0,?b1⟩),⟨?b2,?b3,?b4⟩⟩⟩) (⟨⟨?b5,(show ∀{a0:Prop},a0->a0/\a0 from fun g0=>⟨g0,g0⟩) (⟨?b6,?b7,?b8⟩)⟩,⟨?b9,?ba,?bb,?bc⟩⟩) (⟨?bd,?be,?bf,?bg⟩)) (⟨?bh,?bi,?bj,?bk⟩),⟨(show ∀{a0 a1 a2 a3 a4:Prop},a0->a1->a2->a3->a4->a0/\a1/\a2/\a3/\a4/\a4 from fun g0 g1 g2 g3 g4=>⟨g0,g1,g2,g3,g4,g4⟩) (⟨?bl,⟨(show ∀{a0:Prop},a0->a0/\a0/\a0 from fun g0=>⟨g0,g0,g0⟩) (⟨?bm,?bn,?bo⟩),(show ∀{a0:Prop},a0->a0/\a0 from fun g0=>⟨g0,g0⟩) (⟨?bp,?bq,?br⟩),⟨?bs,?bt,?bu⟩⟩⟩) (⟨⟨?bv,(show ∀{a0:Prop},a0->a0/\a0/\a0 from fun g0=>⟨g0,g0,g0⟩) (⟨?bw,?bx,?bz⟩)⟩,⟨?c0,(show ∀{a0:Prop},a0->a0/\a0 from fun g0=>⟨g0,g0⟩) (⟨?c1,?c2,?c3⟩)⟩,⟨?c4,?c5,?c6,?c7⟩⟩) (⟨?c8,⟨(show ∀{a0:Prop},a0->a0/\a0 from fun g0=>⟨g0,g0⟩) (⟨?c9,?ca,?cb⟩),⟨?cc,?cd,?ce⟩⟩⟩) (⟨⟨?cf,(show ∀{a0:Prop},a0->a0/\a0 from fun g0=>⟨g0,g0⟩) (⟨?cg,?ch,?ci⟩)⟩,⟨?cj,?ck,?cl,?cm⟩⟩) (⟨?cn,?co,?cp,?cq⟩),⟨⟨⟨?cr,(show ∀{a0:Prop},a0->a0/\a0/\a0 from fun g0=>⟨g0,g0,g0⟩) (⟨?cs,?ct,?cu⟩)⟩,⟨?cv,(show ∀{a0:Prop},a0->a0/\a0 from fun g0=>⟨g0,g0⟩) (⟨?cw,?cx,?cy⟩)⟩,⟨?cz,?d0,?d1,?d2⟩⟩,⟨⟨?d3,(show ∀{a0:Prop},a0->a0/\a0 from fun g0=>⟨g0,g0⟩) (⟨?d4,?d5,?d6⟩)⟩,⟨?d7,?d8,?d9,?da⟩⟩,⟨?db,?dc,?dd,?de⟩⟩,(show ∀{a0 a1 a2:Prop},a0->a1->a2->a0/\a1/\a2/\a2 from fun g0 g1 g2=>⟨g0,g1,g2,g2⟩) (⟨?df,⟨(show ∀{a0:Prop},a0->a0/\a0 from fun g0=>⟨g0,g0⟩) (⟨?dg,?dh,?di⟩),⟨?dj,?dk,?dl⟩⟩⟩) (⟨⟨?dm,(show ∀{a0:Prop},a0->a0/\a0 from fun g0=>⟨g0,g0⟩) (⟨?dn,?dp,?dq⟩)⟩,⟨?dr,?ds,?dt,?du⟩⟩) (⟨?dv,?dw,?dx,?dy⟩),⟨⟨⟨?dz,(show ∀{a0:Prop},a0->a0/\a0 from fun g0=>⟨g0,g0⟩) (⟨?e0,?e1,?e2⟩)⟩,⟨?e3,?e4,?e5,?e6⟩⟩,⟨?e7,?e8,?e9,?ea⟩⟩,(show ∀{a0:Prop},a0->a0/\a0 from fun g0=>⟨g0,g0⟩) (⟨?eb,?ec,?ed,?ee⟩),⟨?ef,?eg,?eh,?ei⟩⟩,(show ∀{a0 a1 a2:Prop},a0->a1->a2->a0/\a1/\a2/\a2/\a2 from fun g0 g1 g2=>⟨g0,g1,g2,g2,g2⟩) (⟨?ej,⟨(show ∀{a0:Prop},a0->a0/\a0 from fun g0=>⟨g0,g0⟩) (⟨?ek,?el,?em⟩),⟨?en,?eo,?ep⟩⟩⟩) ((show ∀{a0 a1 a2:Prop},a0->a1->a2->a0/\a1/\a2/\a2 from fun g0 g1 g2=>⟨g0,g1,g2,g2⟩) (⟨?eq,⟨(show ∀{a0:Prop},a0->a0/\a0 from fun g0=>⟨g0,g0⟩) (⟨?er,?es,?et⟩),⟨?eu,?ev,?ew⟩⟩⟩) (⟨⟨?ex,(show ∀{a0:Prop},a0->a0/\a0 from fun g0=>⟨g0,g0⟩) (⟨?ey,?ez,?f0⟩)⟩,⟨?f1,?f2,?f3,?f4⟩⟩) (⟨?f5,?f6,?f7,?f8⟩)) (⟨?f9,?fa,?fb,?fc⟩),⟨(show ∀{a0 a1 a2:Prop},a0->a1->a2->a0/\a1/\a2/\a2 from fun g0 g1 g2=>⟨g0,g1,g2,g2⟩) (⟨?fd,⟨(show ∀{a0:Prop},a0->a0/\a0 from fun g0=>⟨g0,g0⟩) (⟨?fe,?ff,?fg⟩),⟨?fh,?fi,?fj⟩⟩⟩) (⟨⟨?fk,(show ∀{a0:Prop},a0->a0/\a0 from fun g0=>⟨g0,g0⟩) (⟨?fl,?fm,?fn⟩)⟩,⟨?fo,?fp,?fq,?fr⟩⟩) (⟨?fs,?ft,?fu,?fv⟩),⟨⟨⟨?fw,(show ∀{a0:Prop},a0->a0/\a0 from fun g0=>⟨g0,g0⟩) (⟨?fx,?fy,?fz⟩)⟩,⟨?g0,?g1,?g2,?g3⟩⟩,⟨?g4,?g5,?g6,?g7⟩⟩,(show ∀{a0:Prop},a0->a0/\a0 from fun g0=>⟨g0,g0⟩) (⟨?g8,?g9,?ga,?gb⟩),⟨?gc,?gd,?ge,?gf⟩⟩,(show ∀{a0:Prop},a0->a0/\a0/\a0 from fun g0=>⟨g0,g0,g0⟩) (⟨?gg,?gh,?gi,?gj⟩),(show ∀{a0:Prop},a0->a0/\a0 from fun g0=>⟨g0,g0⟩) (⟨?gk,?gl,?gm,?gn⟩),⟨?go,?gp,?gq,?gr⟩⟩,fun x_1 q_1 h7 h8=>⟨(by simp only [aO,aL] at *;omega),?gs⟩⟩)⟩)⟩) (fun h3=>⟨(by rw [uO (by omega)];exact GB hp.1 fun j hj=>q_0.2 j (by omega)),(by rw [uO (by omega)];exact ⟨trivial,rfl,Ii h1 (wk fun j hj=>q_0.2 j (by omega))⟩)⟩)⟩)⟩
 case a|b|c|e|f|h|i|k|l|m|o|p|r|s|u|v|w|y|z|a0|a2|a3|a4|a6|a7|a8|aa|ab|ad|ae|af|ah|ai|aj|al|am|an|ap|aq|ar|av|aw|ay|az|b0|b2|b3|b5|b6|b7|b9|ba|bb|bd|be|bf|bh|bi|bj|bl|bm|bn|bp|bq|bs|bt|bv|bw|bx|c0|c1|c2|c4|c5|c6|c8|c9|ca|cc|cd|cf|cg|ch|cj|ck|cl|cn|co|cp|cr|cs|ct|cv|cw|cx|cz|d0|d1|d3|d4|d5|d7|d8|d9|db|dc|dd|df|dg|dh|dj|dk|dm|dn|dp|dr|ds|dt|dv|dw|dx|dz|e0|e1|e3|e4|e5|e7|e8|e9|eb|ec|ed|ef|eg|eh|ej|ek|el|en|eo|eq|er|es|eu|ev|ex|ey|ez|f1|f2|f3|f5|f6|f7|f9|fa|fb|fd|fe|ff|fh|fi|fk|fl|fm|fo|fp|fq|fs|ft|fu|fw|fx|fy|g0|g1|g2|g4|g5|g6|g8|g9|ga|gc|gd|ge|gg|gh|gi|gk|gl|gm|go|gp|gq=>exact ⟨rfl,by simp only [eV,eW,eO,List.length_map,List.length_take,List.length_singleton];have:=hp.1;omega⟩
 case d|g|j|n|q|t|x|a1|a5|a9|ac|ag|ak|ao|au|ax|b1|b4|b8|bc|bg|bk|bo|br|bu|bz|c3|c7|cb|ce|ci|cm|cq|cu|cy|d2|d6|da|de|di|dl|dq|du|dy|e2|e6|ea|ee|ei|em|ep|et|ew|f0|f4|f8|fc|fg|fj|fn|fr|fv|fz|g3|g7|gb|gf|gj|gn|gr=>exact ⟨x_0 + 1,rfl,⟨tS (by omega),tT (by omega),wo (by omega),trivial⟩,tS (by omega),tT (by omega),wo (by omega),(by trivial)⟩
 case gs=>
  subst q_1
  exact ⟨x_0 + 1,⟨by omega,lA q_0.2 (aZ.1 (by assumption))⟩,by omega,⟨by omega,rfl,rfl,rfl,trivial⟩,rfl,rfl,rfl,(by trivial)⟩
theorem Tryz.KF:dS Tryz.prog Tryz.B.eT Tryz.X 48 false (bQ Tryz.aM [.d bK, .obj 0] (fun a x=>a.1.2.1.length<=1000/\x.2.1.1.length<=6) Tryz.xc):=
 cZ (X:=Tryz.X) Tryz.II Tryz.func48 (by kernel_rfl) (fun (a:CD [.d bK, .obj 0]) (x:PD Tryz.aM)=>Tryz.Hd a.1 x) (fun (a:CD [.d bK, .obj 0]) (x:PD Tryz.aM) hw hp=>KE a.1 x hw hp)
end Go.Proofs.YtgokjhhcfemnhacGreatDoor

