/- A part of the proof that the law TopScopeCard holds of the given program: facts that are used there. -/
import Derived.Test.YtgokjhhcfemnhacDoorPart3
import Derived.Test.YtgokjhhcfemnhacDoorChecked
import Derived.Lib.LaidTab
import Derived.Lib.ItoaNum
import Derived.Shelf.Strconv.Itoa3
import Derived.Shelf.Strconv.AtoiAll
import Derived.Shelf.Strings.Split
import Derived.Shelf.Small.Wraps
import Derived.Shelf.Strings.Prefix
import Derived.Shelf.LaysM
import Derived.Shelf.LaysC
import Derived.Sort.Grow
import Derived.Lib.SplitLaws
import Derived.Lib.Builder
import Derived.Lib.UnsafeStr
import Derived.Lib.Strings
import Derived.Lib.Slices
import Derived.Lib.Walk
import Derived.Laws.Externs
import Derived.Deep.Heap
import Derived.Shelf.RegionOpenPlain
set_option linter.unusedSimpArgs false
set_option linter.unusedVariables false
set_option maxRecDepth 100000
set_option maxHeartbeats 4000000
namespace Go.Proofs.YtgokjhhcfemnhacDoor
open Go.Vg
noncomputable def Tryd.B:Cx:={eT:=50,τ:=[(2,(.int .i64)),(3,(.int .i64)),(4, .bool),(5,(.int .u8)),(7,(.prod (.int .i64) (.prod (.int .i64) (.prod .bool (.prod (.int .u8) .unit))))),(9, .str),(12,(.int .u64)),(13,(.prod .str (.prod (.int .u64) .unit))),(18,(.prod .cN .unit)),(21,(.int .i32)),(22,(.slice .str)),(23,(.slice (.int .i64))),(24,(.slice aF)),(25,(.slice aN)),(26,aB),(27,aB),(28, .err),(29, .err),(37,(.slice br)),(41,(.slice aB)),(50,(.int .i64)),(56,aF),(57,aF),(58,aN),(59,aN),(62,(.slice (.int .u8))),(63,(.prod .cN (.prod (.slice (.int .u8)) .unit))),(64,(.prod .cN (.prod (.slice (.int .u8)) .unit))),(72, .cN),(73,(.prod .cN (.prod (.int .i64) .unit))),(74,(.prod .cN (.prod (.int .i64) .unit))),(76,(.prod .str (.prod (.int .i64) .unit))),(77,(.prod .str (.prod (.int .i64) .unit))),(80,(.int .u64)),(81,(.slice eg)),(82,(.slice qS)),(83,dX),(84,dX),(85,br),(86,br),(95,eg),(96,eg),(117,(.int .u64)),(118,(.int .i64)),(126,(.int .u32)),(130,(.prod (.int .u8) (.prod (.int .u8) .unit))),(131,(.prod (.int .u8) (.prod (.int .u8) .unit))),(138,(.prod .str (.prod .str (.prod .err .unit)))),(139,(.prod .str (.prod .str (.prod .err .unit)))),(144,(.prod .str .unit)),(145,(.prod .str .unit)),(161,qS),(162,qS)],pw:=[(111,(24,5)),(125,(20,80)),(127,(65,5)),(129,(256,5)),(132,(16,131)),(146,(32,5)),(147,(64,5)),(150,(0,16))],Γ:=[],N:=0,eqs:=[57,59],gx:=[61],jh:=[(72,(9,77))],kz:=[(64,5)]}
theorem Tryd.cX:TyOK Tryd.prog Tryd.B:=CQ (n:=16) (by kernel_rfl)
structure Tryd.DL (w:World):Prop where
 pow:Lib.TabIs Tryd.prog w "internal/strconv.uint64pow10" .u64 Lib.pow10Tab
 max:∃m,w.cell? ⟨0,0,none⟩=some (.int .i64 m)
 Ee:∃ev,w.cell? ⟨4,0,none⟩=some ev/\(ev = .nilIface\/∃te pe,ev = .iface te pe)
 Ef:∃ev,w.cell? ⟨5,0,none⟩=some ev/\(ev = .nilIface\/∃te pe,ev = .iface te pe)
theorem Tryd.DM:Tryd.prog.globalNamed "internal/strconv.uint64pow10" = some 1:=by kernel_rfl
theorem oR {w:World} {b o:Nat} {v:Value} (h:w.cell? ⟨b,o,none⟩=some v):b < w.heap.size:=by
 unfold World.cell? at h
 by_cases hb:b < w.heap.size
 ·exact hb
 ·have h0:w.heap[b]?=none:=Array.getElem?_eq_none (by omega)
  simp [h0] at h
theorem mR {w w':World} {b o:Nat} (h:w'.heap[b]?=w.heap[b]?):w'.cell? ⟨b,o,none⟩=w.cell? ⟨b,o,none⟩:=by
 unfold World.cell?
 rw [h]
theorem AT {P:Program} {w w':World} {nm:String} {g:Nat} (hg:P.globalNamed nm=some g) (h:w'.heap[g]?=w.heap[g]?):w'.var? P nm=w.var? P nm:=by
 unfold World.var?
 rw [hg]
 simp [h]
noncomputable def Tryd.X:Ext:=
 {DS with
  na:=Tryd.DL
  wW:=[1,0,4,5]
  Cg:=fun {w} h b hb=>by
   obtain ⟨h1,⟨m,h2⟩,⟨e3,h3,_⟩,⟨e4,h4,_⟩⟩:=h
   simp only [List.mem_cons,List.not_mem_nil,or_false] at hb
   rcases hb with rfl | rfl | rfl | rfl
   ·have h1':=World.var?_cell Tryd.DM h1 0
    exact oR (v:=.int .u64 1) (by simpa [Lib.pow10Tab] using h1')
   ·exact oR h2
   ·exact oR h3
   ·exact oR h4
  tQ:=fun {w w'} h hb=>by
   obtain ⟨h1,⟨m,h2⟩,⟨e3,h3,h5⟩,⟨e4,h4,h6⟩⟩:=h
   refine ⟨?_,⟨m,?_⟩,⟨e3,?_,h5⟩,⟨e4,?_,h6⟩⟩
   ·unfold Lib.TabIs at h1 ⊢
    rw [AT Tryd.DM (hb 1 (by simp))];exact h1
   ·rw [mR (hb 0 (by simp))];exact h2
   ·rw [mR (hb 4 (by simp))];exact h3
   ·rw [mR (hb 5 (by simp))];exact h4}
end Go.Proofs.YtgokjhhcfemnhacDoor

namespace Go.Proofs.YtgokjhhcfemnhacDoor
open Go.Vg Go.Mrl
def vB (s:List UInt8):cA:=[(0,fun st=>{X:=Nat,inv:=fun i=>i<=s.length/\∀j,j < i->dH j (eI s j)=false,bF:=fun i=>s.length - i,bg:=fun i=>[(15, .s (.one (.d (.int .i64) i)))],aC:=fun _=>[],bf:=[0,14],dN:=[]})]
theorem B2 (s:List UInt8) (hw:gL [.str] s):(dW Tryd.B [] Tryd.f26 (vB s) [.str] [.err] (fun x y=>y=(fun s=>aW (aJ s)) x) s).holds:=by
 refine holds_of (p:=
  let za:=aW (aJ s)
  let zb:=bp.no (1:Int)=za
  let zc:=List.length s
  let zd:=fun (x_0:Nat)=>(↑(UInt8.toNat (eI s x_0)):Int)
  let ze:=bp.no (3:Int)=za
  let zf:=fun (x_0:Nat)=>((aY (↑x_0:Int))->((aY (1:Int))->(aY ((↑x_0:Int) + (1:Int)))/\(∃(x':Nat),(x'<=zc/\∀(j:Nat),j < x'->dH j (eI s j)=false)/\zc - x' < zc - x_0/\((↑x_0:Int) + (1:Int)=(↑x':Int)/\True)/\True)))
  let zg:=fun (x_0:Nat)=>(((zd x_0 != (95:Int))=true->(ze))/\((zd x_0 != (95:Int))=false->(zf x_0)))
  let zh:=fun (x_0:Nat)=>((((↑x_0:Int) == (0:Int))=true->(ze))/\(((↑x_0:Int) == (0:Int))=false->(((decide (zd x_0 < (48:Int)))=true->(zg x_0))/\((decide (zd x_0 < (48:Int)))=false->(((decide (zd x_0 > (57:Int)))=true->(zg x_0))/\((decide (zd x_0 > (57:Int)))=false->(zf x_0)))))))
  (((s == @List.nil UInt8)=true->(zb))/\((s == @List.nil UInt8)=false->((zc<=aI)->(((decide ((↑zc:Int) > (8:Int)))=true->(zb))/\((decide ((↑zc:Int) > (8:Int)))=false->((zc<=aI)->(∃(x:Nat),(x<=zc/\∀(j:Nat),j < x->dH j (eI s j)=false)/\((0:Int)=(↑x:Int)/\True)/\True)/\(∀x_0:Nat,((x_0<=zc/\∀(j:Nat),j < x_0->dH j (eI s j)=false)->(((decide ((↑x_0:Int) < (↑zc:Int)))=true->((0:Int)<=(↑x_0:Int)/\(↑x_0:Int) < (↑zc:Int))/\(((decide (zd x_0 < (97:Int)))=true->(zh x_0))/\((decide (zd x_0 < (97:Int)))=false->(((decide (zd x_0 > (122:Int)))=true->(zh x_0))/\((decide (zd x_0 > (122:Int)))=false->(zf x_0))))))/\((decide ((↑x_0:Int) < (↑zc:Int)))=false->(bp.nil=za)))))))))))) (by kernel_rfl) ?_
 dsimp -iota -proj -eta only
 refine iQ (fun h0 => ?a) (fun h0 h1=>iL (fun h2 => ?b) (fun h2 h3=>⟨(⟨0,⟨by omega,fun j hj=>by omega⟩,⟨rfl,trivial⟩,trivial⟩),fun x_0 q_0=>iL (fun h4=>⟨?c,iL (fun h5=>iQ (fun h6 => ?d) (fun h6=>iL (fun h7=>iN (fun h8 => ?e) (fun h8 h9 h10=>⟨?f,?g⟩)) (fun h7=>iL (fun h8=>iN (fun h9 => ?h) (fun h9 h10 h11=>⟨?i,?j⟩)) (fun h8 h9 h10=>⟨?k,?l⟩)))) (fun h5=>iL (fun h6=>iQ (fun h7 => ?m) (fun h7=>iL (fun h8=>iN (fun h9 => ?n) (fun h9 h10 h11=>⟨?o,?p⟩)) (fun h8=>iL (fun h9=>iN (fun h10 => ?q) (fun h10 h11 h12=>⟨?r,?s⟩)) (fun h9 h10 h11=>⟨?t,?u⟩)))) (fun h6 h7 h8=>⟨?v,?w⟩))⟩) (fun h4 => ?x)⟩))
 case a|b=>rw [tw (by first | omega | simp [h0])];rfl
 case c|f|o|r|t=>omega
 case d|e|h|m|n|q=>
  have hl:s.length≠0:=fun e=>h0 (List.length_eq_zero_iff.1 e)
  rw [qV (i:=x_0) (by omega) (by omega) (ss.2 (by omega))];rfl
 case g|j|l|p|s|u|w=>exact ⟨x_0 + 1,⟨by omega,BL q_0.2 (wu.2 (by omega))⟩,by omega,⟨by omega,trivial⟩,trivial⟩
 case i|k|v=>simp only [aY,aI] at *;omega
 case x=>
  have hl:s.length≠0:=fun e=>h0 (List.length_eq_zero_iff.1 e)
  rw [rI (by omega) (fun i hi=>q_0.2 i (by omega))];rfl
theorem Tryd.gG:bU Tryd.prog Tryd.B.eT Tryd.X 26 [.str] [.err] (fun _=>True) (fun x y=>y=(fun s=>aW (aJ s)) x):=
 cM (X:=Tryd.X) (cU Tryd.cX) Tryd.func26 (by kernel_rfl) (fun x=>vB x) (fun x hw hp=>B2 x hw)
end Go.Proofs.YtgokjhhcfemnhacDoor

namespace Go.Proofs.YtgokjhhcfemnhacDoor
open Go.Vg Go.Mrl
end Go.Proofs.YtgokjhhcfemnhacDoor

namespace Go.Proofs.YtgokjhhcfemnhacDoor
open Go.Vg Go.Mrl
@[reducible] def Tryd.aV:List Ob:=[.box 74 [.obj 1, .d (.int .i64)], .ext 1 (c7 b8)]
noncomputable def Tryd.vC:List (FuncId × (Bool × bB)):=[(26,(true,aZ [.str] [.err] (fun _=>True) (fun s=>aW (aJ s))))]
theorem Tryd.yV:bW Tryd.prog Tryd.B Tryd.X Tryd.vC:=
 bj (aK Tryd.gG) (cU Tryd.cX)
def Tryd.oS:List (Alt [] []):=[{bd:=Tryd.aV,res:=[.obj 0],out:=fun _ _=>kT,ret:=fun _ _=>()}]
theorem C4  (hw:kQ [] ()):(fv Tryd.B [] Tryd.f9 [] [] [] Tryd.oS () ()).holds:=by
 refine holds_of (p:=
  (True/\(((0:Int),()),([],(0:Int),()),())=kT/\()=())) (by kernel_rfl) ?_
 exact ⟨trivial,rfl,rfl⟩
theorem Tryd.xz:cz Tryd.prog Tryd.B.eT Tryd.X 9 false (bZ [] [] (fun _ _=>True) Tryd.oS):=
 cO (X:=Tryd.X) (cU Tryd.cX) Tryd.func9 (by kernel_rfl) (fun (a:CD []) (x:PD [])=>[]) (fun (a:CD []) (x:PD []) hw hp=>C4  hw)
def Tryd.jv:List (Alt Tryd.aV [.obj 0, .d .str]):=[{bd:=Tryd.aV,res:=[.d .str, .d (.int .i64), .d .err],out:=fun _ x=>x,ret:=fun a x=>((bI x a.1).1,(bI x a.1).2.1,aW (bI x a.1).2.2,())}]
theorem B3 (s:List UInt8) (f:cn) (hw:kQ [.obj 0, .d .str] (s,())):(fv Tryd.B [] Tryd.f15 [] Tryd.aV [.obj 0, .d .str] Tryd.jv (s,()) f).holds:=by
 refine holds_of (p:=
  let za:=Ty.prod Ty.str (Ty.prod (Ty.int IntKind.i64) Ty.unit)
  let zb:=(bI f s).2
  let zc:=((bI f s).1,zb.1,aW zb.2,())
  let zd:=hE za f.2.1.1 s
  (((!bY za f.2.1.1 s)=true->(True/\f=f/\([],(0:Int),bp.no (5:Int),())=zc))/\((!bY za f.2.1.1 s)=false->(True/\f=f/\(zd.1,zd.2.1,bp.nil,())=zc)))) (by kernel_rfl) ?_
 dsimp -iota -proj -eta only
 exact iB (fun h0=>(by exact ⟨trivial,rfl,by rw [kU h0];rfl⟩)) (fun h0=>(by exact ⟨trivial,rfl,by rw [mJ h0];rfl⟩))
theorem Tryd.p0:cz Tryd.prog Tryd.B.eT Tryd.X 15 false (bZ Tryd.aV [.obj 0, .d .str] (fun _ _=>True) Tryd.jv):=
 cO (X:=Tryd.X) (cU Tryd.cX) Tryd.func15 (by kernel_rfl) (fun (a:CD [.obj 0, .d .str]) (x:PD Tryd.aV)=>[]) (fun (a:CD [.obj 0, .d .str]) (x:PD Tryd.aV) hw hp=>B3 a.1 x hw)
def Tryd.jM:List (Alt Tryd.aV [.obj 0, .d .str, .d .str]):=[{bd:=Tryd.aV,res:=[.d .err],out:=fun a x=>(bz x a.1 a.2.1).1,ret:=fun a x=>(aW (bz x a.1 a.2.1).2,())}]
theorem AU (s:List UInt8) (t:List UInt8) (f:cn) (hw:kQ [.obj 0, .d .str, .d .str] (s,t,())) (hp:(fun _ x=>x.2.1.1.length<=6/\0<=x.1.1/\x.1.1<=1000000) (s,t,()) f):(fv Tryd.B Tryd.vC Tryd.f10 [] Tryd.aV [.obj 0, .d .str, .d .str] Tryd.jM (s,t,()) f).holds:=by
 refine holds_of (p:=
  let za:=aW (aJ s)
  let zb:=bz f s t
  let zc:=f=zb.1
  let zd:=(aW zb.2,())
  let ze:=Ty.prod Ty.str (Ty.prod (Ty.int IntKind.i64) Ty.unit)
  let zf:=f.2.1.1
  let zg:=True/\zc/\(bp.no (8:Int),())=zd
  let zh:=f.1.1 + (1:Int)
  let zi:=(((f.1.1 == (1000000:Int))=true->(zg))/\((f.1.1 == (1000000:Int))=false->((aY f.1.1)->((aY (1:Int))->(aY zh)/\(List.length zf < aI)/\(True/\((zh,()),(ch ze zf s (t,zh,()) f.2.1.2.1,fM ze zf s f.2.1.2.1,()),())=zb.1/\(bp.nil,())=zd)))))
  (True)/\(((!bp.isNil za)=true->(True/\zc/\(za,())=zd))/\((!bp.isNil za)=false->((List.length t<=aI)->(((decide ((↑(List.length t):Int) > (1200:Int)))=true->(True/\zc/\(bp.no (2:Int),())=zd))/\((decide ((↑(List.length t):Int) > (1200:Int)))=false->(((!bY ze zf s)=true->((((↑(List.length zf):Int) == (6:Int))=true->(zg))/\(((↑(List.length zf):Int) == (6:Int))=false->(zi))))/\((!bY ze zf s)=false->(zi))))))))) (by kernel_rfl) ?_
 dsimp -iota -proj -eta only
 refine ⟨trivial,iB (fun h0 => ?a) (fun h0 h1=>iL (fun h2=>(by rw [nW (aR.1 (by assumption)) (by omega)];exact ⟨trivial,rfl,rfl⟩)) (fun h2=>iB (fun h3=>iQ (fun h4 => ?b) (fun h4=>iQ (fun h5 => ?c) (fun h5 h6 h7=>⟨?d,?e,?f⟩))) (fun h3=>iQ (fun h4 => ?g) (fun h4 h5 h6=>⟨?h,?i,?j⟩))))⟩
 case a=>
  have hn:¬ aJ s=0:=(fun e=>by rw [aR.2 e] at h0;cases h0)
  rw [nV hn];exact ⟨trivial,rfl,rfl⟩
 case b|c|g=>rw [nX (aR.1 (by assumption)) (by omega) (by first | exact .inr (by omega) | exact .inl ⟨by assumption,by omega⟩)];exact ⟨trivial,rfl,rfl⟩
 case d|e|h|i=>simp only [aY,aI] at *;omega
 case f|j=>rw [qX (aR.1 (by assumption)) (by omega) (by rintro (⟨e1,e2⟩ | e);(first | omega | exact Bool.noConfusion (e1.symm.trans (show bY b8 f.2.1.1 s=true by assumption)));omega)];exact ⟨trivial,rfl,rfl⟩
theorem Tryd.sX:cz Tryd.prog Tryd.B.eT Tryd.X 10 false (bZ Tryd.aV [.obj 0, .d .str, .d .str] (fun _ x=>x.2.1.1.length<=6/\0<=x.1.1/\x.1.1<=1000000) Tryd.jM):=
 cO (X:=Tryd.X) Tryd.yV Tryd.func10 (by kernel_rfl) (fun (a:CD [.obj 0, .d .str, .d .str]) (x:PD Tryd.aV)=>[]) (fun (a:CD [.obj 0, .d .str, .d .str]) (x:PD Tryd.aV) hw hp=>AU a.1 a.2.1 x hw hp)
def Tryd.lz:List (Alt Tryd.aV [.obj 0, .d .str]):=[{bd:=Tryd.aV,res:=[.d .err],out:=fun a x=>(cB x a.1).1,ret:=fun a x=>(aW (cB x a.1).2,())}]
theorem yW (s:List UInt8) (f:cn) (hw:kQ [.obj 0, .d .str] (s,())):(fv Tryd.B [] Tryd.f29 [] Tryd.aV [.obj 0, .d .str] Tryd.lz (s,()) f).holds:=by
 refine holds_of (p:=
  let za:=Ty.prod Ty.str (Ty.prod (Ty.int IntKind.i64) Ty.unit)
  let zb:=cB f s
  let zc:=(aW zb.2,())
  (((!bY za f.2.1.1 s)=true->(True/\f=zb.1/\(bp.no (5:Int),())=zc))/\((!bY za f.2.1.1 s)=false->(True/\(f.1,(dn za f.2.1.1 s,f.2.1.2),())=zb.1/\(bp.nil,())=zc)))) (by kernel_rfl) ?_
 dsimp -iota -proj -eta only
 exact iB (fun h0=>(by rw [je h0];exact ⟨trivial,rfl,rfl⟩)) (fun h0=>(by rw [hZ h0];exact ⟨trivial,rfl,rfl⟩))
theorem Tryd.yX:cz Tryd.prog Tryd.B.eT Tryd.X 29 false (bZ Tryd.aV [.obj 0, .d .str] (fun _ _=>True) Tryd.lz):=
 cO (X:=Tryd.X) (cU Tryd.cX) Tryd.func29 (by kernel_rfl) (fun (a:CD [.obj 0, .d .str]) (x:PD Tryd.aV)=>[]) (fun (a:CD [.obj 0, .d .str]) (x:PD Tryd.aV) hw hp=>yW a.1 x hw)
end Go.Proofs.YtgokjhhcfemnhacDoor

namespace Go.Proofs.YtgokjhhcfemnhacDoor
open Go.Vg Go.Mrl
def sY (e:D dX):cA:=[
 (0,fun st=>{X:=Nat,inv:=fun i=>i<=e.2.1.length/\∀j,j < i->(nth eg e.2.1 j).1.length<=20,bF:=fun i=>e.2.1.length - i,bg:=fun i=>[(3,sI i)],bf:=[1]})]
theorem tx (e:D dX) (hw:gL [dX] e):(dW Tryd.B [] Tryd.f28 (sY e) [dX] [.bool] (fun e y=>y=true->hY e) e).holds:=by
 refine holds_of (p:=
  let za:=false=true->hY e
  let zb:=e.2.1
  let zc:=List.length zb
  let zd:=e.2.2.1
  let ze:=fun (x_0:Nat)=>List.length (nth eg zb x_0).1
  ((List.length e.1<=aI)->(((decide ((↑(List.length e.1):Int) > (20:Int)))=true->(za))/\((decide ((↑(List.length e.1):Int) > (20:Int)))=false->((zc<=aI)->(((decide ((↑zc:Int) > (8:Int)))=true->(za))/\((decide ((↑zc:Int) > (8:Int)))=false->((List.length zd<=aI)->(((decide ((↑(List.length zd):Int) > (40:Int)))=true->(za))/\((decide ((↑(List.length zd):Int) > (40:Int)))=false->(∃(x:Nat),(x<=zc/\∀(j:Nat),j < x->List.length (nth eg zb j).1<=(20:Nat))/\((0:Int)=(↑x:Int)/\True)/\True)/\(∀x_0:Nat,((x_0<=zc/\∀(j:Nat),j < x_0->List.length (nth eg zb j).1<=(20:Nat))->((zc<=aI)->(((decide ((↑x_0:Int) < (↑zc:Int)))=true->((0:Int)<=(↑x_0:Int)/\(↑x_0:Int) < (↑zc:Int))/\((ze x_0<=aI)->(((decide ((↑(ze x_0):Int) > (20:Int)))=true->(za))/\((decide ((↑(ze x_0):Int) > (20:Int)))=false->((aY (↑x_0:Int))->((aY (1:Int))->(aY ((↑x_0:Int) + (1:Int)))/\(∃(x':Nat),(x'<=zc/\∀(j:Nat),j < x'->List.length (nth eg zb j).1<=(20:Nat))/\zc - x' < zc - x_0/\((↑x_0:Int) + (1:Int)=(↑x':Int)/\True)/\(e.1=e.1/\zb=zb/\zd=zd/\True)/\True)))))))/\((decide ((↑x_0:Int) < (↑zc:Int)))=false->(true=true->hY e)))))))))))))))) (by kernel_rfl) ?_
 dsimp -iota -proj -eta only
 refine fun h0=>iL (fun h1 => ?a) (fun h1 h2=>iL (fun h3 => ?b) (fun h3 h4=>iL (fun h5 => ?c) (fun h5=>⟨?d,fun x_0 q_0 h6=>iL (fun h7=>⟨(by omega),fun h8=>iL (fun h9 => ?e) (fun h9 h10 h11=>⟨(by simp only [aY,aI] at *;omega),(⟨x_0 + 1,⟨by omega,oJ q_0.2 (by omega)⟩,by omega,⟨by omega,trivial⟩,(by trivial)⟩)⟩)⟩) (fun h7=>(fun _=>⟨by omega,by omega,by omega,fun i hi=>q_0.2 i (by omega)⟩))⟩)))
 case a|b|c|e=>simp_all
 case d=>refine ⟨0,?_⟩;(repeat' (first | exact trivial | rfl | omega | assumption | apply And.intro))
theorem Tryd.jB:bU Tryd.prog Tryd.B.eT Tryd.X 28 [dX] [.bool] (fun _=>True) (fun e y=>y=true->hY e):=
 cM (X:=Tryd.X) (cU Tryd.cX) Tryd.func28 (by kernel_rfl) (fun x=>sY x) (fun x hw hp=>tx x hw)
noncomputable def Tryd.vD:List (FuncId × (Bool × bB)):=[(28,(true,gD [dX] [.bool] (fun _=>True) (fun e y=>y=true->hY e)))]
theorem Tryd.yY:bW Tryd.prog Tryd.B Tryd.X Tryd.vD:=
 bj (dA Tryd.jB) (cU Tryd.cX)
def sZ (l:List (D br)) (m:Int):cA:=[
 (0,fun st=>{X:=Nat × Int,inv:=fun x=>x.1<=l.length/\(0<=x.2/\x.2<=20000)/\∀j,j < x.1->nU (nth br l j),bF:=fun x=>l.length - x.1,bg:=fun x=>[(6,sI x.1),(5,sI x.2)],bf:=[0]})]
theorem vE (l:List (D br)) (m:Int) (hw:gL [.slice br, .int .i64] (l,m)):(dW (yi Tryd.B) Tryd.vD Tryd.f13 (sZ l m) [.slice br, .int .i64] [.bool] (fun x y=>y=true->iG x.1 x.2) (l,m)).holds:=by
 refine holds_of (p:=
  let za:=List.length l
  let zb:=false=true->iG l m
  let zc:=fun (x_0:Nat × Int)=>(↑x_0.1:Int) < (↑za:Int)
  let zd:=fun (x_0:Nat × Int)=>(0:Int)<=(↑x_0.1:Int)/\zc x_0
  let ze:=fun (x_0:Nat × Int)=>List.length (nth br l x_0.1).2.2.1
  let zf:=fun (x_0:Nat × Int)=>List.length (nth br l x_0.1).2.1
  ((za<=aI)->(((decide ((↑za:Int) > m))=true->(zb))/\((decide ((↑za:Int) > m))=false->(∃(x:Nat × Int),(x.1<=za/\((0:Int)<=x.2/\x.2<=(20000:Int))/\∀(j:Nat),j < x.1->nU (nth br l j))/\((0:Int)=(↑x.1:Int)/\(0:Int)=x.2/\True)/\True)/\(∀x_0:Nat × Int,((x_0.1<=za/\((0:Int)<=x_0.2/\x_0.2<=(20000:Int))/\∀(j:Nat),j < x_0.1->nU (nth br l j))->((za<=aI)->(((decide (zc x_0))=true->(zd x_0)/\((ze x_0<=aI)->(∀x_1:Int,((x_1=IntKind.wrap IntKind.i64 (x_0.2 + (↑(ze x_0):Int)))->(zd x_0)/\((zf x_0<=aI)->(((decide ((↑(zf x_0):Int) > (100:Int)))=true->(zb))/\((decide ((↑(zf x_0):Int) > (100:Int)))=false->(zd x_0)/\((ze x_0<=aI)->(((decide ((↑(ze x_0):Int) > (1300:Int)))=true->(zb))/\((decide ((↑(ze x_0):Int) > (1300:Int)))=false->(((decide (x_1 > (20000:Int)))=true->(zb))/\((decide (x_1 > (20000:Int)))=false->(zd x_0)/\(True)/\(∀x_2:Bool,((x_2=true->hY (nth br l x_0.1).2.2.2.2.2.1)->(((!x_2)=true->(zb))/\((!x_2)=false->(∀x_3:Int,((x_3=IntKind.wrap IntKind.i64 ((↑x_0.1:Int) + (1:Int)))->(∃(x':Nat × Int),(x'.1<=za/\((0:Int)<=x'.2/\x'.2<=(20000:Int))/\∀(j:Nat),j < x'.1->nU (nth br l j))/\za - x'.1 < za - x_0.1/\(x_3=(↑x'.1:Int)/\x_1=x'.2/\True)/\True)))))))))))))))))))/\((decide (zc x_0))=false->(true=true->iG l m)))))))))) (by kernel_rfl) ?_
 dsimp -iota -proj -eta only
 refine fun h0=>iL (fun h1 => ?a) (fun h1=>⟨(by exact ⟨(0,0),⟨by omega,by simp,fun j hj=>by simp only at hj;omega⟩,⟨rfl,rfl,trivial⟩,trivial⟩),fun x_0 q_0 h2=>iL (fun h3=>⟨?b,fun h4 x_1 q_1=>⟨?c,fun h5=>iL (fun h6 => ?d) (fun h6=>⟨?e,fun h7=>iL (fun h8 => ?f) (fun h8=>iL (fun h9 => ?g) (fun h9=>⟨?h,trivial,fun x_2 q_2=>iB (fun h10 => ?i) (fun h10 x_3 q_3 => ?j)⟩))⟩)⟩⟩) (fun h3=>(fun _=>⟨by omega,fun i hi=>q_0.2.2 i (by omega)⟩))⟩)
 case a|d|f|g|i=>simp_all
 case b|c|e|h=>omega
 case j=>
  have hw2:IntKind.wrap IntKind.i64 (x_0.2 + (List.length (nth br l x_0.1).2.2.1:Int))=x_0.2 + (List.length (nth br l x_0.1).2.2.1:Int):=lT (by omega) (by omega)
  have hw3:IntKind.wrap IntKind.i64 ((x_0.1:Int) + 1)=(x_0.1:Int) + 1:=lT (by omega) (by have:(aI:Int)=9223372036854775807:=rfl;omega)
  exact ⟨(x_0.1 + 1,_),⟨by omega,by simp only;omega,oJ q_0.2.2 ⟨by omega,by omega,by simp_all⟩⟩,by simp only;omega,⟨by simp only;omega,rfl,trivial⟩,(by trivial)⟩
theorem Tryd.oq:bU Tryd.prog Tryd.B.eT Tryd.X 13 [.slice br, .int .i64] [.bool] (fun _=>True) (fun x y=>y=true->iG x.1 x.2):=
 cM (B:=(yi Tryd.B)) (X:=Tryd.X) (bW.wrap Tryd.yY) Tryd.func13 (by kernel_rfl) (fun x=>sZ x.1 x.2) (fun x hw hp=>vE x.1 x.2 hw)
end Go.Proofs.YtgokjhhcfemnhacDoor

namespace Go.Proofs.YtgokjhhcfemnhacDoor
open Go.Vg Go.Mrl
noncomputable def Tryd.s0:List (FuncId × (Bool × bB)):=[(26,(true,aZ [.str] [.err] (fun _=>True) (fun s=>aW (aJ s)))),
 (28,(true,gD [dX] [.bool] (fun _=>True) (fun e y=>y=true->hY e))),
 (13,(true,gD [.slice br, .int .i64] [.bool] (fun _=>True) (fun x y=>y=true->iG x.1 x.2))),
 (9,(false,bZ [] [] (fun _ _=>True) Tryd.oS)),
 (15,(false,bZ Tryd.aV [.obj 0, .d .str] (fun _ _=>True) Tryd.jv)),
 (10,(false,bZ Tryd.aV [.obj 0, .d .str, .d .str] (fun _ x=>x.2.1.1.length<=6/\0<=x.1.1/\x.1.1<=1000000) Tryd.jM)),
 (29,(false,bZ Tryd.aV [.obj 0, .d .str] (fun _ _=>True) Tryd.lz))]
theorem Tryd.wF:bW Tryd.prog Tryd.B Tryd.X Tryd.s0:=
 bj (aK Tryd.gG) (bj (dA Tryd.jB) (bj (dA Tryd.oq) (bj (Tryd.xz) (bj (Tryd.p0) (bj (Tryd.sX) (bj (Tryd.yX) (cU Tryd.cX)))))))
def Tryd.xA (l:List (D br)) (f:cn):cA:=[(0,fun st=>{X:=Nat,inv:=fun i=>i<=l.length,bF:=fun i=>l.length - i,bg:=fun i=>[(4,sI i)],bf:=[0,1],aC:=fun i=>[(0, .cells 74 [.bX 1, .d (.int .i64) (bJ f (l.take i)).1.1]),(1, .ext 1 (c7 b8) (bJ f (l.take i)).2.1)],iz:=[0,1]})]
def Tryd.p3:List (Alt Tryd.aV [.obj 0, .d (.slice br)]):=[{bd:=Tryd.aV,res:=[],out:=fun a x=>bJ x a.1,ret:=fun _ _=>()}]
theorem C5 (l:List (D br)) (f:cn) (hw:kQ [.obj 0, .d (.slice br)] (l,())) (hp:(fun _ x=>bq x) (l,()) f):(fv Tryd.B Tryd.s0 Tryd.f14 (Tryd.xA l f) Tryd.aV [.obj 0, .d (.slice br)] Tryd.p3 (l,()) f).holds:=by
 refine holds_of (p:=
  let za:=List.length l
  let zb:=C.bX (1:Nat)=C.bX (1:Nat)
  let zc:=fun (x_0:Nat)=>(0:Int)<=(↑x_0:Int)/\(↑x_0:Int) < (↑za:Int)
  let zd:=fun (x_0:Nat)=>bJ f (List.take x_0 l)
  let ze:=aY (1:Int)
  let zf:=fun (x_0:Nat)=>(↑x_0:Int) + (1:Int)
  let zg:=fun (x_0:Nat)=>(bz (zd x_0) (nth br l x_0).2.1 (nth br l x_0).2.2.1).1
  let zh:=fun (x_0:Nat)=>(cB (zd x_0) (nth br l x_0).2.1).1
  (∃(x:Nat),x<=za/\((0:Int)=(↑x:Int)/\True)/\(zb/\f.1.1=(bJ f (List.take x l)).1.1/\True)/\f.2.1=(bJ f (List.take x l)).2.1/\True)/\(∀x_0:Nat,((x_0<=za)->((za<=aI)->(((decide ((↑x_0:Int) < (↑za:Int)))=true->(zc x_0)/\((((nth br l x_0).1 == [(119:UInt8),114,105,116,101])=true->(zc x_0)/\(zc x_0)/\(List.length (zd x_0).2.1.1<=(6:Nat)/\(0:Int)<=(zd x_0).1.1/\(zd x_0).1.1<=(1000000:Int))/\((True)->((aY (↑x_0:Int))->((ze)->(aY (zf x_0))/\(∃(x':Nat),x'<=za/\za - x' < za - x_0/\(zf x_0=(↑x':Int)/\True)/\(zb/\(zg x_0).1.1=(bJ f (List.take x' l)).1.1/\True)/\(zg x_0).2.1=(bJ f (List.take x' l)).2.1/\True)))))/\(((nth br l x_0).1 == [(119:UInt8),114,105,116,101])=false->(zc x_0)/\((((nth br l x_0).1 == [(114:UInt8),101,109,111,118,101])=true->(zc x_0)/\(True)/\((True)->((aY (↑x_0:Int))->((ze)->(aY (zf x_0))/\(∃(x':Nat),x'<=za/\za - x' < za - x_0/\(zf x_0=(↑x':Int)/\True)/\(zb/\(zh x_0).1.1=(bJ f (List.take x' l)).1.1/\True)/\(zh x_0).2.1=(bJ f (List.take x' l)).2.1/\True)))))/\(((nth br l x_0).1 == [(114:UInt8),101,109,111,118,101])=false->((aY (↑x_0:Int))->((ze)->(aY (zf x_0))/\(∃(x':Nat),x'<=za/\za - x' < za - x_0/\(zf x_0=(↑x':Int)/\True)/\(zb/\(zd x_0).1.1=(bJ f (List.take x' l)).1.1/\True)/\(zd x_0).2.1=(bJ f (List.take x' l)).2.1/\True))))))))/\((decide ((↑x_0:Int) < (↑za:Int)))=false->(True/\zd x_0=bJ f l/\()=()))))))) (by kernel_rfl) ?_
 dsimp -iota -proj -eta only
 refine ⟨(⟨0,by omega,⟨rfl,trivial⟩,⟨rfl,rfl,trivial⟩,rfl,trivial⟩),fun x_0 q_0 h0=>iL (fun h1=>⟨?a,iQ (fun h2=>⟨?b,?c,((bq.done _ hp).pre),fun h3 h4 h5=>⟨?d,(by exact ⟨x_0 + 1,by omega,by omega,⟨by omega,trivial⟩,by rw [mK (by omega),wv (by unfold km;assumption)];exact ⟨⟨rfl,rfl,trivial⟩,rfl,trivial⟩⟩)⟩⟩) (fun h2=>⟨?e,iQ (fun h3=>⟨?f,trivial,fun h4 h5 h6=>⟨?g,(by exact ⟨x_0 + 1,by omega,by omega,⟨by omega,trivial⟩,by rw [mK (by omega),u7 (by unfold km;assumption) (by unfold lW;assumption)];exact ⟨⟨rfl,rfl,trivial⟩,rfl,trivial⟩⟩)⟩⟩) (fun h3 h4 h5=>⟨?h,(by exact ⟨x_0 + 1,by omega,by omega,⟨by omega,trivial⟩,by rw [mK (by omega),yt (by unfold km;assumption) (by unfold lW;assumption)];exact ⟨⟨rfl,rfl,trivial⟩,rfl,trivial⟩⟩)⟩)⟩)⟩) (fun h1=>(by rw [List.take_of_length_le (by omega)];exact ⟨trivial,rfl,rfl⟩))⟩
 case a|b|c|e|f=>omega
 case d|g|h=>simp only [aY,aI] at *;omega
theorem Tryd.C6:cz Tryd.prog Tryd.B.eT Tryd.X 14 false (bZ Tryd.aV [.obj 0, .d (.slice br)] (fun _ x=>bq x) Tryd.p3):=
 cO (X:=Tryd.X) Tryd.wF Tryd.func14 (by kernel_rfl) (fun (a:CD [.obj 0, .d (.slice br)]) (x:PD Tryd.aV)=>Tryd.xA a.1 x) (fun (a:CD [.obj 0, .d (.slice br)]) (x:PD Tryd.aV) hw hp=>C5 a.1 x hw hp)
end Go.Proofs.YtgokjhhcfemnhacDoor

namespace Go.Proofs.YtgokjhhcfemnhacDoor
open Go.Vg Go.Mrl
end Go.Proofs.YtgokjhhcfemnhacDoor

namespace Go.Proofs.YtgokjhhcfemnhacDoor
open Go.Shelf
def Tryd.wG:Go.Shelf.Ren:=⟨fun | 103=>32 | 210=>44 | 206=>54 | n=>n,fun | 9=>9 | 4=>4 | 24=>89 | 3=>3 | n=>n,fun | n=>n⟩
theorem Tryd.C7:Go.Proofs.Lays.n103 Tryd.prog Tryd.wG:={
 mixed:=by kernel_rfl
 f103:=Tryd.func32.trans (congrArg some (by kernel_rfl))
 f206:=Tryd.func54.trans (congrArg some (by kernel_rfl))
 f210:=Tryd.func44.trans (congrArg some (by kernel_rfl))
 t3:=Tryd.underlying3
 a3:=Tryd.isAgg3
 z3:=Tryd.sizeOf3
 v3:=Tryd.zeroValue3
 t4:=Tryd.underlying4
 a4:=Tryd.isAgg4
 z4:=Tryd.sizeOf4
 v4:=Tryd.zeroValue4
 t9:=Tryd.underlying9
 a9:=Tryd.isAgg9
 z9:=Tryd.sizeOf9
 v9:=Tryd.zeroValue9
 t24:=Tryd.underlying89
 a24:=Tryd.isAgg89
 z24:=Tryd.sizeOf89
 v24:=Tryd.zeroValue89}
open Go.RowKit in
theorem Tryd.strings_CutPrefix (s p:ByteArray) (w:World) :
  Calls Tryd.prog 32 #[.string s, .string p] w fun e w'=>e = .returned (.tuple #[.string ⟨(Lib.trimPrefix s.data.toList p.data.toList).toArray⟩, .bool (Lib.hasPrefix s.data.toList p.data.toList)])/\w'=w:=Any.strings_CutPrefix Tryd.C7 s p w
def Tryd.vF:Go.Shelf.Ren:=⟨fun | 171=>20 | 243=>37 | 246=>48 | 283=>58 | 284=>59 | 285=>60 | 286=>61 | 129=>73 | 317=>72 | 318=>74 | 319=>75 | 320=>76 | 337=>82 | 338=>83 | n=>n,fun | 3=>3 | 9=>9 | 2=>2 | 4=>4 | 171=>111 | 0=>0 | 53=>80 | 37=>62 | 5=>5 | 173=>114 | 212=>125 | 51=>126 | 20=>20 | 213=>127 | 46=>117 | 232=>146 | 233=>147 | n=>n,fun | 17=>1 | 18=>6 | 19=>7 | n=>n⟩
theorem Tryd.B4:Go.Proofs.LaysM.n171 Tryd.prog Tryd.vF:={
 mixed:=by kernel_rfl
 f129:=Tryd.func73.trans (congrArg some (by kernel_rfl))
 f171:=Tryd.func20.trans (congrArg some (by kernel_rfl))
 f243:=Tryd.func37.trans (congrArg some (by kernel_rfl))
 f246:=Tryd.func48.trans (congrArg some (by kernel_rfl))
 f283:=Tryd.func58.trans (congrArg some (by kernel_rfl))
 f284:=Tryd.func59.trans (congrArg some (by kernel_rfl))
 f285:=Tryd.func60.trans (congrArg some (by kernel_rfl))
 f286:=Tryd.func61.trans (congrArg some (by kernel_rfl))
 f317:=Tryd.func72.trans (congrArg some (by kernel_rfl))
 f318:=Tryd.func74.trans (congrArg some (by kernel_rfl))
 f319:=Tryd.func75.trans (congrArg some (by kernel_rfl))
 f320:=Tryd.func76.trans (congrArg some (by kernel_rfl))
 f337:=Tryd.func82.trans (congrArg some (by kernel_rfl))
 f338:=Tryd.func83.trans (congrArg some (by kernel_rfl))
 t0:=Tryd.underlying0
 a0:=Tryd.isAgg0
 z0:=Tryd.sizeOf0
 v0:=Tryd.zeroValue0
 t2:=Tryd.underlying2
 a2:=Tryd.isAgg2
 z2:=Tryd.sizeOf2
 v2:=Tryd.zeroValue2
 t3:=Tryd.underlying3
 a3:=Tryd.isAgg3
 z3:=Tryd.sizeOf3
 v3:=Tryd.zeroValue3
 t4:=Tryd.underlying4
 a4:=Tryd.isAgg4
 z4:=Tryd.sizeOf4
 v4:=Tryd.zeroValue4
 t5:=Tryd.underlying5
 a5:=Tryd.isAgg5
 z5:=Tryd.sizeOf5
 v5:=Tryd.zeroValue5
 t9:=Tryd.underlying9
 a9:=Tryd.isAgg9
 z9:=Tryd.sizeOf9
 v9:=Tryd.zeroValue9
 t20:=Tryd.underlying20
 a20:=Tryd.isAgg20
 z20:=Tryd.sizeOf20
 v20:=Tryd.zeroValue20
 t37:=Tryd.underlying62
 a37:=Tryd.isAgg62
 z37:=Tryd.sizeOf62
 v37:=Tryd.zeroValue62
 t46:=Tryd.underlying117
 a46:=Tryd.isAgg117
 z46:=Tryd.sizeOf117
 v46:=Tryd.zeroValue117
 t51:=Tryd.underlying126
 a51:=Tryd.isAgg126
 z51:=Tryd.sizeOf126
 v51:=Tryd.zeroValue126
 t53:=Tryd.underlying80
 a53:=Tryd.isAgg80
 z53:=Tryd.sizeOf80
 v53:=Tryd.zeroValue80
 t171:=Tryd.underlying111
 a171:=Tryd.isAgg111
 z171:=Tryd.sizeOf111
 v171:=Tryd.zeroValue111
 t173:=Tryd.underlying114
 a173:=Tryd.isAgg114
 z173:=Tryd.sizeOf114
 v173:=Tryd.zeroValue114
 t212:=Tryd.underlying125
 a212:=Tryd.isAgg125
 z212:=Tryd.sizeOf125
 v212:=Tryd.zeroValue125
 t213:=Tryd.underlying127
 a213:=Tryd.isAgg127
 z213:=Tryd.sizeOf127
 t232:=Tryd.underlying146
 a232:=Tryd.isAgg146
 z232:=Tryd.sizeOf146
 v232:=Tryd.zeroValue146
 t233:=Tryd.underlying147
 a233:=Tryd.isAgg147
 z233:=Tryd.sizeOf147
 v233:=Tryd.zeroValue147
 g17:=by kernel_rfl
 g18:=by kernel_rfl
 g19:=by kernel_rfl
 i0:=by kernel_rfl
 i2:=by kernel_rfl
 i3:=by kernel_rfl
 i4:=by kernel_rfl
 i5:=by kernel_rfl
 i9:=by kernel_rfl
 i20:=by kernel_rfl
 i37:=by kernel_rfl
 i46:=by kernel_rfl
 i51:=by kernel_rfl
 i53:=by kernel_rfl
 i171:=by kernel_rfl
 i173:=by kernel_rfl
 i212:=by kernel_rfl
 i232:=by kernel_rfl
 i233:=by kernel_rfl
 m17:=by kernel_rfl
 m18:=by kernel_rfl
 m19:=by kernel_rfl}
open Go.RowKit Go.Sort Go.Lib in
theorem Tryd.strconv_Itoa (n:Int) (h0 : -9223372036854775808<=n) (h1:n<=9223372036854775807) (w:World) (htab:Lib.TabIs Tryd.prog w "internal/strconv.uint64pow10" .u64 Lib.pow10Tab) :
  Calls Tryd.prog 20 #[.int .i64 n] w fun e w'=>e = .returned (.string ⟨(Lib.itoa n).toArray⟩)/\∃k os,w'=grow (w.drewN k) os:=Any.strconv_Itoa Tryd.B4 n h0 h1 w htab
def Tryd.vG:Go.Shelf.Ren:=⟨fun | 172=>45 | 244=>55 | 245=>56 | 247=>67 | 279=>68 | 280=>69 | 281=>70 | 282=>71 | 287=>79 | 316=>80 | 171=>20 | 205=>81 | 321=>84 | 322=>85 | 243=>37 | 246=>48 | 283=>58 | 284=>59 | 285=>60 | 286=>61 | 129=>73 | 317=>72 | 318=>74 | 319=>75 | 320=>76 | 337=>82 | 338=>83 | n=>n,fun | 9=>9 | 3=>3 | 75=>29 | 76=>66 | 4=>4 | 5=>5 | 167=>118 | 37=>62 | 0=>0 | 85=>119 | 2=>2 | 168=>121 | 53=>80 | 175=>135 | 46=>117 | 210=>139 | 127=>93 | 145=>145 | 143=>143 | 21=>21 | 171=>111 | 173=>114 | 212=>125 | 51=>126 | 20=>20 | 213=>127 | 232=>146 | 233=>147 | 80=>70 | n=>n,fun | 15=>4 | 16=>5 | 17=>1 | 18=>6 | 19=>7 | n=>n⟩
theorem Tryd.p4:Go.Proofs.LaysC.n172 Tryd.prog Tryd.vG:={
 mixed:=by kernel_rfl
 f129:=Tryd.func73.trans (congrArg some (by kernel_rfl))
 f171:=Tryd.func20.trans (congrArg some (by kernel_rfl))
 f172:=Tryd.func45.trans (congrArg some (by kernel_rfl))
 f205:=Tryd.func81.trans (congrArg some (by kernel_rfl))
 f243:=Tryd.func37.trans (congrArg some (by kernel_rfl))
 f244:=Tryd.func55.trans (congrArg some (by kernel_rfl))
 f245:=Tryd.func56.trans (congrArg some (by kernel_rfl))
 f246:=Tryd.func48.trans (congrArg some (by kernel_rfl))
 f247:=Tryd.func67.trans (congrArg some (by kernel_rfl))
 f279:=Tryd.func68.trans (congrArg some (by kernel_rfl))
 f280:=Tryd.func69.trans (congrArg some (by kernel_rfl))
 f281:=Tryd.func70.trans (congrArg some (by kernel_rfl))
 f282:=Tryd.func71.trans (congrArg some (by kernel_rfl))
 f283:=Tryd.func58.trans (congrArg some (by kernel_rfl))
 f284:=Tryd.func59.trans (congrArg some (by kernel_rfl))
 f285:=Tryd.func60.trans (congrArg some (by kernel_rfl))
 f286:=Tryd.func61.trans (congrArg some (by kernel_rfl))
 f287:=Tryd.func79.trans (congrArg some (by kernel_rfl))
 f316:=Tryd.func80.trans (congrArg some (by kernel_rfl))
 f317:=Tryd.func72.trans (congrArg some (by kernel_rfl))
 f318:=Tryd.func74.trans (congrArg some (by kernel_rfl))
 f319:=Tryd.func75.trans (congrArg some (by kernel_rfl))
 f320:=Tryd.func76.trans (congrArg some (by kernel_rfl))
 f321:=Tryd.func84.trans (congrArg some (by kernel_rfl))
 f322:=Tryd.func85.trans (congrArg some (by kernel_rfl))
 f337:=Tryd.func82.trans (congrArg some (by kernel_rfl))
 f338:=Tryd.func83.trans (congrArg some (by kernel_rfl))
 t0:=Tryd.underlying0
 a0:=Tryd.isAgg0
 z0:=Tryd.sizeOf0
 v0:=Tryd.zeroValue0
 t2:=Tryd.underlying2
 a2:=Tryd.isAgg2
 z2:=Tryd.sizeOf2
 v2:=Tryd.zeroValue2
 t3:=Tryd.underlying3
 a3:=Tryd.isAgg3
 z3:=Tryd.sizeOf3
 v3:=Tryd.zeroValue3
 t4:=Tryd.underlying4
 a4:=Tryd.isAgg4
 z4:=Tryd.sizeOf4
 v4:=Tryd.zeroValue4
 t5:=Tryd.underlying5
 a5:=Tryd.isAgg5
 z5:=Tryd.sizeOf5
 v5:=Tryd.zeroValue5
 t9:=Tryd.underlying9
 a9:=Tryd.isAgg9
 z9:=Tryd.sizeOf9
 v9:=Tryd.zeroValue9
 t20:=Tryd.underlying20
 a20:=Tryd.isAgg20
 z20:=Tryd.sizeOf20
 v20:=Tryd.zeroValue20
 t21:=Tryd.underlying21
 a21:=Tryd.isAgg21
 z21:=Tryd.sizeOf21
 v21:=Tryd.zeroValue21
 t37:=Tryd.underlying62
 a37:=Tryd.isAgg62
 z37:=Tryd.sizeOf62
 v37:=Tryd.zeroValue62
 t46:=Tryd.underlying117
 a46:=Tryd.isAgg117
 z46:=Tryd.sizeOf117
 v46:=Tryd.zeroValue117
 t51:=Tryd.underlying126
 a51:=Tryd.isAgg126
 z51:=Tryd.sizeOf126
 v51:=Tryd.zeroValue126
 t53:=Tryd.underlying80
 a53:=Tryd.isAgg80
 z53:=Tryd.sizeOf80
 v53:=Tryd.zeroValue80
 t75:=Tryd.underlying29
 a75:=Tryd.isAgg29
 z75:=Tryd.sizeOf29
 v75:=Tryd.zeroValue29
 t76:=Tryd.underlying66
 a76:=Tryd.isAgg66
 z76:=Tryd.sizeOf66
 v76:=Tryd.zeroValue66
 t85:=Tryd.underlying119
 a85:=Tryd.isAgg119
 z85:=Tryd.sizeOf119
 v85:=Tryd.zeroValue119
 t127:=Tryd.underlying93
 a127:=Tryd.isAgg93
 z127:=Tryd.sizeOf93
 v127:=Tryd.zeroValue93
 t143:=Tryd.underlying143
 a143:=Tryd.isAgg143
 z143:=Tryd.sizeOf143
 v143:=Tryd.zeroValue143
 t145:=Tryd.underlying145
 a145:=Tryd.isAgg145
 z145:=Tryd.sizeOf145
 v145:=Tryd.zeroValue145
 t167:=Tryd.underlying118
 a167:=Tryd.isAgg118
 z167:=Tryd.sizeOf118
 v167:=Tryd.zeroValue118
 t168:=Tryd.underlying121
 a168:=Tryd.isAgg121
 z168:=Tryd.sizeOf121
 v168:=Tryd.zeroValue121
 t171:=Tryd.underlying111
 a171:=Tryd.isAgg111
 z171:=Tryd.sizeOf111
 v171:=Tryd.zeroValue111
 t173:=Tryd.underlying114
 a173:=Tryd.isAgg114
 z173:=Tryd.sizeOf114
 v173:=Tryd.zeroValue114
 t175:=Tryd.underlying135
 a175:=Tryd.isAgg135
 z175:=Tryd.sizeOf135
 v175:=Tryd.zeroValue135
 t210:=Tryd.underlying139
 a210:=Tryd.isAgg139
 z210:=Tryd.sizeOf139
 v210:=Tryd.zeroValue139
 t212:=Tryd.underlying125
 a212:=Tryd.isAgg125
 z212:=Tryd.sizeOf125
 v212:=Tryd.zeroValue125
 t213:=Tryd.underlying127
 a213:=Tryd.isAgg127
 z213:=Tryd.sizeOf127
 t232:=Tryd.underlying146
 a232:=Tryd.isAgg146
 z232:=Tryd.sizeOf146
 v232:=Tryd.zeroValue146
 t233:=Tryd.underlying147
 a233:=Tryd.isAgg147
 z233:=Tryd.sizeOf147
 v233:=Tryd.zeroValue147
 g15:=by kernel_rfl
 g16:=by kernel_rfl
 g17:=by kernel_rfl
 g18:=by kernel_rfl
 g19:=by kernel_rfl
 t80:=Tryd.underlying70
 a80:=Tryd.isAgg70
 z80:=Tryd.sizeOf70
 v80:=Tryd.zeroValue70
 i0:=by kernel_rfl
 i2:=by kernel_rfl
 i3:=by kernel_rfl
 i4:=by kernel_rfl
 i5:=by kernel_rfl
 i9:=by kernel_rfl
 i20:=by kernel_rfl
 i21:=by kernel_rfl
 i37:=by kernel_rfl
 i46:=by kernel_rfl
 i51:=by kernel_rfl
 i53:=by kernel_rfl
 i75:=by kernel_rfl
 i76:=by kernel_rfl
 i80:=by kernel_rfl
 i85:=by kernel_rfl
 i127:=by kernel_rfl
 i143:=by kernel_rfl
 i145:=by kernel_rfl
 i167:=by kernel_rfl
 i168:=by kernel_rfl
 i171:=by kernel_rfl
 i173:=by kernel_rfl
 i175:=by kernel_rfl
 i210:=by kernel_rfl
 i212:=by kernel_rfl
 i232:=by kernel_rfl
 i233:=by kernel_rfl
 m15:=by kernel_rfl
 m16:=by kernel_rfl
 m17:=by kernel_rfl
 m18:=by kernel_rfl
 m19:=by kernel_rfl
 c0:=by kernel_rfl
 c2:=by kernel_rfl
 c3:=by kernel_rfl
 c4:=by kernel_rfl
 c5:=by kernel_rfl
 c9:=by kernel_rfl
 c20:=by kernel_rfl
 c21:=by kernel_rfl
 c37:=by kernel_rfl
 c46:=by kernel_rfl
 c51:=by kernel_rfl
 c53:=by kernel_rfl
 c75:=by kernel_rfl
 c76:=by kernel_rfl
 c80:=by kernel_rfl
 c85:=by kernel_rfl
 c127:=by kernel_rfl
 c143:=by kernel_rfl
 c145:=by kernel_rfl
 c167:=by kernel_rfl
 c168:=by kernel_rfl
 c171:=by kernel_rfl
 c173:=by kernel_rfl
 c175:=by kernel_rfl
 c210:=by kernel_rfl
 c212:=by kernel_rfl
 c213:=by kernel_rfl
 c232:=by kernel_rfl
 c233:=by kernel_rfl}
open Go.RowKit in
theorem Tryd.strconv_Atoi_ok (s:ByteArray) (hmax:s.size<=9223372036854775806) (v:Int) (h:Lib.atoiAll s.data.toList = .ok v) (w:World) :
  Calls Tryd.prog 45 #[.string s] w fun e w'=>e = .returned (.tuple #[.int .i64 v, .nilIface])/\(w'=w\/∃t,w'=Lib.bytesWorld w 5 t):=Any.strconv_Atoi_ok Tryd.p4 s hmax v h w
open Go.RowKit in
theorem Tryd.strconv_Atoi_syntax (s:ByteArray) (hlim:s.size<=281474976710656) (h:Lib.atoiAll s.data.toList=Go.Lib.NumEnd.syntax) (ev:Value) (w:World) (hv:w.cell? ⟨4,0,none⟩=some ev) (hev:ev = .nilIface\/∃te pe,ev = .iface te pe) :
  Calls Tryd.prog 45 #[.string s] w fun e w'=>∃N,e = .returned (.tuple #[.int .i64 (0), .iface 121 (.pointer (some ⟨N,0,none⟩))])/\w.heap.size<=N/\w'.heap[N]?=some (.cells #[.string ⟨#[65,116,111,105]⟩, .string s,ev] 139 (0,0))/\Below w.heap.size w w':=Any.strconv_Atoi_syntax Tryd.p4 s hlim h ev w hv hev
open Go.RowKit in
theorem Tryd.strconv_Atoi_range (s:ByteArray) (hlim:s.size<=281474976710656) (h:Lib.atoiAll s.data.toList = .range) (ev:Value) (w:World) (hv:w.cell? ⟨5,0,none⟩=some ev) (hev:ev = .nilIface\/∃te pe,ev = .iface te pe) :
  Calls Tryd.prog 45 #[.string s] w fun e w'=>∃N,e = .returned (.tuple #[.int .i64 (Lib.atoiSat s.data.toList), .iface 121 (.pointer (some ⟨N,0,none⟩))])/\w.heap.size<=N/\w'.heap[N]?=some (.cells #[.string ⟨#[65,116,111,105]⟩, .string s,ev] 139 (0,0))/\Below w.heap.size w w':=Any.strconv_Atoi_range Tryd.p4 s hlim h ev w hv hev
def Tryd.wH:Go.Shelf.Ren:=⟨fun | 102=>17 | 209=>31 | 207=>43 | n=>n,fun | 9=>9 | 4=>4 | 3=>3 | n=>n,fun | n=>n⟩
theorem Tryd.C8:Go.Proofs.Lays.n102 Tryd.prog Tryd.wH:={
 mixed:=by kernel_rfl
 f102:=Tryd.func17.trans (congrArg some (by kernel_rfl))
 f207:=Tryd.func43.trans (congrArg some (by kernel_rfl))
 f209:=Tryd.func31.trans (congrArg some (by kernel_rfl))
 t3:=Tryd.underlying3
 a3:=Tryd.isAgg3
 z3:=Tryd.sizeOf3
 v3:=Tryd.zeroValue3
 t4:=Tryd.underlying4
 a4:=Tryd.isAgg4
 z4:=Tryd.sizeOf4
 v4:=Tryd.zeroValue4
 t9:=Tryd.underlying9
 a9:=Tryd.isAgg9
 z9:=Tryd.sizeOf9
 v9:=Tryd.zeroValue9}
open Go.RowKit Go.Lib in
theorem Tryd.strings_TrimSuffix (s p:ByteArray) (w:World) (hs:s.size<=9223372036854775807) :
  Calls Tryd.prog 17 #[.string s, .string p] w fun e w'=>e = .returned (.string ⟨(Lib.trimSuffix s.data.toList p.data.toList).toArray⟩)/\w'=w:=Any.strings_TrimSuffix Tryd.C8 s p w hs
def Tryd.wI:Go.Shelf.Ren:=⟨fun | 146=>16 | 221=>30 | 268=>40 | 138=>41 | 143=>42 | 195=>50 | 197=>51 | 218=>52 | 219=>53 | 260=>62 | 217=>63 | 225=>64 | 224=>65 | 267=>66 | 266=>77 | 314=>78 | n=>n,fun | 9=>9 | 31=>22 | 3=>3 | 4=>4 | 0=>0 | 105=>106 | 21=>21 | 5=>5 | 46=>117 | 119=>129 | 139=>132 | 138=>131 | 146=>133 | 51=>126 | n=>n,fun | 1=>0 | 3=>2 | 4=>3 | n=>n⟩
theorem Tryd.C9:Go.Proofs.Lays.n146 Tryd.prog Tryd.wI:={
 mixed:=by kernel_rfl
 f138:=Tryd.func41.trans (congrArg some (by kernel_rfl))
 f143:=Tryd.func42.trans (congrArg some (by kernel_rfl))
 f146:=Tryd.func16.trans (congrArg some (by kernel_rfl))
 f195:=Tryd.func50.trans (congrArg some (by kernel_rfl))
 f197:=Tryd.func51.trans (congrArg some (by kernel_rfl))
 f217:=Tryd.func63.trans (congrArg some (by kernel_rfl))
 f218:=Tryd.func52.trans (congrArg some (by kernel_rfl))
 f219:=Tryd.func53.trans (congrArg some (by kernel_rfl))
 f221:=Tryd.func30.trans (congrArg some (by kernel_rfl))
 f224:=Tryd.func65.trans (congrArg some (by kernel_rfl))
 f225:=Tryd.func64.trans (congrArg some (by kernel_rfl))
 f260:=Tryd.func62.trans (congrArg some (by kernel_rfl))
 f266:=Tryd.func77.trans (congrArg some (by kernel_rfl))
 f267:=Tryd.func66.trans (congrArg some (by kernel_rfl))
 f268:=Tryd.func40.trans (congrArg some (by kernel_rfl))
 f314:=Tryd.func78.trans (congrArg some (by kernel_rfl))
 t0:=Tryd.underlying0
 a0:=Tryd.isAgg0
 z0:=Tryd.sizeOf0
 v0:=Tryd.zeroValue0
 t3:=Tryd.underlying3
 a3:=Tryd.isAgg3
 z3:=Tryd.sizeOf3
 v3:=Tryd.zeroValue3
 t4:=Tryd.underlying4
 a4:=Tryd.isAgg4
 z4:=Tryd.sizeOf4
 v4:=Tryd.zeroValue4
 t5:=Tryd.underlying5
 a5:=Tryd.isAgg5
 z5:=Tryd.sizeOf5
 v5:=Tryd.zeroValue5
 t9:=Tryd.underlying9
 a9:=Tryd.isAgg9
 z9:=Tryd.sizeOf9
 v9:=Tryd.zeroValue9
 t21:=Tryd.underlying21
 a21:=Tryd.isAgg21
 z21:=Tryd.sizeOf21
 v21:=Tryd.zeroValue21
 t31:=Tryd.underlying22
 a31:=Tryd.isAgg22
 z31:=Tryd.sizeOf22
 v31:=Tryd.zeroValue22
 t46:=Tryd.underlying117
 a46:=Tryd.isAgg117
 z46:=Tryd.sizeOf117
 v46:=Tryd.zeroValue117
 t51:=Tryd.underlying126
 a51:=Tryd.isAgg126
 z51:=Tryd.sizeOf126
 v51:=Tryd.zeroValue126
 t105:=Tryd.underlying106
 a105:=Tryd.isAgg106
 z105:=Tryd.sizeOf106
 v105:=Tryd.zeroValue106
 t119:=Tryd.underlying129
 a119:=Tryd.isAgg129
 z119:=Tryd.sizeOf129
 t138:=Tryd.underlying131
 a138:=Tryd.isAgg131
 z138:=Tryd.sizeOf131
 v138:=Tryd.zeroValue131
 t139:=Tryd.underlying132
 a139:=Tryd.isAgg132
 z139:=Tryd.sizeOf132
 v139:=Tryd.zeroValue132
 t146:=Tryd.underlying133
 a146:=Tryd.isAgg133
 z146:=Tryd.sizeOf133
 v146:=Tryd.zeroValue133
 g1:=by kernel_rfl
 g3:=by kernel_rfl
 g4:=by kernel_rfl}
open Go.RowKit Go.Lib in
theorem Tryd.strings_Split (s sep:ByteArray) (m:Int) (w:World) (hs:s.size < 4294967281) (hm:w.cell? ⟨0,0,none⟩=some (.int .i64 m)) (h1:1<=sep.size) :
  Calls Tryd.prog 16 #[.string s, .string sep] w fun e w'=>
   e = .returned (.slice (some ⟨w.heap.size,0,none⟩) (Lib.countB s sep + 1) (Lib.countB s sep + 1))/\w'=w.alloc (.cells ((Lib.splitB sep 0 (Lib.countB s sep) s).map Value.string).toArray 9):=Any.strings_Split Tryd.C9 (by kernel_rfl) s sep m w hs hm h1
end Go.Proofs.YtgokjhhcfemnhacDoor

namespace Go.Proofs.YtgokjhhcfemnhacDoor
open Go.Vg Go.Mrl
theorem yZ (w:World) (k:Nat) (os:Array Obj):Vg.Below w.heap.size w (Sort.grow (w.drewN k) os):=by
 refine ⟨rfl,rfl,?_,fun i hi => ?_⟩
 ·show w.heap.size<=(w.heap++os).size
  simp
 ·show (w.heap++os)[i]?=w.heap[i]?
  rw [Array.getElem?_append,if_pos hi]
theorem Da {eT:TypeId} {n:Int} {O:aD} {w:World} {v:Value} (h:VR eT (.int .i64) n O w v):v = .int .i64 n/\-9223372036854775808<=n/\n<=9223372036854775807:=by
 obtain ⟨h1,h2,h3⟩:=VR.one rfl h
 exact ⟨by simpa using h1,h2,h3⟩
theorem iU {eT:TypeId} {s:List UInt8} {O:aD} {w:World} {v:Value} (h:VR eT .str s O w v):v = .string ⟨s.toArray⟩/\s.length<=aI:=by
 obtain ⟨h1,h2⟩:=VR.one rfl h
 exact ⟨by simpa using h1,h2⟩
theorem vH {eT:TypeId} {s:List UInt8} {O:aD} {w:World} (h:s.length<=aI):VR eT .str s O w (.string ⟨s.toArray⟩):=VR.bh rfl ⟨rfl,h⟩
theorem mS:∀(k u:Nat),u < 10 ^ (k + 1)->Lib.nDigits u<=k + 1
 | 0,u,h=>by rw [Lib.nDigits_small (by simpa using h)];exact Nat.le_refl _
 | k + 1,u,h=>by
  by_cases hu:u < 10
  ·rw [Lib.nDigits_small hu];omega
  ·rw [Lib.nDigits_big hu]
   have:=mS k (u / 10) (by rw [Nat.pow_succ] at h;omega)
   omega
theorem B5 {n:Int} (h0 : -9223372036854775808<=n) (h1:n<=9223372036854775807):(Lib.itoa n).length<=21:=by
 unfold Lib.itoa
 split
 ·rw [List.length_cons,Lib.decDigits_length]
  have:=mS 19 n.natAbs (by omega)
  omega
 ·rw [Lib.decDigits_length]
  have:=mS 19 n.toNat (by omega)
  omega
theorem Tryd.mT:bU Tryd.prog Tryd.B.eT Tryd.X 20 [.int .i64] [.str] (fun _=>True) (fun n y=>y=Lib.itoa n):=by
 refine ⟨⟨Tryd.f20,Tryd.func20,by kernel_rfl,by kernel_rfl⟩,fun O w n vs hG hO ha _ => ?_⟩
 obtain ⟨v,rfl,hv⟩:=ha
 obtain ⟨rfl,h0,h1⟩:=Da hv
 refine (Tryd.strconv_Itoa n h0 h1 w hG.pow).mono ?_
 rintro e w' ⟨rfl,k,os,rfl⟩
 exact ⟨[.string ⟨(Lib.itoa n).toArray⟩],Lib.itoa n,rfl,rfl,⟨_,rfl,vH (by have:=B5 h0 h1;unfold aI;omega)⟩,yZ w k os⟩
theorem Tryd.p5:bU Tryd.prog Tryd.B.eT Tryd.X 45 [.str] [.int .i64, .err] (fun s=>s.length<=281474976710656) (fun s y=>y=bP s):=by
 refine ⟨⟨Tryd.f45,Tryd.func45,by kernel_rfl,by kernel_rfl⟩,fun O w s vs hG hO ha hs => ?_⟩
 obtain ⟨v,rfl,hv⟩:=ha
 obtain ⟨rfl,hl⟩:=iU hv
 have hsz:(⟨s.toArray⟩:ByteArray).size=s.length:=by simp [ByteArray.size]
 have hsl:(⟨s.toArray⟩:ByteArray).data.toList=s:=by simp
 cases ha:Lib.atoiAll s with
 | ok n=>
  refine (Tryd.strconv_Atoi_ok ⟨s.toArray⟩ (by rw [hsz];omega) n (by rw [hsl];exact ha) w).mono ?_
  rintro e w' ⟨rfl,hw⟩
  obtain ⟨b0,b1⟩:=Lib.atoiAll_bounds ha
  refine ⟨[.int .i64 n, .nilIface],(n, .nil),rfl,by unfold bP;rw [ha],⟨_,_,rfl,VR.bh rfl ⟨rfl,b0,b1⟩,⟨_,rfl,VR.bh rfl ⟨_,rfl,rfl⟩⟩⟩,?_⟩
  rcases hw with rfl | ⟨t,rfl⟩
  ·exact Vg.Below.refl _ _
  ·exact .of (Lib.bytesWorld_below _ _ _)
 | range=>
  obtain ⟨ev,hv,he⟩:=hG.Ef
  obtain ⟨b0,b1⟩:=Lib.atoiSat_bounds s
  have hA:=Tryd.strconv_Atoi_range ⟨s.toArray⟩ (by rw [hsz];exact hs) (by rw [hsl];exact ha) ev w hv he
  rw [hsl] at hA
  refine hA.mono ?_
  rintro e w' ⟨N,rfl,_,_,hb⟩
  exact ⟨[.int .i64 (Lib.atoiSat s),_],(Lib.atoiSat s, .other),rfl,by unfold bP;rw [ha],⟨_,_,rfl,VR.bh rfl ⟨rfl,b0,b1⟩,⟨_,rfl,VR.bh rfl ⟨_,rfl,_,_,rfl,by decide +kernel⟩⟩⟩, .of hb⟩
 | _=>
  obtain ⟨ev,hv,he⟩:=hG.Ee
  refine (Tryd.strconv_Atoi_syntax ⟨s.toArray⟩ (by rw [hsz];exact hs) (by rw [hsl];exact ha) ev w hv he).mono ?_
  rintro e w' ⟨N,rfl,_,_,hb⟩
  exact ⟨[.int .i64 0,_],(0, .other),rfl,by unfold bP;rw [ha],⟨_,_,rfl,VR.bh rfl ⟨rfl,by decide,by decide⟩,⟨_,rfl,VR.bh rfl ⟨_,rfl,_,_,rfl,by decide +kernel⟩⟩⟩, .of hb⟩
theorem Tryd.ku:bU Tryd.prog Tryd.B.eT Tryd.X 32 [.str, .str] [.str, .bool] (fun _=>True) (fun x y=>y=(Lib.trimPrefix x.1 x.2,Lib.hasPrefix x.1 x.2)):=by
 refine ⟨⟨Tryd.f32,Tryd.func32,by kernel_rfl,by kernel_rfl⟩,fun O w x vs hG hO ha _ => ?_⟩
 obtain ⟨s,p⟩:=x
 obtain ⟨v,vs',rfl,hv,u,rfl,hu⟩:=ha
 obtain ⟨rfl,hl⟩:=iU hv
 obtain ⟨rfl,_⟩:=iU hu
 refine (Tryd.strings_CutPrefix ⟨s.toArray⟩ ⟨p.toArray⟩ w).mono ?_
 rintro e w' ⟨rfl,rfl⟩
 have hle:(Lib.trimPrefix s p).length<=s.length:=by unfold Lib.trimPrefix;split <;> simp
 exact ⟨[.string ⟨(Lib.trimPrefix s p).toArray⟩, .bool (Lib.hasPrefix s p)],_,rfl,rfl,⟨_,_,rfl,vH (Nat.le_trans hle hl),_,rfl,VR.bh rfl rfl⟩,Vg.Below.refl _ _⟩
theorem Tryd.jC:bU Tryd.prog Tryd.B.eT Tryd.X 17 [.str, .str] [.str] (fun _=>True) (fun x y=>y=Lib.trimSuffix x.1 x.2):=by
 refine ⟨⟨Tryd.f17,Tryd.func17,by kernel_rfl,by kernel_rfl⟩,fun O w x vs hG hO ha _ => ?_⟩
 obtain ⟨s,p⟩:=x
 obtain ⟨v,vs',rfl,hv,u,rfl,hu⟩:=ha
 obtain ⟨rfl,hl⟩:=iU hv
 obtain ⟨rfl,_⟩:=iU hu
 have hl:s.length<=aI:=hl
 have hsz:(⟨s.toArray⟩:ByteArray).size=s.length:=by simp [ByteArray.size]
 refine (Tryd.strings_TrimSuffix ⟨s.toArray⟩ ⟨p.toArray⟩ w (by rw [hsz];exact hl)).mono ?_
 rintro e w' ⟨rfl,rfl⟩
 have hle:(Lib.trimSuffix s p).length<=s.length:=by unfold Lib.trimSuffix;split <;> simp
 exact ⟨[.string ⟨(Lib.trimSuffix s p).toArray⟩],_,rfl,rfl,⟨_,rfl,vH (Nat.le_trans hle hl)⟩,Vg.Below.refl _ _⟩
theorem Tryd.p6:bU Tryd.prog Tryd.B.eT Tryd.X 16 [.str, .str] [.slice .str] (fun x=>x.1.length < 4294967281/\x.2.length=1) (fun x y=>y=parts (Cr x.2) x.1):=by
 refine ⟨⟨Tryd.f16,Tryd.func16,by kernel_rfl,by kernel_rfl⟩,fun O w x vs hG hO ha hp => ?_⟩
 obtain ⟨s,p⟩:=x
 obtain ⟨hs,hp⟩:=hp
 obtain ⟨c,rfl⟩:∃c,p = [c]:=List.length_eq_one_iff.1 hp
 obtain ⟨v,vs',rfl,hv,u,rfl,hu⟩:=ha
 obtain ⟨rfl,hl⟩:=iU hv
 obtain ⟨rfl,_⟩:=iU hu
 obtain ⟨m,hm⟩:=hG.max
 have hsz:(⟨s.toArray⟩:ByteArray).size=s.length:=by simp [ByteArray.size]
 have h1:1<=(⟨#[c]⟩:ByteArray).size:=Nat.le_refl 1
 refine (Tryd.strings_Split ⟨s.toArray⟩ ⟨#[c]⟩ m w (by rw [hsz];exact hs) hm h1).mono ?_
 rintro e w' ⟨rfl,rfl⟩
 have hlen:=Lib.splitB_all ⟨#[c]⟩ h1 0 _ ⟨s.toArray⟩ rfl
 have hdat:=Lib.splitB_data ⟨#[c]⟩ 0 (Lib.countB ⟨s.toArray⟩ ⟨#[c]⟩) ⟨s.toArray⟩
 have hcb:=Lib.countB_le ⟨#[c]⟩ h1 _ ⟨s.toArray⟩ (Nat.le_refl _)
 have hd:(Lib.splitB ⟨#[c]⟩ 0 (Lib.countB ⟨s.toArray⟩ ⟨#[c]⟩) ⟨s.toArray⟩).map (·.data.toList)=parts c s:=by rw [hdat,<-kn,<-Lib.count_one]
 have hlf:(parts c s).length=Lib.countB ⟨s.toArray⟩ ⟨#[c]⟩ + 1:=by rw [<-hd,List.length_map,hlen]
 refine ⟨[_],parts c s,rfl,rfl,⟨_,rfl,VR.bh rfl ⟨_,rfl,?_, .inr ⟨w.heap.size,0,Lib.countB ⟨s.toArray⟩ ⟨#[c]⟩ + 1,by rw [hlf],by rw [hlf];exact Nat.le_refl _,fun i y hy => ?_⟩⟩⟩,(Vg.Below.refl _ w).alloc (Nat.le_refl _) _⟩
 ·rw [hlf];have hs:s.length < 4294967281:=hs;rw [hsz] at hcb;unfold aI;omega
 ·have hyl:=iJ c s y (List.mem_of_getElem? hy)
  refine ⟨[.string ⟨y.toArray⟩],⟨rfl,Nat.le_trans hyl hl⟩,fun j u hj=>⟨?_,fun hh => ?_⟩⟩
  ·have hj0:j=0:=by
    rcases j with _ | j
    ·rfl
    ·simp at hj
   subst hj0
   simp at hj
   subst hj
   rw [<-hd,List.getElem?_map,Option.map_eq_some_iff] at hy
   obtain ⟨q,hq,rfl⟩:=hy
   have hh:(w.alloc (.cells ((Lib.splitB ⟨#[c]⟩ 0 (Lib.countB ⟨s.toArray⟩ ⟨#[c]⟩) ⟨s.toArray⟩).map Value.string).toArray 9)).heap[w.heap.size]?=some (.cells ((Lib.splitB ⟨#[c]⟩ 0 (Lib.countB ⟨s.toArray⟩ ⟨#[c]⟩) ⟨s.toArray⟩).map Value.string).toArray 9 (0,0)):=heap_alloc_new w _
   rw [Lib.cell_of_heap hh]
   simp only [Ty.size,Nat.mul_one,Nat.zero_add,Nat.add_zero,List.getElem?_toArray,List.getElem?_map,hq,Option.map_some]
  ·have:=hO _ _ hh
   simp at this
end Go.Proofs.YtgokjhhcfemnhacDoor

namespace Go.Proofs.YtgokjhhcfemnhacDoor
open Go.Vg Go.Mrl
@[reducible] def Tryd.kv:List Ob:=[.box 4 [.d .bool]]
@[reducible] def Tryd.gP:List Ob:=[.box 27 [.obj 1, .obj 2, .obj 3, .obj 4], .tok .str, .tok (.int .i64), .tok aF, .tok aN, .box 4 [.d .bool]]
def Tryd.mU:List (Alt Tryd.kv [.d .str, .obj 0]):=[{bd:=Tryd.kv,res:=[.d (.int .i64)],out:=fun a x=>((x.1.1 || (cj a.1).isNone,()),()),ret:=fun a _=>((bP a.1).1,())}]
noncomputable def Tryd.s3:List (FuncId × (Bool × bB)):=[(20,(true,aZ [.int .i64] [.str] (fun _=>True) (fun n=>Lib.itoa n))),
 (45,(true,aZ [.str] [.int .i64, .err] (fun s=>s.length<=281474976710656) (fun s=>bP s))),
 (32,(true,aZ [.str, .str] [.str, .bool] (fun _=>True) (fun x=>(Lib.trimPrefix x.1 x.2,Lib.hasPrefix x.1 x.2)))),
 (17,(true,aZ [.str, .str] [.str] (fun _=>True) (fun x=>Lib.trimSuffix x.1 x.2))),
 (16,(true,aZ [.str, .str] [.slice .str] (fun x=>x.1.length < 4294967281/\x.2.length=1) (fun x=>parts (Cr x.2) x.1)))]
theorem Tryd.wJ:bW Tryd.prog Tryd.B Tryd.X Tryd.s3:=
 bj (aK Tryd.mT) (bj (aK Tryd.p5) (bj (aK Tryd.ku) (bj (aK Tryd.jC) (bj (aK Tryd.p6) (cU Tryd.cX)))))
theorem y5 (s:List UInt8) (b:Bool) (hw:kQ [.d .str, .obj 0] (s,())) (hp:(fun a _=>a.1.length<=1000000) (s,()) ((b,()),())):(fv Tryd.B Tryd.s3 Tryd.f33 [] Tryd.kv [.d .str, .obj 0] Tryd.mU (s,()) ((b,()),())).holds:=by
 refine holds_of (p:=
  let za:=((b || Option.isNone (cj s),()),())
  let zb:=((bP s).1,())
  let zc:=True/\((true,()),())=za/\zb=zb
  (List.length s<=(281474976710656:Nat))/\(((b)=true->(zc))/\((b)=false->(((!bp.isNil (bP s).2)=true->(zc))/\((!bp.isNil (bP s).2)=false->(True)/\(True/\((!Lib.itoa (bP s).1 == s,()),())=za/\zb=zb)))))) (by kernel_rfl) ?_
 dsimp -iota -proj -eta only
 dsimp only at hp
 exact ⟨(by omega),⟨fun h0=>(by simp_all),fun h0=>iB (fun h1=>(by exact ⟨trivial,by rw [sG,h1];simp,rfl⟩)) (fun h1=>⟨trivial,(by exact ⟨trivial,by rw [sG,h1];cases b <;> simp_all <;> (rw [Bool.eq_iff_iff];simp),rfl⟩)⟩)⟩⟩
theorem Tryd.y7:cz Tryd.prog Tryd.B.eT Tryd.X 33 false (bZ Tryd.kv [.d .str, .obj 0] (fun a _=>a.1.length<=1000000) Tryd.mU):=
 cO (X:=Tryd.X) Tryd.wJ Tryd.func33 (by kernel_rfl) (fun (a:CD [.d .str, .obj 0]) (x:PD Tryd.kv)=>[]) (fun (a:CD [.d .str, .obj 0]) (x:PD Tryd.kv) hw hp=>y5 a.1 x.1.1 hw hp)
def Tryd.p7:List (Alt Tryd.gP [.obj 0, .d .str, .obj 5]):=[{bd:=Tryd.gP,res:=[],out:=fun a x=>AJ (cq (BV x) x.2.2.2.2.2.1.1 a.1),ret:=fun _ _=>()}]
end Go.Proofs.YtgokjhhcfemnhacDoor

namespace Go.Proofs.YtgokjhhcfemnhacDoor
open Go.Vg Go.Mrl
noncomputable def Tryd.xB:List (FuncId × (Bool × bB)):=[(20,(true,aZ [.int .i64] [.str] (fun _=>True) (fun n=>Lib.itoa n))),
 (45,(true,aZ [.str] [.int .i64, .err] (fun s=>s.length<=281474976710656) (fun s=>bP s))),
 (32,(true,aZ [.str, .str] [.str, .bool] (fun _=>True) (fun x=>(Lib.trimPrefix x.1 x.2,Lib.hasPrefix x.1 x.2)))),
 (17,(true,aZ [.str, .str] [.str] (fun _=>True) (fun x=>Lib.trimSuffix x.1 x.2))),
 (16,(true,aZ [.str, .str] [.slice .str] (fun x=>x.1.length < 4294967281/\x.2.length=1) (fun x=>parts (Cr x.2) x.1))),
 (33,(false,bZ Tryd.kv [.d .str, .obj 0] (fun a _=>a.1.length<=1000000) Tryd.mU))]
theorem Tryd.AV:bW Tryd.prog Tryd.B Tryd.X Tryd.xB:=
 bj (aK Tryd.mT) (bj (aK Tryd.p5) (bj (aK Tryd.ku) (bj (aK Tryd.jC) (bj (aK Tryd.p6) (bj (Tryd.y7) (cU Tryd.cX))))))
def xC (s:List UInt8) (_:List (List UInt8)) (_:List Int) (_:List (D aF)) (_:List (D aN)) (_:Bool):cA:=[
 (300001,fun st=>{X:=List (List UInt8),inv:=fun w=>w=parts 32 (Lib.trimPrefix s bC),bF:=fun _=>0,bg:=fun w=>[(7,sD (.slice .str) w)],bf:=[0,2,6]}),
 (300003,fun st=>{X:=Bool,inv:=fun c=>c=true ↔ (nth .str (b7 (.slice .str) st 7) 0=dK/\List.length (b7 (.slice .str) st 7)=2),bF:=fun _=>0,bg:=fun c=>[(18,sB c)],bf:=[0,2,6,7]}),
 (300005,fun st=>{X:=Bool,inv:=fun c=>c=true ↔ (nth .str (b7 (.slice .str) st 7) 0=dx/\List.length (b7 (.slice .str) st 7)=2),bF:=fun _=>0,bg:=fun c=>[(40,sB c)],bf:=[0,2,6,7]}),
 (300007,fun st=>{X:=Bool,inv:=fun c=>c=true ↔ (nth .str (b7 (.slice .str) st 7) 0=cW/\List.length (b7 (.slice .str) st 7)=3),bF:=fun _=>0,bg:=fun c=>[(64,sB c)],bf:=[0,2,6,7]}),
 (300009,fun st=>{X:=Bool,inv:=fun c=>c=true ↔ (nth .str (b7 (.slice .str) st 7) 0=fg/\List.length (b7 (.slice .str) st 7)=3),bF:=fun _=>0,bg:=fun c=>[(93,sB c)],bf:=[0,2,6,7]}),
 (300011,fun st=>{X:=Bool,inv:=fun c=>c=true ↔ ((nth .str (b7 (.slice .str) st 7) 0=ew\/nth .str (b7 (.slice .str) st 7) 0=ep)/\List.length (b7 (.slice .str) st 7)=4),bF:=fun _=>0,bg:=fun c=>[(123,sB c)],bf:=[0,2,6,7]})]
theorem B6 (s:List UInt8) (n:List (List UInt8)) (w:List Int) (y:List (D aF)) (t:List (D aN)) (b:Bool) (hw:kQ [.obj 0, .d .str, .obj 5] (s,())) (hp:(fun a x=>a.1.length<=1000000/\x.2.1.length<=1000000/\x.2.2.1.length<=1000000/\x.2.2.2.1.length<=1000000/\x.2.2.2.2.1.length<=1000000) (s,()) ((),n,w,y,t,(b,()),())):(fv Tryd.B Tryd.xB Tryd.f18 (xC s n w y t b) Tryd.gP [.obj 0, .d .str, .obj 5] Tryd.p7 (s,()) ((),n,w,y,t,(b,()),())).holds:=by
 refine holds_of (p:=
  let za:=[(119:UInt8),101,97,107,32]
  let zb:=Lib.trimPrefix s za
  let zc:=parts (32:UInt8) (Lib.trimPrefix s bC)
  let zd:=n=n
  let ze:=w=w
  let zf:=y=y
  let zg:=t=t
  let zh:=(zd/\ze/\zf/\zg/\True)/\zd/\ze/\zf/\zg/\(b=b/\True)/\True
  let zi:=fun (x_0:List (List UInt8))=>(↑(List.length x_0):Int)
  let zj:=fun (x_0:List (List UInt8))=>(0:Int)<=(0:Int)/\(0:Int) < zi x_0
  let zk:=fun (x_0:List (List UInt8))=>nth Ty.str x_0 (0:Nat)
  let zl:=fun (x_0:List (List UInt8))=>List.length x_0<=aI
  let zm:=fun (x_0:List (List UInt8))=>zk x_0=dK/\List.length x_0=(2:Nat)
  let zn:=fun (x_0:List (List UInt8))=>(0:Int)<=(1:Int)/\(1:Int) < zi x_0
  let zo:=fun (x_0:List (List UInt8))=>nth Ty.str x_0 (1:Nat)
  let zp:=(w,y,t,(b,()),())
  let zq:=AJ (cq (BV ((),n,zp)) b s)
  let zr:=()=()
  let zs:=fun (x_0:List (List UInt8))=>zk x_0=dx/\List.length x_0=(2:Nat)
  let zt:=fun (x_0:List (List UInt8))=>List.length (zo x_0)<=(1000000:Nat)
  let zu:=fun (x_0:List (List UInt8))=>(bP (zo x_0)).1
  let zv:=fun (x_0:List (List UInt8))=>zk x_0=cW/\List.length x_0=(3:Nat)
  let zw:=fun (x_0:List (List UInt8))=>(0:Int)<=(2:Int)/\(2:Int) < zi x_0
  let zx:=fun (x_0:List (List UInt8))=>nth Ty.str x_0 (2:Nat)
  let zy:=fun (x_0:List (List UInt8))=>List.length (zx x_0)<=(1000000:Nat)
  let zz:=(Lib.hasPrefix s za,())
  let zaa:=fun (x_0:List (List UInt8))=>[(zo x_0,(bP (zx x_0)).1,zz)]
  let zab:=fun (x_0:List (List UInt8))=>zk x_0=fg/\List.length x_0=(3:Nat)
  let zac:=List.length t
  let zad:=fun (x_0:List (List UInt8))=>[(zu x_0,(1:Int),(bP (zx x_0)).1,@List.nil UInt8,false,())]
  let zae:=fun (x_0:List (List UInt8))=>((b || Option.isNone (cj (zo x_0)) || Option.isNone (cj (zx x_0)),()),())
  let zaf:=fun (x_0:List (List UInt8))=>(zy x_0)/\((True)->(zg/\zac + List.length (zad x_0)<=(1000000000:Nat))/\(zd/\ze/\zf/\t++zad x_0=t++zad x_0/\True/\((),n,w,y,t++zad x_0,zae x_0)=zq/\zr))
  let zag:=fun (x_0:List (List UInt8))=>(zk x_0=ew\/zk x_0=ep)/\List.length x_0=(4:Nat)
  let zah:=fun (x_0:List (List UInt8))=>((zl x_0)->(∃(x':Bool),(x'=true ↔ zag x_0)/\((zi x_0 == (4:Int))=x'/\True)/\zh))
  let zai:=fun (x_0:List (List UInt8))=>zk x_0 == [(110:UInt8),101,97,114]
  let zaj:=fun (x_0:List (List UInt8))=>(0:Int)<=(3:Int)/\(3:Int) < zi x_0
  let zak:=fun (x_0:List (List UInt8))=>((bP (zx x_0)).1,nth Ty.str x_0 (3:Nat),zz)
  let zal:=fun (x_0:List (List UInt8))=>t++[(zu x_0,(3:Int),zak x_0)]
  let zam:=fun (x_0:List (List UInt8))=>(zy x_0)/\((True)->(zg/\zac + List.length [(zu x_0,(3:Int),zak x_0)]<=(1000000000:Nat))/\(zd/\ze/\zf/\zal x_0=zal x_0/\True/\((),n,w,y,zal x_0,zae x_0)=zq/\zr))
  let zan:=fun (x_0:List (List UInt8))=>t++[(zu x_0,(2:Int),zak x_0)]
  let zao:=fun (x_0:List (List UInt8))=>(zy x_0)/\((True)->(zg/\zac + List.length [(zu x_0,(2:Int),zak x_0)]<=(1000000000:Nat))/\(zd/\ze/\zf/\zan x_0=zan x_0/\True/\((),n,w,y,zan x_0,zae x_0)=zq/\zr))
  (True)/\(((List.length zb < (4294967281:Nat)/\List.length [(32:UInt8)]=(1:Nat))/\(∃(x':List (List UInt8)),x'=zc/\(parts (32:UInt8) zb=x'/\True)/\zh))/\((∀x_0:List (List UInt8),((x_0=zc)->(((zj x_0)/\(((zk x_0 == [(110:UInt8),101,101,100])=true->((zl x_0)->(∃(x':Bool),(x'=true ↔ zm x_0)/\((zi x_0 == (2:Int))=x'/\True)/\zh)))/\((zk x_0 == [(110:UInt8),101,101,100])=false->(∃(x':Bool),(x'=true ↔ zm x_0)/\(false=x'/\True)/\zh))))/\((∀x_1:Bool,((x_1=true ↔ zm x_0)->(((x_1)=true->(zn x_0)/\(zd/\List.length n + List.length [zo x_0]<=(1000000000:Nat))/\(n++[zo x_0]=n++[zo x_0]/\ze/\zf/\zg/\True/\((),n++[zo x_0],zp)=zq/\zr))/\((x_1)=false->(((zj x_0)/\(((zk x_0 == [(119:UInt8),111,114,100])=true->((zl x_0)->(∃(x':Bool),(x'=true ↔ zs x_0)/\((zi x_0 == (2:Int))=x'/\True)/\zh)))/\((zk x_0 == [(119:UInt8),111,114,100])=false->(∃(x':Bool),(x'=true ↔ zs x_0)/\(false=x'/\True)/\zh))))/\((∀x_2:Bool,((x_2=true ↔ zs x_0)->(((x_2)=true->(zn x_0)/\((fun a0:Prop=>a0/\a0) ((zt x_0)/\((True)->(ze/\List.length w + List.length [zu x_0]<=(1000000000:Nat))/\(zd/\w++[zu x_0]=w++[zu x_0]/\zf/\zg/\True/\((),n,w++[zu x_0],y,t,(b || Option.isNone (cj (zo x_0)),()),())=zq/\zr)))))/\((x_2)=false->(((zj x_0)/\(((zk x_0 == [(115:UInt8),121,109,98,111,108])=true->((zl x_0)->(∃(x':Bool),(x'=true ↔ zv x_0)/\((zi x_0 == (3:Int))=x'/\True)/\zh)))/\((zk x_0 == [(115:UInt8),121,109,98,111,108])=false->(∃(x':Bool),(x'=true ↔ zv x_0)/\(false=x'/\True)/\zh))))/\((∀x_3:Bool,((x_3=true ↔ zv x_0)->(((x_3)=true->(zn x_0)/\(zw x_0)/\((fun a0:Prop=>a0/\a0) ((zy x_0)/\((True)->(zf/\List.length y + List.length (zaa x_0)<=(1000000000:Nat))/\(zd/\ze/\y++zaa x_0=y++zaa x_0/\zg/\True/\((),n,w,y++zaa x_0,t,(b || Option.isNone (cj (zx x_0)),()),())=zq/\zr)))))/\((x_3)=false->(((zj x_0)/\(((zk x_0 == [(98:UInt8),97,115,101])=true->((zl x_0)->(∃(x':Bool),(x'=true ↔ zab x_0)/\((zi x_0 == (3:Int))=x'/\True)/\zh)))/\((zk x_0 == [(98:UInt8),97,115,101])=false->(∃(x':Bool),(x'=true ↔ zab x_0)/\(false=x'/\True)/\zh))))/\((∀x_4:Bool,((x_4=true ↔ zab x_0)->(((x_4)=true->(zn x_0)/\(zw x_0)/\(((zt x_0)/\((True)->(zaf x_0)))/\((zt x_0)/\((True)->((fun a0:Prop=>a0/\a0) ((zaf x_0)))))))/\((x_4)=false->(((zj x_0)/\(((zk x_0 == [(119:UInt8),104,111,108,101])=true->(zah x_0))/\((zk x_0 == [(119:UInt8),104,111,108,101])=false->(zj x_0)/\(((zai x_0)=true->(zah x_0))/\((zai x_0)=false->(∃(x':Bool),(x'=true ↔ zag x_0)/\(false=x'/\True)/\zh))))))/\((∀x_5:Bool,((x_5=true ↔ zag x_0)->(((x_5)=true->(zj x_0)/\(((zai x_0)=true->(zn x_0)/\(zw x_0)/\(zaj x_0)/\(((zt x_0)/\((True)->(zam x_0)))/\((zt x_0)/\((True)->((fun a0:Prop=>a0/\a0) ((zam x_0)))))))/\((zai x_0)=false->(zn x_0)/\(zw x_0)/\(zaj x_0)/\(((zt x_0)/\((True)->(zao x_0)))/\((zt x_0)/\((True)->((fun a0:Prop=>a0/\a0) ((zao x_0)))))))))/\((x_5)=false->(zd/\ze/\zf/\zg/\True/\((),n,w,y,t,(true,()),())=zq/\zr)))))))))))))))))))))))))))))))))))) (by kernel_rfl) ?_
 dsimp -iota -proj -eta only
 dsimp only at hp
 refine ⟨trivial,⟨⟨(by have:=vq s [119,101,97,107,32];exact ⟨by omega,rfl⟩),(⟨_,rfl,⟨rfl,trivial⟩,(by trivial)⟩)⟩,fun x_0 q_0=>⟨⟨?a,iQ (fun h0 h1 => ?b) (fun h0 => ?c)⟩,fun x_1 q_1=>⟨fun h0=>⟨?d,?e,?f⟩,fun h0=>⟨⟨?g,iQ (fun h1 h2 => ?h) (fun h1 => ?i)⟩,fun x_2 q_2=>⟨fun h1=>⟨?j,(show ∀{a0:Prop},a0->a0/\a0 from fun g0=>⟨g0,g0⟩) (⟨?k,fun h2=>⟨?l,?m⟩⟩)⟩,fun h1=>⟨⟨?n,iQ (fun h2 h3 => ?o) (fun h2 => ?p)⟩,fun x_3 q_3=>⟨fun h2=>⟨?q,?r,(show ∀{a0:Prop},a0->a0/\a0 from fun g0=>⟨g0,g0⟩) (⟨?s,fun h3=>⟨?t,?u⟩⟩)⟩,fun h2=>⟨⟨?v,iQ (fun h3 h4 => ?w) (fun h3 => ?x)⟩,fun x_4 q_4=>⟨fun h3=>⟨?y,?z,⟨⟨?a0,fun h4=>⟨?a1,fun h5=>⟨?a2,?a3⟩⟩⟩,⟨?a4,fun h4=>(show ∀{a0:Prop},a0->a0/\a0 from fun g0=>⟨g0,g0⟩) (⟨?a5,fun h5=>⟨?a6,?a7⟩⟩)⟩⟩⟩,fun h3=>⟨⟨?a8,iQ (fun h4 h5 => ?a9) (fun h4=>⟨?aa,iQ (fun h5 h6 => ?ab) (fun h5 => ?ac)⟩)⟩,fun x_5 q_5=>⟨fun h4=>⟨?ad,iQ (fun h5=>⟨?ae,?af,?ag,⟨⟨?ah,fun h6=>⟨?ai,fun h7=>⟨?aj,?ak⟩⟩⟩,⟨?al,fun h6=>(show ∀{a0:Prop},a0->a0/\a0 from fun g0=>⟨g0,g0⟩) (⟨?am,fun h7=>⟨?an,?ao⟩⟩)⟩⟩⟩) (fun h5=>⟨?ap,?aq,?ar,⟨⟨?au,fun h6=>⟨?av,fun h7=>⟨?aw,?ax⟩⟩⟩,⟨?ay,fun h6=>(show ∀{a0:Prop},a0->a0/\a0 from fun g0=>⟨g0,g0⟩) (⟨?az,fun h7=>⟨?b0,?b1⟩⟩)⟩⟩⟩)⟩,fun h4 => ?b2⟩⟩⟩⟩⟩⟩⟩⟩⟩⟩⟩⟩
 case a|g|n|v|a8|aa|ad=>have:=BW q_0;omega
 case b|c|h|i|o|p|w|x|a9|ab|ac=>exact ⟨_,by (simp_all <;> omega),⟨rfl,trivial⟩,(by trivial)⟩
 case d|j|q|r|y|z|ae|af|ag|ap|aq|ar=>simp_all
 case e|l|t|a2|a6|aj|an|aw|b0=>exact ⟨rfl,by simp only [List.length_singleton];omega⟩
 case f|m|u|a3|a7|ak|ao|ax|b1|b2=>
  refine ⟨rfl,rfl,rfl,rfl,trivial,?_,rfl⟩
  first
  | (rw [yI q_0 (q_1.1 (by assumption))];rfl)
  | (rw [yJ q_0 (eQ q_1 (by assumption)) (q_2.1 (by assumption))];rfl)
  | (rw [AK q_0 (eQ q_1 (by assumption)) (eQ q_2 (by assumption)) (q_3.1 (by assumption))];rfl)
  | (rw [yK q_0 (eQ q_1 (by assumption)) (eQ q_2 (by assumption)) (eQ q_3 (by assumption)) (q_4.1 (by assumption))];rfl)
  | (rw [sR q_0 (eQ q_1 (by assumption)) (eQ q_2 (by assumption)) (eQ q_3 (by assumption)) (eQ q_4 (by assumption)) (q_5.1 (by assumption)) (k:=3) (if_pos (by assumption)).symm];rfl)
  | (rw [sR q_0 (eQ q_1 (by assumption)) (eQ q_2 (by assumption)) (eQ q_3 (by assumption)) (eQ q_4 (by assumption)) (q_5.1 (by assumption)) (k:=2) (if_neg (by assumption)).symm];rfl)
  | (rw [yL q_0 (eQ q_1 (by assumption)) (eQ q_2 (by assumption)) (eQ q_3 (by assumption)) (eQ q_4 (by assumption)) (eQ q_5 (by assumption))];rfl)
 case k|a0|a4|ah|al|au|ay=>have:=xv q_0 1;omega
 case s|a1|a5|ai|am|av|az=>have:=xv q_0 2;omega
theorem Tryd.B7:cz Tryd.prog Tryd.B.eT Tryd.X 18 false (bZ Tryd.gP [.obj 0, .d .str, .obj 5] (fun a x=>a.1.length<=1000000/\x.2.1.length<=1000000/\x.2.2.1.length<=1000000/\x.2.2.2.1.length<=1000000/\x.2.2.2.2.1.length<=1000000) Tryd.p7):=
 cO (X:=Tryd.X) Tryd.AV Tryd.func18 (by kernel_rfl) (fun (a:CD [.obj 0, .d .str, .obj 5]) (x:PD Tryd.gP)=>xC a.1 x.2.1 x.2.2.1 x.2.2.2.1 x.2.2.2.2.1 x.2.2.2.2.2.1.1) (fun (a:CD [.obj 0, .d .str, .obj 5]) (x:PD Tryd.gP) hw hp=>B6 a.1 x.2.1 x.2.2.1 x.2.2.2.1 x.2.2.2.2.1 x.2.2.2.2.2.1.1 hw hp)
end Go.Proofs.YtgokjhhcfemnhacDoor

namespace Go.Proofs.YtgokjhhcfemnhacDoor
open Go.Vg Go.Mrl
theorem B8 (n:Int) (hw:gL [.int .i64] n):(dW Tryd.B [] Tryd.f34 [] [.int .i64] [.bool] (fun x y=>y=(fun n=>dk n) x) n).holds:=by
 refine holds_of (p:=
  (((decide (n>=(-2147483648:Int)))=true->(decide (n<=(2147483647:Int))=dk n))/\((decide (n>=(-2147483648:Int)))=false->(false=dk n)))) (by kernel_rfl) ?_
 refine iE (fun h0 => ?a) (fun h0 => ?b)
 case a|b=>unfold dk;rw [Bool.eq_iff_iff];simp;omega
theorem Tryd.vI:bU Tryd.prog Tryd.B.eT Tryd.X 34 [.int .i64] [.bool] (fun _=>True) (fun x y=>y=(fun n=>dk n) x):=
 cM (X:=Tryd.X) (cU Tryd.cX) Tryd.func34 (by kernel_rfl) (fun _=>[]) (fun x hw hp=>B8 x hw)
def s4 (l:List (List UInt8)) (s:List UInt8):cA:=[(0,fun st=>{X:=Nat,inv:=fun i=>i<=l.length/\∀j,j < i->nth .str l j≠s,bF:=fun i=>l.length - i,bg:=fun i=>[(8,sI i)],bf:=[0,1,7]})]
theorem AW (l:List (List UInt8)) (s:List UInt8) (hw:gL [.slice .str, .str] (l,s)):(dW Tryd.B [] Tryd.f39 (s4 l s) [.slice .str, .str] [.int .i64] (fun x y=>(y = -1/\∀j,j < x.1.length->nth .str x.1 j≠x.2)\/(0<=y/\y.toNat < x.1.length/\nth .str x.1 y.toNat=x.2)) (l,s)).holds:=by
 refine holds_of (p:=
  let za:=List.length l
  let zb:=(-1:Int)
  let zc:=∀(j:Nat),j < za->nth Ty.str l j≠s
  ((za<=aI)->(∃(x:Nat),(x<=za/\∀(j:Nat),j < x->nth Ty.str l j≠s)/\((0:Int)=(↑x:Int)/\True)/\True)/\(∀x_0:Nat,((x_0<=za/\∀(j:Nat),j < x_0->nth Ty.str l j≠s)->(((decide ((↑x_0:Int) < (↑za:Int)))=true->((0:Int)<=(↑x_0:Int)/\(↑x_0:Int) < (↑za:Int))/\(((s == nth Ty.str l x_0)=true->((↑x_0:Int)=zb/\zc\/(0:Int)<=(↑x_0:Int)/\x_0 < za/\nth Ty.str l x_0=s))/\((s == nth Ty.str l x_0)=false->((aY (↑x_0:Int))->((aY (1:Int))->(aY ((↑x_0:Int) + (1:Int)))/\(∃(x':Nat),(x'<=za/\∀(j:Nat),j < x'->nth Ty.str l j≠s)/\za - x' < za - x_0/\((↑x_0:Int) + (1:Int)=(↑x':Int)/\True)/\True))))))/\((decide ((↑x_0:Int) < (↑za:Int)))=false->(zb=zb/\zc\/(0:Int)<=zb/\Int.toNat zb < za/\nth Ty.str l (Int.toNat zb)=s))))))) (by kernel_rfl) ?_
 dsimp -iota -proj -eta only
 exact fun h0=>⟨(⟨0,⟨by omega,fun j hj=>by omega⟩,⟨rfl,trivial⟩,trivial⟩),fun x_0 q_0=>iL (fun h1=>⟨(by omega),iQ (fun h2=>(by simp_all)) (fun h2 h3 h4=>⟨(by simp only [aY,aI] at *;omega),(⟨x_0 + 1,⟨by omega,oJ q_0.2 fun e=>(by assumption:¬ _) e.symm⟩,by omega,⟨by omega,trivial⟩,(by trivial)⟩)⟩)⟩) (fun h1=>(.inl ⟨rfl,fun j hj=>q_0.2 j (by omega)⟩))⟩
theorem Tryd.AX:bU Tryd.prog Tryd.B.eT Tryd.X 39 [.slice .str, .str] [.int .i64] (fun _=>True) (fun x y=>(y = -1/\∀j,j < x.1.length->nth .str x.1 j≠x.2)\/(0<=y/\y.toNat < x.1.length/\nth .str x.1 y.toNat=x.2)):=
 cM (X:=Tryd.X) (cU Tryd.cX) Tryd.func39 (by kernel_rfl) (fun x=>s4 x.1 x.2) (fun x hw hp=>AW x.1 x.2 hw)
noncomputable def Tryd.s5:List (FuncId × (Bool × bB)):=[(39,(true,gD [.slice .str, .str] [.int .i64] (fun _=>True) (fun x y=>(y = -1/\∀j,j < x.1.length->nth .str x.1 j≠x.2)\/(0<=y/\y.toNat < x.1.length/\nth .str x.1 y.toNat=x.2))))]
theorem Tryd.wK:bW Tryd.prog Tryd.B Tryd.X Tryd.s5:=
 bj (dA Tryd.AX) (cU Tryd.cX)
theorem vJ (l:List (List UInt8)) (s:List UInt8) (hw:gL [.slice .str, .str] (l,s)):(dW Tryd.B Tryd.s5 Tryd.f27 [] [.slice .str, .str] [.bool] (fun x y=>y=(fun x=>x.1.any (· == x.2)) x) (l,s)).holds:=by
 refine holds_of (p:=
  (True)/\(∀x_0:Int,(((x_0=(-1:Int)/\∀(j:Nat),j < List.length l->nth Ty.str l j≠s)\/(0:Int)<=x_0/\Int.toNat x_0 < List.length l/\nth Ty.str l (Int.toNat x_0)=s)->(decide (x_0>=(0:Int))=List.any l fun (x:List UInt8)=>x == s)))) (by kernel_rfl) ?_
 exact ⟨trivial,fun x_0 q_0=>(contains_of q_0)⟩
theorem Tryd.ot:bU Tryd.prog Tryd.B.eT Tryd.X 27 [.slice .str, .str] [.bool] (fun _=>True) (fun x y=>y=(fun x=>x.1.any (· == x.2)) x):=
 cM (X:=Tryd.X) Tryd.wK Tryd.func27 (by kernel_rfl) (fun _=>[]) (fun x hw hp=>vJ x.1 x.2 hw)
noncomputable def Tryd.s6:List (FuncId × (Bool × bB)):=[(47,(false,hP Tryd.B [] Tryd.f47 []))]
theorem Tryd.wL:bW Tryd.prog Tryd.B Tryd.X Tryd.s6:=
 bj (jy (cU Tryd.cX) Tryd.func47 (by kernel_rfl) []) (cU Tryd.cX)
def s7:cA:=[(0,fun st=>{X:=Nat,inv:=fun i=>i<=(b7 (.slice aF) st 0).length/\∀j,j < i->(nth aF (b7 (.slice aF) st 0) j).1≠(yj aF st (DT st 1 0)).1,bF:=fun i=>(b7 (.slice aF) st 0).length - i,bg:=fun i=>[(8,sI i)],bf:=[0,1,7]})]
noncomputable def Tryd.xD:List (FuncId × (Bool × bB)):=[(57,(false,hP Tryd.B Tryd.s6 Tryd.f57 s7))]
theorem Tryd.AY:bW Tryd.prog Tryd.B Tryd.X Tryd.xD:=
 bj (jy Tryd.wL Tryd.func57 (by kernel_rfl) s7) (cU Tryd.cX)
noncomputable def Tryd.xE:List (FuncId × (Bool × bB)):=[(26,(true,aZ [.str] [.err] (fun _=>True) (fun s=>aW (aJ s)))),
 (46,(false,hP Tryd.B Tryd.xD Tryd.f46 []))]
theorem Tryd.AZ:bW Tryd.prog Tryd.B Tryd.X Tryd.xE:=
 bj (aK Tryd.gG) (bj (jy Tryd.AY Tryd.func46 (by kernel_rfl) []) (cU Tryd.cX))
def rf (o:D aB):cA:=[(0,fun st=>{X:=Nat,inv:=fun i=>dZ o.2.1.length o.2.2.1 i,bF:=fun i=>o.2.2.1.length - i,bg:=fun i=>[(9,sI i)],bf:=[1,7,8]})]
theorem wM (o:D aB) (hw:gL [aB] o):(dW Tryd.B Tryd.xE Tryd.f35 (rf o) [aB] [.err] (fun x y=>y=(fun o=>aW (cF o.2.1.length [] o.2.2.1)) x) o).holds:=by
 refine holds_of (p:=
  let za:=o.2.2.1
  let zb:=List.length za
  let zc:=List.length o.2.1
  let zd:=fun (x_0:Nat)=>(↑x_0:Int)
  let ze:=fun (x_0:Nat)=>(0:Int)<=zd x_0
  let zf:=fun (x_0:Nat)=>(nth aF za x_0).1
  let zg:=aW (cF zc (@List.nil (List UInt8 × Int × Bool × Unit)) za)
  let zh:=fun (x_0:Nat)=>(nth aF za x_0).2.1
  let zi:=bp.no (1:Int)=zg
  let zj:=fun (x_0:Nat)=>List.drop (0:Nat) (List.take x_0 za)
  let zk:=fun (x_0:Nat)=>List.length (zj x_0)
  let zl:=bp.no (3:Int)=zg
  let zm:=(o.1=o.1/\o.2.1=o.2.1/\za=za/\o.2.2.2.1=o.2.2.2.1/\True)/\True
  let zn:=fun (x_0:Nat)=>((aY (zd x_0))->((aY (1:Int))->(aY (zd x_0 + (1:Int)))/\(∃(x':Nat),dZ zc za x'/\zb - x' < zb - x_0/\(zd x_0 + (1:Int)=(↑x':Int)/\True)/\zm)))
  ((zb<=aI)->(∃(x:Nat),dZ zc za x/\((0:Int)=(↑x:Int)/\True)/\True)/\(∀x_0:Nat,((dZ zc za x_0)->(((decide (zd x_0 < (↑zb:Int)))=true->(ze x_0/\zd x_0 < (↑zb:Int))/\(True)/\(((!bp.isNil (aW (aJ (zf x_0))))=true->(aW (aJ (zf x_0))=zg))/\((!bp.isNil (aW (aJ (zf x_0))))=false->(((decide (zh x_0 < (0:Int)))=true->(zi))/\((decide (zh x_0 < (0:Int)))=false->((zc<=aI)->(((decide (zh x_0>=(↑zc:Int)))=true->(zi))/\((decide (zh x_0>=(↑zc:Int)))=false->((0:Int)<=(0:Int)/\ze x_0/\zd x_0<=(↑zb:Int))/\((zk x_0<=aI)->(∃(x:Nat),(x<=zk x_0/\∀(j:Nat),j < x->(nth aF (zj x_0) j).1≠zf x_0)/\((0:Int)=(↑x:Int)/\True)/\True)/\(∀x_1:Nat,((x_1<=zk x_0/\∀(j:Nat),j < x_1->(nth aF (zj x_0) j).1≠zf x_0)->(((decide (zd x_1 < (↑(zk x_0):Int)))=true->(ze x_1/\zd x_1 < (↑(zk x_0):Int))/\((((nth aF (zj x_0) x_1).1 == zf x_0)=true->(((decide (zd x_1>=(0:Int)))=true->(zl))/\((decide (zd x_1>=(0:Int)))=false->(zn x_0))))/\(((nth aF (zj x_0) x_1).1 == zf x_0)=false->((aY (zd x_1))->((aY (1:Int))->(aY (zd x_1 + (1:Int)))/\(∃(x':Nat),(x'<=zk x_0/\∀(j:Nat),j < x'->(nth aF (zj x_0) j).1≠zf x_0)/\zk x_0 - x' < zk x_0 - x_1/\(zd x_1 + (1:Int)=(↑x':Int)/\True)/\(zf x_0=zf x_0/\zh x_0=zh x_0/\(nth aF za x_0).2.2.1=(nth aF za x_0).2.2.1/\True)/\zm))))))/\((decide (zd x_1 < (↑(zk x_0):Int)))=false->(((decide ((-1:Int)>=(0:Int)))=true->(zl))/\((decide ((-1:Int)>=(0:Int)))=false->(zn x_0))))))))))))))))/\((decide (zd x_0 < (↑zb:Int)))=false->(bp.nil=zg))))))) (by kernel_rfl) ?_
 dsimp -iota -proj -eta only
 refine fun h0=>⟨(⟨0, .zero _ _,⟨rfl,trivial⟩,trivial⟩),fun x_0 q_0=>iL (fun h1=>⟨?a,trivial,iB (fun h2=>(by rw [q_0.fault (by omega) (jq (cV _) h2)])) (fun h2=>iL (fun h3=>(by rw [q_0.out (by omega) (iK h2) (.inl (by omega))];rfl)) (fun h3 h4=>iE (fun h5=>(by rw [q_0.out (by omega) (iK h2) (.inr (by omega))];rfl)) (fun h5=>⟨?b,fun h6=>⟨(⟨0,⟨by omega,fun j hj=>by omega⟩,⟨rfl,trivial⟩,trivial⟩),fun x_1 q_1=>iL (fun h7=>⟨?c,iQ (fun h8=>⟨fun h9=>(by rw [sK q_0.le] at h7;rw [sJ (i:=x_0) (j:=x_1) (by omega)] at h8;rw [q_0.dup (by omega) (iK h2) (fun h=>h.elim (fun h=>absurd h (Int.not_lt.2 h3)) (fun h=>absurd h (Int.not_le.2 h5))) (vb (t:=aF) (j:=x_1) (by omega) q_0.le (by simpa using h8))];rfl),fun h9=>absurd (show true=false from h9) (by decide)⟩) (fun h8 h9 h10=>⟨?d,(⟨x_1 + 1,⟨by omega,oJ q_1.2 (by assumption)⟩,by omega,⟨by omega,trivial⟩,(by trivial)⟩)⟩)⟩) (fun h7=>⟨fun h8=>absurd (show false=true from h8) (by decide),fun h8 h9 h10=>⟨?e,(by have hx:=sK q_0.le;exact ⟨x_0 + 1,q_0.next (by omega) (iK h2) (fun h=>h.elim (fun h=>absurd h (Int.not_lt.2 h3)) (fun h=>absurd h (Int.not_le.2 h5))) (sA (t:=aF) fun j hj=>by have:=q_1.2 j (by omega);rw [sJ hj] at this;simpa using this),by omega,⟨by omega,trivial⟩,(by trivial)⟩)⟩⟩)⟩⟩)))⟩) (fun h1=>(by rw [q_0.done (by omega)];rfl))⟩
 case a|b|c=>omega
 case d|e=>simp only [aY,aI] at *;omega
theorem Tryd.wN:bU Tryd.prog Tryd.B.eT Tryd.X 35 [aB] [.err] (fun _=>True) (fun x y=>y=(fun o=>aW (cF o.2.1.length [] o.2.2.1)) x):=
 cM (X:=Tryd.X) Tryd.AZ Tryd.func35 (by kernel_rfl) (fun x=>rf x) (fun x hw hp=>wM x hw)
noncomputable def Tryd.xF:List (FuncId × (Bool × bB)):=[(26,(true,aZ [.str] [.err] (fun _=>True) (fun s=>aW (aJ s)))),
 (34,(true,aZ [.int .i64] [.bool] (fun _=>True) (fun n=>dk n)))]
theorem Tryd.A0:bW Tryd.prog Tryd.B Tryd.X Tryd.xF:=
 bj (aK Tryd.gG) (bj (aK Tryd.vI) (cU Tryd.cX))
def xG (o:D aB):cA:=[(0,fun st=>{X:=Nat,inv:=fun i=>fI o.2.1.length o.2.2.2.1 i,bF:=fun i=>o.2.2.2.1.length - i,bg:=fun i=>[(9,sI i)],bf:=[1,7,8]})]
theorem B9 (o:D aB) (hw:gL [aB] o):(dW Tryd.B Tryd.xF Tryd.f36 (xG o) [aB] [.err] (fun x y=>y=(fun o=>aW (eo o.2.1.length none o.2.2.2.1)) x) o).holds:=by
 refine holds_of (p:=
  let za:=o.2.2.2.1
  let zb:=List.length za
  let zc:=List.length o.2.1
  let zd:=fun (x_0:Nat)=>(↑x_0:Int)
  let ze:=fun (x_0:Nat)=>(nth aN za x_0).1
  let zf:=aW (eo zc none za)
  let zg:=bp.no (1:Int)=zf
  let zh:=fun (x_0:Nat)=>(nth aN za x_0).2.1
  let zi:=bp.no (3:Int)=zf
  let zj:=fun (x_0:Nat)=>zd x_0 - (1:Int)
  let zk:=fun (x_0:Nat)=>((aY (zd x_0))->((aY (1:Int))->(aY (zd x_0 + (1:Int)))/\(∃(x':Nat),fI zc za x'/\zb - x' < zb - x_0/\(zd x_0 + (1:Int)=(↑x':Int)/\True)/\(o.1=o.1/\o.2.1=o.2.1/\o.2.2.1=o.2.2.1/\za=za/\True)/\True)))
  let zl:=fun (x_0:Nat)=>aW (aJ (nth aN za x_0).2.2.2.1)
  let zm:=fun (x_0:Nat)=>(((zh x_0 == (1:Int))=true->(((!(nth aN za x_0).2.2.2.1 == @List.nil UInt8)=true->(zi))/\((!(nth aN za x_0).2.2.2.1 == @List.nil UInt8)=false->((((nth aN za x_0).2.2.2.2.1)=true->(zi))/\(((nth aN za x_0).2.2.2.2.1)=false->(zk x_0))))))/\((zh x_0 == (1:Int))=false->(True)/\(((!bp.isNil (zl x_0))=true->(zl x_0=zf))/\((!bp.isNil (zl x_0))=false->(zk x_0)))))
  ((zb<=aI)->(∃(x:Nat),fI zc za x/\((0:Int)=(↑x:Int)/\True)/\True)/\(∀x_0:Nat,((fI zc za x_0)->(((decide (zd x_0 < (↑zb:Int)))=true->((0:Int)<=zd x_0/\zd x_0 < (↑zb:Int))/\(((decide (ze x_0 < (0:Int)))=true->(zg))/\((decide (ze x_0 < (0:Int)))=false->((zc<=aI)->(((decide (ze x_0>=(↑zc:Int)))=true->(zg))/\((decide (ze x_0>=(↑zc:Int)))=false->(True)/\(((!dk (nth aN za x_0).2.2.1)=true->(zg))/\((!dk (nth aN za x_0).2.2.1)=false->(((decide (zh x_0 < (1:Int)))=true->(zi))/\((decide (zh x_0 < (1:Int)))=false->(((decide (zh x_0 > (3:Int)))=true->(zi))/\((decide (zh x_0 > (3:Int)))=false->(((decide (zd x_0 > (0:Int)))=true->((aY (zd x_0))->((aY (1:Int))->(aY (zj x_0))/\((0:Int)<=zj x_0/\zj x_0 < (↑zb:Int))/\(((decide ((nth aN za (Int.toNat (zj x_0))).1>=ze x_0))=true->(zi))/\((decide ((nth aN za (Int.toNat (zj x_0))).1>=ze x_0))=false->(zm x_0))))))/\((decide (zd x_0 > (0:Int)))=false->(zm x_0)))))))))))))))/\((decide (zd x_0 < (↑zb:Int)))=false->(bp.nil=zf))))))) (by kernel_rfl) ?_
 dsimp -iota -proj -eta only
 refine fun h0=>⟨(⟨0, .zero _ _,⟨rfl,trivial⟩,trivial⟩),fun x_0 q_0=>iL (fun h1=>⟨?a,iL (fun h2 => ?b) (fun h2 h3=>iE (fun h4 => ?c) (fun h4=>⟨trivial,iB (fun h5 => ?d) (fun h5=>iL (fun h6 => ?e) (fun h6=>iL (fun h7 => ?f) (fun h7=>iL (fun h8 h9 h10=>⟨?g,?h,iE (fun h11 => ?i) (fun h11=>iQ (fun h12=>⟨fun h13 => ?j,fun h13=>⟨fun h14 => ?k,fun h14 h15 h16=>⟨?l,?m⟩⟩⟩) (fun h12=>⟨trivial,iB (fun h13=>(by rw [q_0.fault (by omega) (f:=aJ (nth aN o.2.2.2.1 x_0).2.2.2.1) (by unfold fw gp ga;grind) (by have:=jq (cV _) h13;omega)])) (fun h13 h14 h15=>⟨?n,(by have:=aR.1 h13;exact ⟨x_0 + 1,q_0.next (by omega) (by unfold fw gp ga;grind),by omega,⟨by omega,trivial⟩,(by trivial)⟩)⟩)⟩))⟩) (fun h8=>iQ (fun h9=>⟨fun h10 => ?o,fun h10=>⟨fun h11 => ?p,fun h11 h12 h13=>⟨?q,?r⟩⟩⟩) (fun h9=>⟨trivial,iB (fun h10=>(by rw [q_0.fault (by omega) (f:=aJ (nth aN o.2.2.2.1 x_0).2.2.2.1) (by unfold fw gp ga;grind) (by have:=jq (cV _) h10;omega)])) (fun h10 h11 h12=>⟨?s,(by have:=aR.1 h10;exact ⟨x_0 + 1,q_0.next (by omega) (by unfold fw gp ga;grind),by omega,⟨by omega,trivial⟩,(by trivial)⟩)⟩)⟩)))))⟩))⟩) (fun h1=>(by rw [q_0.done (by omega)];rfl))⟩
 case a|h=>omega
 case b|c|d=>rw [q_0.fault (by omega) (f:=1) (by unfold fw;grind) (by decide)];rfl
 case e|f|i=>rw [q_0.fault (by omega) (f:=3) (by unfold fw gp ga;grind) (by decide)];rfl
 case g|n|s=>simp only [aY,aI] at *;omega
 case j|k=>
  simp only [bl,reduceCtorEq] at h13
  rw [q_0.fault (by omega) (f:=3) (by unfold fw gp ga;grind) (by decide)];rfl
 case l=>
  simp only [bl,reduceCtorEq] at h13
  simp only [aY,aI] at *;omega
 case m=>
  simp only [bl,reduceCtorEq] at h13
  exact ⟨x_0 + 1,q_0.next (by omega) (by unfold fw gp ga;grind),by omega,⟨by omega,trivial⟩,(by trivial)⟩
 case o|p=>
  simp only [bl,reduceCtorEq] at h10
  rw [q_0.fault (by omega) (f:=3) (by unfold fw gp ga;grind) (by decide)];rfl
 case q=>
  simp only [bl,reduceCtorEq] at h10
  simp only [aY,aI] at *;omega
 case r=>
  simp only [bl,reduceCtorEq] at h10
  exact ⟨x_0 + 1,q_0.next (by omega) (by unfold fw gp ga;grind),by omega,⟨by omega,trivial⟩,(by trivial)⟩
theorem Tryd.Ca:bU Tryd.prog Tryd.B.eT Tryd.X 36 [aB] [.err] (fun _=>True) (fun x y=>y=(fun o=>aW (eo o.2.1.length none o.2.2.2.1)) x):=
 cM (X:=Tryd.X) Tryd.A0 Tryd.func36 (by kernel_rfl) (fun x=>xG x) (fun x hw hp=>B9 x hw)
noncomputable def Tryd.s9:List (FuncId × (Bool × bB)):=[(26,(true,aZ [.str] [.err] (fun _=>True) (fun s=>aW (aJ s)))),
 (27,(true,aZ [.slice .str, .str] [.bool] (fun _=>True) (fun x=>x.1.any (· == x.2)))),
 (34,(true,aZ [.int .i64] [.bool] (fun _=>True) (fun n=>dk n))),
 (35,(true,aZ [aB] [.err] (fun _=>True) (fun o=>aW (cF o.2.1.length [] o.2.2.1)))),
 (36,(true,aZ [aB] [.err] (fun _=>True) (fun o=>aW (eo o.2.1.length none o.2.2.2.1))))]
theorem Tryd.wO:bW Tryd.prog Tryd.B Tryd.X Tryd.s9:=
 bj (aK Tryd.gG) (bj (aK Tryd.ot) (bj (aK Tryd.vI) (bj (aK Tryd.wN) (bj (aK Tryd.Ca) (cU Tryd.cX)))))
def ta (o:D aB):cA:=[
 (0,fun st=>{X:=Nat,inv:=fun i=>dG o.1 i,bF:=fun i=>o.1.length - i,bg:=fun i=>[(41,sI i)],bf:=[1,39,40]}),
 (2,fun st=>{X:=Nat,inv:=fun i=>eu o.2.1 i,bF:=fun i=>o.2.1.length - i,bg:=fun i=>[(62,sI i)],bf:=[1,60,61]})]
theorem A4 (o:D aB) (hw:gL [aB] o):(dW Tryd.B Tryd.s9 Tryd.f19 (ta o) [aB] [.err] (fun x y=>y=(fun o=>aW (bt o)) x) o).holds:=by
 refine holds_of (p:=
  let za:=List.length o.1
  let zb:=(↑za:Int)
  let zc:=aW (bt o)
  let zd:=bp.no (2:Int)=zc
  let ze:=o.2.1
  let zf:=List.length ze
  let zg:=zf<=aI
  let zh:=(↑zf:Int)
  let zi:=o.2.2.1
  let zj:=o.2.2.2.1
  let zk:=fun (x_0:Nat)=>(↑x_0:Int)
  let zl:=fun (x_0:Nat)=>(0:Int)<=zk x_0
  let zm:=fun (x_0:Nat)=>aW (aJ (nth Ty.str o.1 x_0))
  let zn:=(o.1=o.1/\ze=ze/\zi=zi/\zj=zj/\True)/\True
  let zo:=aW (cF zf (@List.nil (List UInt8 × Int × Bool × Unit)) zi)
  ((za<=aI)->(((decide (zb > (4:Int)))=true->(zd))/\((decide (zb > (4:Int)))=false->((zg)->(((decide (zh < (1:Int)))=true->(zd))/\((decide (zh < (1:Int)))=false->((zg)->(((decide (zh > (40:Int)))=true->(zd))/\((decide (zh > (40:Int)))=false->((List.length zi<=aI)->(((decide ((↑(List.length zi):Int) > (8:Int)))=true->(zd))/\((decide ((↑(List.length zi):Int) > (8:Int)))=false->((List.length zj<=aI)->(((decide ((↑(List.length zj):Int) > (6:Int)))=true->(zd))/\((decide ((↑(List.length zj):Int) > (6:Int)))=false->((za<=aI)->(∃(x:Nat),dG o.1 x/\((0:Int)=(↑x:Int)/\True)/\True)/\(∀x_0:Nat,((dG o.1 x_0)->(((decide (zk x_0 < zb))=true->(zl x_0/\zk x_0 < zb)/\(True)/\(((!bp.isNil (zm x_0))=true->(zm x_0=zc))/\((!bp.isNil (zm x_0))=false->((0:Int)<=(0:Int)/\zl x_0/\zk x_0<=zb)/\(True)/\(((List.any (List.drop (0:Nat) (List.take x_0 o.1)) fun (x:List UInt8)=>x == nth Ty.str o.1 x_0)=true->(bp.no (3:Int)=zc))/\((List.any (List.drop (0:Nat) (List.take x_0 o.1)) fun (x:List UInt8)=>x == nth Ty.str o.1 x_0)=false->((aY (zk x_0))->((aY (1:Int))->(aY (zk x_0 + (1:Int)))/\(∃(x':Nat),dG o.1 x'/\za - x' < za - x_0/\(zk x_0 + (1:Int)=(↑x':Int)/\True)/\zn))))))))/\((decide (zk x_0 < zb))=false->((zg)->(∃(x:Nat),eu ze x/\((0:Int)=(↑x:Int)/\True)/\True)/\(∀x_1:Nat,((eu ze x_1)->(((decide (zk x_1 < zh))=true->(zl x_1/\zk x_1 < zh)/\(True)/\(((!dk (nth (Ty.int IntKind.i64) ze x_1))=true->(bp.no (1:Int)=zc))/\((!dk (nth (Ty.int IntKind.i64) ze x_1))=false->((aY (zk x_1))->((aY (1:Int))->(aY (zk x_1 + (1:Int)))/\(∃(x':Nat),eu ze x'/\zf - x' < zf - x_1/\(zk x_1 + (1:Int)=(↑x':Int)/\True)/\zn))))))/\((decide (zk x_1 < zh))=false->(True)/\(((!bp.isNil zo)=true->(zo=zc))/\((!bp.isNil zo)=false->(True)/\(aW (eo zf none zj)=zc))))))))))))))))))))))))))))) (by kernel_rfl) ?_
 dsimp -iota -proj -eta only
 refine fun h0=>iL (fun h1 => ?a) (fun h1 h2=>iL (fun h3 => ?b) (fun h3 h4=>iL (fun h5 => ?c) (fun h5 h6=>iL (fun h7 => ?d) (fun h7 h8=>iL (fun h9 => ?e) (fun h9 h10=>⟨?f,fun x_0 q_0=>iL (fun h11=>⟨?g,trivial,iB (fun h12=>(by have hf:=jq (cV _) h12;rw [n5 (by unfold eO;omega) (q_0.fault (by omega) hf) (by omega)])) (fun h12=>⟨?h,trivial,⟨fun h13=>(by rw [List.drop_zero] at h13;rw [n5 (by unfold eO;omega) (q_0.dup (by omega) (iK h12) h13) (by decide)];rfl),fun h13 h14 h15=>⟨?i,(by rw [List.drop_zero] at h13;exact ⟨x_0 + 1,q_0.next (by omega) (iK h12) h13,by omega,⟨by omega,trivial⟩,(by trivial)⟩)⟩⟩⟩)⟩) (fun h11 h12=>⟨?j,fun x_1 q_1=>iL (fun h13=>⟨?k,trivial,iB (fun h14=>(by rw [ve (by unfold eO;omega) (q_0.done (by omega)) (q_1.fault (by omega) h14) (by decide)];rfl)) (fun h14 h15 h16=>⟨?l,(⟨x_1 + 1,q_1.next (by omega) h14,by omega,⟨by omega,trivial⟩,(by trivial)⟩)⟩)⟩) (fun h13=>⟨trivial,iB (fun h14=>(by have hf:=jq (n1 _ _ _) h14;rw [wy (by unfold eO;omega) (q_0.done (by omega)) (q_1.done (by omega)) rfl (by omega)])) (fun h14=>⟨trivial,(by rw [wz (by unfold eO;omega) (q_0.done (by omega)) (q_1.done (by omega)) (aR.1 h14) rfl])⟩)⟩)⟩)⟩)))))
 case a|b|c|d|e=>rw [wx (by unfold eO;omega)];rfl
 case f|j=>exact ⟨0, .zero _,⟨rfl,trivial⟩,trivial⟩
 case g|h|k=>omega
 case i|l=>simp only [aY,aI] at *;omega
theorem Tryd.A5:bU Tryd.prog Tryd.B.eT Tryd.X 19 [aB] [.err] (fun _=>True) (fun x y=>y=(fun o=>aW (bt o)) x):=
 cM (X:=Tryd.X) Tryd.wO Tryd.func19 (by kernel_rfl) (fun x=>ta x) (fun x hw hp=>A4 x hw)
theorem y8 (b:Bool) (hw:gL [.bool] b):(dW Tryd.B [] Tryd.f22 [] [.bool] [.str] (fun x y=>y=(fun b=>cR b) x) b).holds:=by
 refine holds_of (p:=
  (((b)=true->([(119:UInt8),101,97,107,32]=cR b))/\((b)=false->(@List.nil UInt8=cR b)))) (by kernel_rfl) ?_
 refine ⟨fun h0 => ?a,fun h0 => ?b⟩
 case a|b=>cases b <;> first | rfl | simp_all
theorem Tryd.y9:bU Tryd.prog Tryd.B.eT Tryd.X 22 [.bool] [.str] (fun _=>True) (fun x y=>y=(fun b=>cR b) x):=
 cM (X:=Tryd.X) (cU Tryd.cX) Tryd.func22 (by kernel_rfl) (fun _=>[]) (fun x hw hp=>y8 x hw)
end Go.Proofs.YtgokjhhcfemnhacDoor

namespace Go.Proofs.YtgokjhhcfemnhacDoor
open Go.RowKit Go.Vg
theorem Tryd.D1:(Tryd.prog.info? 64).map (·.size)=some 2:=by kernel_rfl
theorem Tryd.Eg:liesAt Tryd.prog Tryd.prog.depth 64 (2 / Tryd.prog.cellsOf 64) 0 64 1=true:=by kernel_rfl
set_option maxHeartbeats 1000000 in
set_option maxRecDepth 100000 in
theorem Tryd.zA (b:Nat) (v:Value) (w:World) (hb:w.heap[b]?=some (.cells #[.pointer (some ⟨b,0,none⟩),v] 64 (0,0))) :
  Calls Tryd.prog 38 #[.pointer (some ⟨b,0,none⟩)] w fun e w'=>e = .returned (.tuple #[])/\w'=w:=by
 obtain ⟨j,hj,_⟩:=Option.map_eq_some_iff.1 Tryd.D1
 have h0:w.cell? ⟨b,0,none⟩=some (.pointer (some ⟨b,0,none⟩)):=by rw [Lib.cell_of_heap hb];rfl
 go_enter Tryd.func38,Tryd.ntmps38
 go_wp2
 rw [Lib.run_neq_ptr_same w _ Tryd.underlying61 hj]
 go_wp2
 go_end0
 exact ⟨rfl,rfl⟩
set_option maxHeartbeats 1000000 in
set_option maxRecDepth 100000 in
theorem Tryd.wP (b:Nat) (v:Value) (w:World) (hb:w.heap[b]?=some (.cells #[.pointer none,v] 64 (0,0))) :
  Calls Tryd.prog 38 #[.pointer (some ⟨b,0,none⟩)] w fun e w'=>e = .returned (.tuple #[])/\w'=w.setCell ⟨b,0,none⟩ (.pointer (some ⟨b,0,none⟩)):=by
 obtain ⟨j,hj,hjs⟩:=Option.map_eq_some_iff.1 Tryd.D1
 have h0:w.cell? ⟨b,0,none⟩=some (.pointer none):=by rw [Lib.cell_of_heap hb];rfl
 have hsh:w.shape? b=some (64,2):=by simp [World.shape?,hb]
 have hfz:w.frozen? ⟨b,0,none⟩=false:=Lib.frozen_of_heap hb 0
 go_enter Tryd.func38,Tryd.ntmps38
 go_wp2
 rw [Lib.run_to_unsafe w ⟨b,0,none⟩ Tryd.underlying61 Tryd.underlying103 hj (by rw [hjs];decide) hsh (Nat.zero_lt_succ 1)]
 simp only [Result.andThen]
 rw [Oper.upon_value]
 go_wp2
 rw [run_callFunc_extern Tryd.func49 (by kernel_rfl) (by kernel_rfl) (by kernel_rfl) (e:=Extern.AbiNoEscape.same) (by kernel_rfl)]
 rw [Lib.run_noEscape]
 simp only [Result.andThen]
 rw [Oper.upon_value]
 go_wp2
 rw [Lib.run_from_unsafe w ⟨b,0,none⟩ Tryd.underlying103 Tryd.underlying61 hj hsh Tryd.Eg]
 simp only [Result.andThen]
 rw [Oper.upon_value]
 go_wp2
 go_end0
 exact ⟨rfl,rfl⟩
theorem Tryd.Eh:(Tryd.prog.info? 5).map (fun i=>(i.zero,i.size,i.bytes))=some (some (.int .u8 0),1,1):=by kernel_rfl
theorem Tryd.D8:Tryd.prog.cellsOf 5=1:=by kernel_rfl
set_option maxHeartbeats 2000000 in
set_option maxRecDepth 100000 in
theorem Tryd.A6 (b:Nat) (p v:Value) (xs:List Value) (s:ByteArray) (w:World) (hb:w.heap[b]?=some (.cells #[p,v] 64 (0,0))) (hp:p = .pointer none\/p = .pointer (some ⟨b,0,none⟩))
  (hown:w.ownsRow 0 5 1 v xs.length xs) (hne:v.ownBlock≠some b) (hcap:∀a n c,v = .slice (some a) n c->0 < c) (hlen:xs.length + s.size<=140737488355328) :
  Calls Tryd.prog 21 #[.pointer (some ⟨b,0,none⟩), .string s] w fun e w'=>e = .returned (.tuple #[.int .i64 s.size, .nilIface])/\
   ∃v',w'.heap[b]?=some (.cells #[.pointer (some ⟨b,0,none⟩),v'] 64 (0,0))/\w'.ownsRow 0 5 1 v' (xs.length + s.size) (xs++Lib.strCells s)/\v'.ownBlock≠some b/\Kept b v w w'/\
    (∀a n c,v' = .slice (some a) n c->0 < c)/\(∀g,v'.ownBlock=some g->v.ownBlock=some g\/w.heap.size<=g):=by
 obtain ⟨i0,hi,hz0⟩:=Option.map_eq_some_iff.1 Tryd.Eh
 simp only [Prod.mk.injEq] at hz0
 obtain ⟨hz0,hz1,hz2⟩:=hz0
 have hchk:Calls Tryd.prog 38 #[.pointer (some ⟨b,0,none⟩)] w fun e w1=>e = .returned (.tuple #[])/\w1.heap[b]?=some (.cells #[.pointer (some ⟨b,0,none⟩),v] 64 (0,0))/\
   w1.os=w.os/\w1.output=w.output/\w1.heap.size=w.heap.size/\∀k,k≠b->w1.heap[k]?=w.heap[k]?:=by
  rcases hp with rfl | rfl
  ·refine (Tryd.wP b v w hb).mono ?_
   rintro e w1 ⟨rfl,rfl⟩
   exact ⟨rfl,(DE hb).trans (by simp),rfl,rfl,Go.Deep.nblk_setCell _ _ _,fun k hk=>Go.Deep.blk_setCell_other _ _ _ _ hk⟩
  ·refine (Tryd.zA b v w hb).mono ?_
   rintro e w1 ⟨rfl,rfl⟩
   exact ⟨rfl,hb,rfl,rfl,rfl,fun _ _=>rfl⟩
 go_enter Tryd.func21,Tryd.ntmps21
 go_wp2_with (go_at_call 38;refine hchk.mono ?_)
 rintro e w1 ⟨rfl,hb1,ho1,hu1,hs1,hk1⟩
 have hown1:w1.ownsRow 0 5 1 v xs.length xs:=by
  refine ⟨hown.1,?_⟩
  rcases hown.2 with h | ⟨g,cap,cur,h1,h2,h3,h4⟩
  ·exact .inl h
  ·refine .inr ⟨g,cap,cur,h1,h2,?_,h4⟩
   rw [hk1 g (fun e=>hne (by rw [h1,e];rfl))];exact h3
 have c0:w1.cell? ⟨b,0,none⟩=some (.pointer (some ⟨b,0,none⟩)):=by rw [Lib.cell_of_heap hb1];rfl
 have c1:w1.cell? ⟨b,1,none⟩=some v:=by rw [Lib.cell_of_heap hb1];rfl
 obtain ⟨v',w2,hrun,hown',hgrow,hcap',hnew⟩:=CS (t:=62) (u:=9) (ty:=62) Tryd.underlying62 Tryd.underlying9 hi hz0 hz1 hz2 hown1 hcap s hlen
 have hlt:b < w1.heap.size:=(Array.getElem?_eq_some_iff.1 hb1).1
 have hb2:w2.heap[b]?=some (.cells #[.pointer (some ⟨b,0,none⟩),v] 64 (0,0)):=by rw [hgrow.block b hlt (fun e=>hne e.symm)];exact hb1
 have d1:w2.cell? ⟨b,1,none⟩=some v:=by rw [Lib.cell_of_heap hb2];rfl
 have f1:w2.frozen? ⟨b,1,none⟩=false:=Lib.frozen_of_heap hb2 1
 have hne':v'.ownBlock≠some b:=by
  intro e
  rcases hown'.2 with ⟨h,_⟩ | ⟨g',cap,cur,h,_,h3,_⟩
  ·rw [h] at e;cases e
  ·rw [h] at e
   cases e
   rw [hb2] at h3
   cases h3
 have hv1:∃a n c,v' = .slice a n c:=by
  rcases hown'.2 with ⟨h,_⟩ | ⟨g',cap,cur,h,_⟩ <;> exact ⟨_,_,_,h⟩
 obtain ⟨va,vn,vc,rfl⟩:=hv1
 rw [hs1] at hnew
 go_wp2_with (at_builtin;refine oV rfl _ _ 62 9 rfl rfl rfl hrun ?_)
 go_ret2
 refine ⟨rfl, .slice va vn vc,(DE hb2).trans (by simp),⟨hown'.1,?_⟩,hne',⟨hgrow.os.trans ho1,hgrow.output.trans hu1,?_,fun k h1 h2 h3 => ?_⟩,hcap',hnew⟩
 ·rcases hown'.2 with h | ⟨g,cap,cur,h1,h2,h3,h4⟩
  ·exact .inl h
  ·refine .inr ⟨g,cap,cur,h1,h2,?_,h4⟩
   rw [Go.Deep.blk_setCell_other _ _ _ _ (fun e=>hne' (by rw [h1,show g=b from e];rfl))]
   exact h3
 ·rw [Go.Deep.nblk_setCell];have:=hgrow.size;omega
 ·rw [Go.Deep.blk_setCell_other _ _ _ _ (show k≠b from h2),hgrow.block k (by omega) (fun e=>h3 e.symm),hk1 k h2]
set_option maxHeartbeats 2000000 in
set_option maxRecDepth 100000 in
theorem Tryd.zB (b:Nat) (p v:Value) (l:List UInt8) (w:World) (hb:w.heap[b]?=some (.cells #[p,v] 64 (0,0))) (hown:w.ownsRow 0 5 1 v l.length (l.map fun c=>Value.int .u8 c.toNat)) (hcap:∀a n c,v = .slice (some a) n c->0 < c) :
  Calls Tryd.prog 24 #[.pointer (some ⟨b,0,none⟩)] w fun e w'=>e = .returned (.string ⟨l.toArray⟩)/\yk v w w':=by
 have c1:w.drew.cell? ⟨b,1,none⟩=some v:=by
  have:w.drew.heap[b]?=some (.cells #[p,v] 64 (0,0)):=hb
  rw [Lib.cell_of_heap this];rfl
 have mixed:Tryd.prog.follows .mixedOrders=true:=by kernel_rfl
 by_cases h0:l = []
 ·subst h0
  obtain ⟨q,n,c,rfl,hn,hSD⟩:∃q n c,v = .slice q n c/\n=0/\(Builtin.unsafeSliceData_ #[62] 93 #[v]).run Tryd.prog w.drew = .ok (.pointer q) w.drew:=by
   rcases hown.2 with ⟨rfl,_⟩ | ⟨g,cap,cur,rfl,_⟩
   ·exact ⟨none,0,0,rfl,rfl,Lib.run_unsafeSliceData_nil _ _ _ _ _⟩
   ·exact ⟨_,_,_,rfl,rfl,Lib.run_unsafeSliceData_row _ _ _ _ _ _ (by have:=hcap _ _ _ rfl;omega)⟩
  subst hn
  have hUS:(Builtin.unsafeString_ #[93,3] 9 #[.pointer q, .int .i64 0]).run Tryd.prog w.drew = .ok (.string .empty) w.drew:=Lib.run_unsafeString_none _ _ _ _ q
  go_enter Tryd.func24,Tryd.ntmps24
  go_wp2
  go_region_o
  all_goals (go_wp2;go_ret;exact ⟨rfl,rfl,rfl,rfl,fun _ _=>rfl⟩)
 ·have hl0:l.length≠0:=by simpa using h0
  rcases hown.2 with ⟨_,hz⟩ | ⟨g,cap,cur,rfl,hbg,hg,hnc,hcm,hcs,htake⟩
  ·exact absurd hz hl0
  have hSD:(Builtin.unsafeSliceData_ #[62] 93 #[.slice (some ⟨g,0,none⟩) l.length cap]).run Tryd.prog w.drew = .ok (.pointer (some ⟨g,0,none⟩)) w.drew:=Lib.run_unsafeSliceData_row _ _ _ _ _ _ (by omega)
  have hUS:(Builtin.unsafeString_ #[93,3] 9 #[.pointer (some ⟨g,0,none⟩), .int .i64 l.length]).run Tryd.prog w.drew = .ok (.string ⟨l.toArray⟩) (w.drew.freeze ⟨g,0,none⟩ l.length):=by
   refine Lib.run_unsafeString_row w.drew 93 3 9 5 Tryd.underlying93 Tryd.D8 g cur.size (by have hg':w.drew.heap[g]?=some (.cells cur 5 (0,0)):=hg;simp [World.shape?,hg']) l h0 (by omega) (by unfold maxLen at hcm;omega) ?_
   intro j x hx
   exact hown.cells (g:=g) rfl j (.int .u8 x.toNat) (by simp [hx])
  go_enter Tryd.func24,Tryd.ntmps24
  go_wp2
  go_region_o
  all_goals (go_wp2;go_ret;exact ⟨rfl,wo⟩)
theorem Tryd.Db (b:Nat) (p _q:Value) (a:Option Addr) (n c:Nat) (w:World) (hb:w.heap[b]?=some (.cells #[p, .slice a n c] 64 (0,0))) :
  Calls Tryd.prog 23 #[.pointer (some ⟨b,0,none⟩)] w fun r w'=>r = .returned (.int .i64 n)/\w'=w:=by
 have c1:w.cell? ⟨b,1,none⟩=some (.slice a n c):=by rw [Lib.cell_of_heap hb];rfl
 go_enter Tryd.func23,Tryd.ntmps23
 go_wp2
 go_ret
 exact ⟨rfl,rfl⟩
theorem Tryd.wQ:cz Tryd.prog Tryd.B.eT Tryd.X 21 false (mH 64 5):=
 qU ⟨Tryd.f21,Tryd.func21,by kernel_rfl,by kernel_rfl⟩ Tryd.A6
theorem Tryd.vK:cz Tryd.prog Tryd.B.eT Tryd.X 24 false (kS 64 5):=
 pT ⟨Tryd.f24,Tryd.func24,by kernel_rfl,by kernel_rfl⟩ Tryd.zB
theorem Tryd.A7:cz Tryd.prog Tryd.B.eT Tryd.X 23 true (qT 64 5):=
 tu ⟨Tryd.f23,Tryd.func23,by kernel_rfl,by kernel_rfl⟩ Tryd.Db
end Go.Proofs.YtgokjhhcfemnhacDoor

namespace Go.Proofs.YtgokjhhcfemnhacDoor
open Go.Vg Go.Mrl
noncomputable def Tryd.vL:List (FuncId × (Bool × bB)):=[(26,(true,aZ [.str] [.err] (fun _=>True) (fun s=>aW (aJ s)))),
 (21,(false,mH 64 5)),
 (24,(false,kS 64 5)),
 (23,(true,qT 64 5)),
 (20,(true,aZ [.int .i64] [.str] (fun _=>True) (fun n=>Lib.itoa n))),
 (19,(true,aZ [aB] [.err] (fun _=>True) (fun o=>aW (bt o)))),
 (22,(true,aZ [.bool] [.str] (fun _=>True) (fun b=>cR b)))]
theorem Tryd.zC:bW Tryd.prog Tryd.B Tryd.X Tryd.vL:=
 bj (aK Tryd.gG) (bj (Tryd.wQ) (bj (Tryd.vK) (bj (Tryd.A7) (bj (aK Tryd.mT) (bj (aK Tryd.A5) (bj (aK Tryd.y9) (cU Tryd.cX)))))))
def vM (o:D aB):cA:=[
 (0,fun st=>{X:=Nat,inv:=fun i=>i<=o.1.length,bF:=fun i=>o.1.length - i,bg:=fun i=>[(23,sI i)],bf:=[1,2,3,5,6,21,22],aC:=fun i=>[(dj st 5, .ext 2 ee (bo (ib o i),(64:Int),(5:Int),()))],iz:=[dj st 5]}),
 (2,fun st=>{X:=Nat,inv:=fun i=>i<=o.2.1.length,bF:=fun i=>o.2.1.length - i,bg:=fun i=>[(35,sI i)],bf:=[1,2,3,5,6,33,34],aC:=fun i=>[(dj st 5, .ext 2 ee (bo (fN o i),(64:Int),(5:Int),()))],iz:=[dj st 5]}),
 (4,fun st=>{X:=Nat,inv:=fun i=>i<=o.2.2.1.length,bF:=fun i=>o.2.2.1.length - i,bg:=fun i=>[(49,sI i)],bf:=[1,2,3,5,6,47,48],aC:=fun i=>[(dj st 5, .ext 2 ee (bo (fO o i),(64:Int),(5:Int),()))],iz:=[dj st 5]}),
 (6,fun st=>{X:=Nat,inv:=fun i=>i<=o.2.2.2.1.length,bF:=fun i=>o.2.2.2.1.length - i,bg:=fun i=>[(72,sI i)],bf:=[2,3,5,6,70,71],aC:=fun i=>[(dj st 5, .ext 2 ee (bo (df o i),(64:Int),(5:Int),()))],iz:=[dj st 5]})]
theorem Cb (o:D aB) (hw:gL [aB] o):(dW (qN Tryd.B [41,64,91,85,104,110,123,129]) Tryd.vL Tryd.f7 (vM o) [aB] [.str, .err] (fun x y=>y=(fun o=>dJ o) x) o).holds:=by
 refine holds_of (p:=
  let za:=aW (bt o)
  let zb:=dJ o
  let zc:=List.length o.1
  let zd:=(↑(64:Nat):Int)
  let ze:=fun (b:UInt8)=>(↑(UInt8.toNat b):Int)
  let zf:=((64:Int),(5:Int),())
  let zg:=fun (x_0:Nat)=>(↑x_0:Int)
  let zh:=fun (x_0:Nat)=>(0:Int)<=zg x_0
  let zi:=[(110:UInt8),101,101,100,32]
  let zj:=[(10:UInt8)]
  let zk:=List.length zj
  let zl:=(64:Int)=zd
  let zm:=(↑(5:Nat):Int)
  let zn:=(5:Int)=zm
  let zo:=fun (x_0:Nat)=>List.map ze (ib o x_0)
  let zp:=fun (x_0:Nat)=>zi++nth Ty.str o.1 x_0++zj
  let zq:=fun (x_0:Nat)=>aY (zg x_0)
  let zr:=aY (1:Int)
  let zs:=fun (x_0:Nat)=>zg x_0 + (1:Int)
  let zt:=fun (x_0:Nat)=>aY (zs x_0)
  let zu:=(zd,zm,())
  let zv:=o.2.1
  let zw:=o.2.2.1
  let zx:=o.2.2.2.1
  let zy:=(o.1=o.1/\zv=zv/\zw=zw/\zx=zx/\True)/\True
  let zz:=List.length zv
  let zaa:=[(119:UInt8),111,114,100,32]
  let zab:=fun (x_1:Nat)=>zaa++Lib.itoa (nth (Ty.int IntKind.i64) zv x_1)
  let zac:=fun (x_1:Nat)=>List.map ze (fN o x_1)
  let zad:=List.length zw
  let zae:=fun (x_2:Nat)=>cR (nth aF zw x_2).2.2.1
  let zaf:=[(115:UInt8),121,109,98,111,108,32]
  let zag:=fun (x_2:Nat)=>zae x_2++zaf++(nth aF zw x_2).1
  let zah:=[(32:UInt8)]
  let zai:=List.length zah
  let zaj:=fun (x_2:Nat)=>Lib.itoa (nth aF zw x_2).2.1
  let zak:=fun (x_2:Nat)=>List.map ze (fO o x_2)
  let zal:=fun (x_2:Nat)=>zag x_2++zah++zaj x_2++zj
  let zam:=List.length zx
  let zan:=[(98:UInt8),97,115,101,32]
  let zao:=fun (x_3:Nat)=>Lib.itoa (nth aN zx x_3).1
  let zap:=fun (x_3:Nat)=>Lib.itoa (nth aN zx x_3).2.2.1
  let zaq:=fun (x_3:Nat)=>zan++zao x_3++zah++zap x_3
  let zar:=fun (x_3:Nat)=>List.map ze (df o x_3)
  let zas:=fun (x_3:Nat)=>List.length (zar x_3)
  let zat:=fun (x_3:Nat)=>cR (nth aN zx x_3).2.2.2.2.1
  let zau:=[(119:UInt8),104,111,108,101,32]
  let zav:=fun (x_3:Nat)=>zat x_3++zau++zao x_3++zah
  let zaw:=fun (x_3:Nat)=>(nth aN zx x_3).2.2.2.1
  let zax:=fun (x_3:Nat)=>zav x_3++zap x_3++zah++zaw x_3
  let zay:=[(110:UInt8),101,97,114,32]
  let zaz:=fun (x_3:Nat)=>zat x_3++zay++zao x_3++zah
  let zba:=fun (x_3:Nat)=>zaz x_3++zap x_3++zah++zaw x_3
  (True)/\(((!bp.isNil za)=true->(([],za)=zb))/\((!bp.isNil za)=false->((zc<=aI)->(∃(x:Nat),x<=zc/\((0:Int)=(↑x:Int)/\True)/\([],zd,(↑(5:TypeId):Int),())=(List.map ze (ib o x),zf)/\True)/\(∀x_0:Nat,((x_0<=zc)->(((decide (zg x_0 < (↑zc:Int)))=true->(zh x_0/\zg x_0 < (↑zc:Int))/\(List.length zi + List.length (nth Ty.str o.1 x_0)<=aI)/\(List.length (zi++nth Ty.str o.1 x_0) + zk<=aI)/\(zl/\zn/\List.length (zo x_0) + List.length (zp x_0)<=(140737488355328:Nat))/\((zq x_0)->((zr)->(zt x_0)/\(∃(x':Nat),x'<=zc/\zc - x' < zc - x_0/\(zs x_0=(↑x':Int)/\True)/\(zo x_0++List.map ze (zp x_0),zu)=(List.map ze (ib o x'),zf)/\zy))))/\((decide (zg x_0 < (↑zc:Int)))=false->((zz<=aI)->(∃(x:Nat),x<=zz/\((0:Int)=(↑x:Int)/\True)/\(zo x_0,zf)=(List.map ze (fN o x),zf)/\True)/\(∀x_1:Nat,((x_1<=zz)->(((decide (zg x_1 < (↑zz:Int)))=true->(zh x_1/\zg x_1 < (↑zz:Int))/\(True)/\(List.length zaa + List.length (Lib.itoa (nth (Ty.int IntKind.i64) zv x_1))<=aI)/\(List.length (zab x_1) + zk<=aI)/\(zl/\zn/\List.length (zac x_1) + List.length (zab x_1++zj)<=(140737488355328:Nat))/\((zq x_1)->((zr)->(zt x_1)/\(∃(x':Nat),x'<=zz/\zz - x' < zz - x_1/\(zs x_1=(↑x':Int)/\True)/\(zac x_1++List.map ze (zab x_1++zj),zu)=(List.map ze (fN o x'),zf)/\zy))))/\((decide (zg x_1 < (↑zz:Int)))=false->((zad<=aI)->(∃(x:Nat),x<=zad/\((0:Int)=(↑x:Int)/\True)/\(zac x_1,zf)=(List.map ze (fO o x),zf)/\True)/\(∀x_2:Nat,((x_2<=zad)->(((decide (zg x_2 < (↑zad:Int)))=true->(zh x_2/\zg x_2 < (↑zad:Int))/\(True)/\(List.length (zae x_2) + List.length zaf<=aI)/\(List.length (zae x_2++zaf) + List.length (nth aF zw x_2).1<=aI)/\(List.length (zag x_2) + zai<=aI)/\(True)/\(List.length (zag x_2++zah) + List.length (zaj x_2)<=aI)/\(List.length (zag x_2++zah++zaj x_2) + zk<=aI)/\(zl/\zn/\List.length (zak x_2) + List.length (zal x_2)<=(140737488355328:Nat))/\((zq x_2)->((zr)->(zt x_2)/\(∃(x':Nat),x'<=zad/\zad - x' < zad - x_2/\(zs x_2=(↑x':Int)/\True)/\(zak x_2++List.map ze (zal x_2),zu)=(List.map ze (fO o x'),zf)/\zy))))/\((decide (zg x_2 < (↑zad:Int)))=false->((zam<=aI)->(∃(x:Nat),x<=zam/\((0:Int)=(↑x:Int)/\True)/\(zak x_2,zf)=(List.map ze (df o x),zf)/\True)/\(∀x_3:Nat,((x_3<=zam)->(((decide (zg x_3 < (↑zam:Int)))=true->(zh x_3/\zg x_3 < (↑zam:Int))/\((((nth aN zx x_3).2.1 == (1:Int))=true->(True)/\(List.length zan + List.length (zao x_3)<=aI)/\(List.length (zan++zao x_3) + zai<=aI)/\(True)/\(List.length (zan++zao x_3++zah) + List.length (zap x_3)<=aI)/\(List.length (zaq x_3) + zk<=aI)/\(zl/\zn/\zas x_3 + List.length (zaq x_3++zj)<=(140737488355328:Nat))/\((zq x_3)->((zr)->(zt x_3)/\(∃(x':Nat),x'<=zam/\zam - x' < zam - x_3/\(zs x_3=(↑x':Int)/\True)/\(zar x_3++List.map ze (zaq x_3++zj),zu)=(List.map ze (df o x'),zf)/\zy))))/\(((nth aN zx x_3).2.1 == (1:Int))=false->((((nth aN zx x_3).2.1 == (2:Int))=true->(True)/\(List.length (zat x_3) + List.length zau<=aI)/\(True)/\(List.length (zat x_3++zau) + List.length (zao x_3)<=aI)/\(List.length (zat x_3++zau++zao x_3) + zai<=aI)/\(True)/\(List.length (zav x_3) + List.length (zap x_3)<=aI)/\(List.length (zav x_3++zap x_3) + zai<=aI)/\(List.length (zav x_3++zap x_3++zah) + List.length (zaw x_3)<=aI)/\(List.length (zax x_3) + zk<=aI)/\(zl/\zn/\zas x_3 + List.length (zax x_3++zj)<=(140737488355328:Nat))/\((zq x_3)->((zr)->(zt x_3)/\(∃(x':Nat),x'<=zam/\zam - x' < zam - x_3/\(zs x_3=(↑x':Int)/\True)/\(zar x_3++List.map ze (zax x_3++zj),zu)=(List.map ze (df o x'),zf)/\zy))))/\(((nth aN zx x_3).2.1 == (2:Int))=false->(True)/\(List.length (zat x_3) + List.length zay<=aI)/\(True)/\(List.length (zat x_3++zay) + List.length (zao x_3)<=aI)/\(List.length (zat x_3++zay++zao x_3) + zai<=aI)/\(True)/\(List.length (zaz x_3) + List.length (zap x_3)<=aI)/\(List.length (zaz x_3++zap x_3) + zai<=aI)/\(List.length (zaz x_3++zap x_3++zah) + List.length (zaw x_3)<=aI)/\(List.length (zba x_3) + zk<=aI)/\(zl/\zn/\zas x_3 + List.length (zba x_3++zj)<=(140737488355328:Nat))/\((zq x_3)->((zr)->(zt x_3)/\(∃(x':Nat),x'<=zam/\zam - x' < zam - x_3/\(zs x_3=(↑x':Int)/\True)/\(zar x_3++List.map ze (zba x_3++zj),zu)=(List.map ze (df o x'),zf)/\zy))))))))/\((decide (zg x_3 < (↑zam:Int)))=false->(zl/\zn)/\(((decide ((↑(zas x_3):Int) > (1200:Int)))=true->(([],bp.no (2:Int))=zb))/\((decide ((↑(zas x_3):Int) > (1200:Int)))=false->(zl/\zn)/\((bytesOf (zar x_3),bp.nil)=zb)))))))))))))))))))))))))) (by kernel_rfl) ?_
 dsimp -iota -proj -eta only
 refine ⟨trivial,iB (fun h0=>(by rw [sN (fun e=>by rw [aR.2 e] at h0;cases h0)])) (fun h0 h1=>⟨(⟨0,by omega,⟨rfl,trivial⟩,rfl,trivial⟩),fun x_0 q_0=>iL (fun h2=>⟨?a,?b,?c,?d,fun h3 h4=>⟨?e,(⟨x_0 + 1,by omega,by omega,⟨by omega,trivial⟩,iM (Au (by omega)),(by trivial)⟩)⟩⟩) (fun h2 h3=>⟨(⟨0,by omega,⟨rfl,trivial⟩,pV (by rw [Ax,show x_0=o.1.length by omega]),trivial⟩),fun x_1 q_1=>iL (fun h4=>⟨?f,trivial,?g,?h,?i,fun h5 h6=>⟨?j,(⟨x_1 + 1,by omega,by omega,⟨by omega,trivial⟩,iM (Av (by omega)),(by trivial)⟩)⟩⟩) (fun h4 h5=>⟨(⟨0,by omega,⟨rfl,trivial⟩,pV (by rw [Ay,show x_1=o.2.1.length by omega]),trivial⟩),fun x_2 q_2=>iL (fun h6=>⟨?k,trivial,?l,?m,?n,trivial,?o,?p,?q,fun h7 h8=>⟨?r,(⟨x_2 + 1,by omega,by omega,⟨by omega,trivial⟩,iM (Aw (by omega)),(by trivial)⟩)⟩⟩) (fun h6 h7=>⟨(⟨0,by omega,⟨rfl,trivial⟩,pV (by rw [Az,show x_2=o.2.2.1.length by omega]),trivial⟩),fun x_3 q_3=>iL (fun h8=>⟨?s,iQ (fun h9=>⟨trivial,?t,?u,trivial,?v,?w,?x,fun h10 h11=>⟨?y,(⟨x_3 + 1,by omega,by omega,⟨by omega,trivial⟩,iM (yx (by omega) h9),(by trivial)⟩)⟩⟩) (fun h9=>iQ (fun h10=>⟨trivial,?z,trivial,?a0,?a1,trivial,?a2,?a3,?a4,?a5,?a6,fun h11 h12=>⟨?a7,(⟨x_3 + 1,by omega,by omega,⟨by omega,trivial⟩,iM (yy (by omega) h9 h10),(by trivial)⟩)⟩⟩) (fun h10=>⟨trivial,?a8,trivial,?a9,?aa,trivial,?ab,?ac,?ad,?ae,?af,fun h11 h12=>⟨?ag,(⟨x_3 + 1,by omega,by omega,⟨by omega,trivial⟩,iM (yz (by omega) h9 h10),(by trivial)⟩)⟩⟩))⟩) (fun h8=>⟨?ah,iL (fun h9=>(by rw [q7 (aR.1 h0) (show x_3=_ by omega) (by simp only [List.length_map] at h9;omega)])) (fun h9=>⟨?ai,(by rw [mO (aR.1 h0) (show x_3=_ by omega) (by simp only [List.length_map] at h9;omega)];exact congrArg (·,bp.nil) (yl _))⟩)⟩)⟩)⟩)⟩)⟩)⟩
 case a|f|k|s=>omega
 case b|c=>have a:=sL (gb (aR.1 h0)) (i:=x_0) (by omega);simp only [List.length_append,List.length_cons,List.length_nil,List.length_map,aI];omega
 case d|i|q|x|a6|af=>exact ⟨rfl,rfl,by first | (have a:=vk (gb (aR.1 h0)) (i:=x_3) (by omega);simp only [List.length_append,List.length_cons,List.length_nil,List.length_map,aI];omega) | (have a:=vj (gb (aR.1 h0)) (i:=x_2) (by omega);simp only [List.length_append,List.length_cons,List.length_nil,List.length_map,aI];omega) | (have a:=sM (gb (aR.1 h0)) (i:=x_1) (by omega);simp only [List.length_append,List.length_cons,List.length_nil,List.length_map,aI];omega) | (have a:=sL (gb (aR.1 h0)) (i:=x_0) (by omega);simp only [List.length_append,List.length_cons,List.length_nil,List.length_map,aI];omega)⟩
 case e|j|r|y|a7|ag=>simp only [aY,aI] at *;omega
 case g|h=>have a:=sM (gb (aR.1 h0)) (i:=x_1) (by omega);simp only [List.length_append,List.length_cons,List.length_nil,List.length_map,aI];omega
 case l|m|n|o|p=>have a:=vj (gb (aR.1 h0)) (i:=x_2) (by omega);simp only [List.length_append,List.length_cons,List.length_nil,List.length_map,aI];omega
 case t|u|v|w|z|a0|a1|a2|a3|a4|a5|a8|a9|aa|ab|ac|ad|ae=>have a:=vk (gb (aR.1 h0)) (i:=x_3) (by omega);simp only [List.length_append,List.length_cons,List.length_nil,List.length_map,aI];omega
 case ah|ai=>trivial
theorem Tryd.Cc:bU Tryd.prog Tryd.B.eT Tryd.X 7 [aB] [.str, .err] (fun _=>True) (fun x y=>y=(fun o=>dJ o) x):=
 cM (B:=(qN Tryd.B [41,64,91,85,104,110,123,129])) (X:=Tryd.X) (bW.hint (l:=[41,64,91,85,104,110,123,129]) Tryd.zC) Tryd.func7 (by kernel_rfl) (fun x=>vM x) (fun x hw hp=>Cb x hw)
end Go.Proofs.YtgokjhhcfemnhacDoor

namespace Go.Proofs.YtgokjhhcfemnhacDoor
open Go.Vg Go.Mrl
noncomputable def Tryd.vN:List (FuncId × (Bool × bB)):=[(20,(true,aZ [.int .i64] [.str] (fun _=>True) (fun n=>Lib.itoa n))),
 (45,(true,aZ [.str] [.int .i64, .err] (fun s=>s.length<=281474976710656) (fun s=>bP s))),
 (32,(true,aZ [.str, .str] [.str, .bool] (fun _=>True) (fun x=>(Lib.trimPrefix x.1 x.2,Lib.hasPrefix x.1 x.2)))),
 (17,(true,aZ [.str, .str] [.str] (fun _=>True) (fun x=>Lib.trimSuffix x.1 x.2))),
 (16,(true,aZ [.str, .str] [.slice .str] (fun x=>x.1.length < 4294967281/\x.2.length=1) (fun x=>parts (Cr x.2) x.1))),
 (7,(true,aZ [aB] [.str, .err] (fun _=>True) (fun o=>dJ o))),
 (18,(false,bZ Tryd.gP [.obj 0, .d .str, .obj 5] (fun a x=>a.1.length<=1000000/\x.2.1.length<=1000000/\x.2.2.1.length<=1000000/\x.2.2.2.1.length<=1000000/\x.2.2.2.2.1.length<=1000000) Tryd.p7))]
theorem Tryd.zD:bW Tryd.prog Tryd.B Tryd.X Tryd.vN:=
 bj (aK Tryd.mT) (bj (aK Tryd.p5) (bj (aK Tryd.ku) (bj (aK Tryd.jC) (bj (aK Tryd.p6) (bj (aK Tryd.Cc) (bj (Tryd.B7) (cU Tryd.cX)))))))
def vO (s:List UInt8):cA:=[(200000,fun st=>{X:=Nat × D aB × Bool,inv:=fun x=>ey (parts 10 (Lib.trimSuffix s [10])) x.1 x.2.1 x.2.2,bF:=fun x=>List.length (parts 10 (Lib.trimSuffix s [10])) - x.1,bg:=fun x=>[(19,sI x.1)],bf:=[0,2,3,4,5,17,18],aG:=Tryd.gP,refs:=[(4,0),(5,5)],pd:=fun x=>AJ x.2})]
theorem A8 (s:List UInt8) (hw:gL [.str] s):(dW Tryd.B Tryd.vN Tryd.f5 (vO s) [.str] [aB, .err] (fun x y=>y=(fun s=>fA s) x) s).holds:=by
 refine holds_of (p:=
  let za:=([],[],[],[],())
  let zb:=fA s
  let zc:=Lib.trimSuffix s [(10:UInt8)]
  let zd:=parts (10:UInt8) zc
  let ze:=@List.nil (List UInt8) = @List.nil (List UInt8)
  let zf:=@List.nil Int = @List.nil Int
  let zg:=@List.nil (List UInt8 × Int × Bool × Unit) = @List.nil (List UInt8 × Int × Bool × Unit)
  let zh:=@List.nil (Int × Int × Int × List UInt8 × Bool × Unit) = @List.nil (Int × Int × Int × List UInt8 × Bool × Unit)
  let zi:=List UInt8
  let zj:=Nat × (List zi × List Int × List (zi × Int × Bool × Unit) × List (Int × Int × Int × zi × Bool × Unit) × Unit) × Bool
  let zk:=(ze/\zf/\zg/\zh/\True)/\zh/\zg/\zf/\ze/\True
  let zl:=!false
  let zm:=(zl && (zl && (zl && (zl && (zl && true)))))=true
  let zn:=fun (x_0:Nat × (List (List UInt8) × List Int × List (List UInt8 × Int × Bool × Unit) × List (Int × Int × Int × List UInt8 × Bool × Unit) × Unit) × Bool)=>(↑x_0.1:Int) < (↑(List.length zd):Int)
  let zo:=fun (x_0:Nat × (List (List UInt8) × List Int × List (List UInt8 × Int × Bool × Unit) × List (Int × Int × Int × List UInt8 × Bool × Unit) × Unit) × Bool)=>x_0.2.1.2.2.1
  let zp:=fun (x_0:Nat × (List (List UInt8) × List Int × List (List UInt8 × Int × Bool × Unit) × List (Int × Int × Int × List UInt8 × Bool × Unit) × Unit) × Bool)=>x_0.2.1.2.2.2.1
  let zq:=fun (x_0:Nat × (List (List UInt8) × List Int × List (List UInt8 × Int × Bool × Unit) × List (Int × Int × Int × List UInt8 × Bool × Unit) × Unit) × Bool)=>cq (BV ((),x_0.2.1.1,x_0.2.1.2.1,zo x_0,zp x_0,(x_0.2.2,()),())) x_0.2.2 (nth Ty.str zd x_0.1)
  let zr:=fun (x_0:Nat × (List (List UInt8) × List Int × List (List UInt8 × Int × Bool × Unit) × List (Int × Int × Int × List UInt8 × Bool × Unit) × Unit) × Bool)=>(zq x_0).1.2.2.2.1
  let zs:=(za,bp.no (4:Int))=zb
  ((List.length s<=aI)->(((decide ((↑(List.length s):Int) > (1200:Int)))=true->((za,bp.no (2:Int))=zb))/\((decide ((↑(List.length s):Int) > (1200:Int)))=false->(True)/\(List.length zc < (4294967281:Nat)/\List.length [(10:UInt8)]=(1:Nat))/\((List.length zd<=aI)->(((ze/\zf/\zg/\zh/\∃(x':zj),ey zd (Prod.fst x') (Prod.snd x').1 (Prod.snd x').2/\True/\((0:Int)=(↑(Prod.fst x'):Int)/\True)/\zk/\zm/\((),[],[],[],[],(false,()),())=AJ (Prod.snd x')))/\((∀x_0:Nat × (List (List UInt8) × List Int × List (List UInt8 × Int × Bool × Unit) × List (Int × Int × Int × List UInt8 × Bool × Unit) × Unit) × Bool,((ey zd x_0.1 x_0.2.1 x_0.2.2)->(((decide (zn x_0))=true->((0:Int)<=(↑x_0.1:Int)/\zn x_0)/\(x_0.2.1.1=x_0.2.1.1)/\(x_0.2.1.2.1=x_0.2.1.2.1)/\(zo x_0=zo x_0)/\(zp x_0=zp x_0)/\(List.length (nth Ty.str zd x_0.1)<=(1000000:Nat)/\List.length x_0.2.1.1<=(1000000:Nat)/\List.length x_0.2.1.2.1<=(1000000:Nat)/\List.length (zo x_0)<=(1000000:Nat)/\List.length (zp x_0)<=(1000000:Nat))/\((True)->((aY (↑x_0.1:Int))->((aY (1:Int))->(aY ((↑x_0.1:Int) + (1:Int)))/\((zq x_0).1.1=(zq x_0).1.1/\(zq x_0).1.2.1=(zq x_0).1.2.1/\(zq x_0).1.2.2.1=(zq x_0).1.2.2.1/\zr x_0=zr x_0/\∃(x':zj),ey zd (Prod.fst x') (Prod.snd x').1 (Prod.snd x').2/\List.length zd - Prod.fst x' < List.length zd - x_0.1/\((↑x_0.1:Int) + (1:Int)=(↑(Prod.fst x'):Int)/\True)/\zk/\zm/\((),(zq x_0).1.1,(zq x_0).1.2.1,(zq x_0).1.2.2.1,zr x_0,((zq x_0).2,()),())=AJ (Prod.snd x'))))))/\((decide (zn x_0))=false->(True)/\(((x_0.2.2)=true->(zs))/\((x_0.2.2)=false->(((!bp.isNil (dJ x_0.2.1).2)=true->(zs))/\((!bp.isNil (dJ x_0.2.1).2)=false->(((!(dJ x_0.2.1).1 == s)=true->(zs))/\((!(dJ x_0.2.1).1 == s)=false->((x_0.2.1,bp.nil)=zb)))))))))))))))))) (by kernel_rfl) ?_
 dsimp -iota -proj -eta only
 refine fun h0=>iL (fun h1=>(yM (by omega))) (fun h1=>⟨trivial,(by have:=CV s [10];exact ⟨by omega,rfl⟩),fun h2=>⟨(⟨rfl,rfl,rfl,rfl,(0,bw aB,false),ey.zero _,trivial,⟨rfl,trivial⟩,⟨⟨rfl,rfl,rfl,rfl,trivial⟩,rfl,rfl,rfl,rfl,trivial⟩,rfl,rfl⟩),fun x_0 q_0=>iL (fun h3=>⟨(by omega),rfl,rfl,rfl,rfl,?a,fun h4 h5 h6=>⟨(by simp only [aY,aI] at *;omega),(by exact ⟨rfl,rfl,rfl,rfl,(x_0.1 + 1,cq x_0.2.1 x_0.2.2 (nth .str (parts 10 (Lib.trimSuffix s [10])) x_0.1)),q_0.next (by omega),by simp only;omega,⟨by simp only;omega,trivial⟩,(by trivial),rfl,rfl⟩)⟩⟩) (fun h3=>⟨trivial,⟨fun h4=>(og q_0 (by omega) (by omega) (.inl h4)),fun h4=>iB (fun h5=>(og q_0 (by omega) (by omega) (.inr (.inl h5)))) (fun h5=>⟨fun h6 => ?b,fun h6 => ?c⟩)⟩⟩)⟩⟩)
 case a=>
  have hf:=AL s (by omega);have a0:=q_0.le;have a1:=q_0.l1;have a2:=q_0.l2;have a3:=q_0.l3;have a4:=q_0.l4
  exact ⟨Nat.le_trans (yN (by omega) _) (by decide),by omega,by omega,by omega,by omega⟩
 case b=>
  simp only [bl,reduceCtorEq] at h6
  exact og q_0 (by omega) (by omega) (.inr (.inr h6))
 case c=>
  simp only [bl,reduceCtorEq] at h6
  exact BX (by omega) ‹bp.isNil _=true› h6
theorem Tryd.tc:bU Tryd.prog Tryd.B.eT Tryd.X 5 [.str] [aB, .err] (fun _=>True) (fun x y=>y=(fun s=>fA s) x):=
 cM (X:=Tryd.X) Tryd.zD Tryd.func5 (by kernel_rfl) (fun x=>vO x) (fun x hw hp=>A8 x hw)
end Go.Proofs.YtgokjhhcfemnhacDoor

namespace Go.Proofs.YtgokjhhcfemnhacDoor
open Go.Vg Go.Mrl
noncomputable def Tryd.A9:List (FuncId × (Bool × bB)):=[(15,(false,bZ Tryd.aV [.obj 0, .d .str] (fun _ _=>True) Tryd.jv)),
 (5,(true,aZ [.str] [aB, .err] (fun _=>True) (fun s=>fA s))),
 (27,(true,aZ [.slice .str, .str] [.bool] (fun _=>True) (fun x=>x.1.any (· == x.2))))]
theorem Tryd.Cd:bW Tryd.prog Tryd.B Tryd.X Tryd.A9:=
 bj (Tryd.p0) (bj (aK Tryd.tc) (bj (aK Tryd.ot) (cU Tryd.cX)))
def Tryd.Ba (s:List UInt8) (f:cn):cA:=[
 (0,fun st=>{X:=Nat × List (List UInt8) × List (D aB),inv:=fun y=>ei (bI f) s y.1 y.2.1 y.2.2,bF:=fun y=>7 - y.1,bg:=fun y=>[(9,sI y.1),(7, .s (.one (.app .str y.2.1 (dj st 7)))),(8, .s (.one (.app aB y.2.2 (dj st 8))))],aC:=fun y=>[(dj st 7, .tok .str y.2.1),(dj st 8, .tok aB y.2.2)],bf:=[0],iz:=[dj st 7,dj st 8]}),
 (2,fun st=>{X:=Nat,inv:=fun k=>k<=List.length (b7 (.slice .str) st 50),bF:=fun k=>List.length (b7 (.slice .str) st 50) - k,bg:=fun k=>[(52,sI k),(7, .s (.one (.app .str (ck (b7 (.slice .str) st 7) (List.take k (b7 (.slice .str) st 50))) (dj st 7))))],aC:=fun k=>[(dj st 7, .tok .str (ck (b7 (.slice .str) st 7) (List.take k (b7 (.slice .str) st 50))))],bf:=[0,4,5,6,8,9,10,12,13,18,19,20,21,24,25,26,27,28,29,30,31,32,33,34,35,36,37,38,39,40,41,42,43,44,45,46,47,48,49,50,51],iz:=[dj st 7]})]
noncomputable def Tryd.rP:List (Alt Tryd.aV [.obj 0, .d .str]):=[{bd:=Tryd.aV,res:=[.d (.slice .str), .d (.slice aB), .d .err],out:=fun _ x=>x,ret:=fun a x=>((bD (bI x) a.1).1,(bD (bI x) a.1).2.1,aW (bD (bI x) a.1).2.2,())}]
theorem wR (s:List UInt8) (f:cn) (hw:kQ [.obj 0, .d .str] (s,())) (hp:(fun _ x=>x.2.1.1.length<=6) (s,()) f):(fv (qN Tryd.B [17]) Tryd.A9 Tryd.f11 (Tryd.Ba s f) Tryd.aV [.obj 0, .d .str] Tryd.rP (s,()) f).holds:=by
 refine holds_of (p:=
  let za:=List UInt8
  let zb:=Nat × List za × List (List za × List Int × List (za × Int × Bool × Unit) × List (Int × Int × Int × za × Bool × Unit) × Unit)
  let zc:=bI f
  let zd:=fun (x_0:Nat × List (List UInt8) × List (List (List UInt8) × List Int × List (List UInt8 × Int × Bool × Unit) × List (Int × Int × Int × List UInt8 × Bool × Unit) × Unit))=>(↑x_0.1:Int) < (↑(List.length x_0.2.1):Int)
  let ze:=fun (x_0:Nat × List (List UInt8) × List (List (List UInt8) × List Int × List (List UInt8 × Int × Bool × Unit) × List (Int × Int × Int × List UInt8 × Bool × Unit) × Unit))=>bI f (nth Ty.str x_0.2.1 x_0.1)
  let zf:=bD zc s
  let zg:=(zf.1,zf.2.1,aW zf.2.2,())
  let zh:=fun (x_0:Nat × List (List UInt8) × List (List (List UInt8) × List Int × List (List UInt8 × Int × Bool × Unit) × List (Int × Int × Int × List UInt8 × Bool × Unit) × Unit))=>(bG (ze x_0).1).1.1
  let zi:=fun (x_0:Nat × List (List UInt8) × List (List (List UInt8) × List Int × List (List UInt8 × Int × Bool × Unit) × List (Int × Int × Int × List UInt8 × Bool × Unit) × Unit))=>List.length (zh x_0)
  let zj:=fun (x_0:Nat × List (List UInt8) × List (List (List UInt8) × List Int × List (List UInt8 × Int × Bool × Unit) × List (Int × Int × Int × List UInt8 × Bool × Unit) × Unit)) (x_1:Nat)=>ck x_0.2.1 (List.take x_1 (zh x_0))
  let zk:=aY (1:Int)
  let zl:=fun (x_1:Nat)=>(↑x_1:Int) + (1:Int)
  let zm:=@List.nil (List UInt8) = @List.nil (List UInt8)
  let zn:=C.bX (1:Nat)=C.bX (1:Nat)/\f.1.1=f.1.1/\True
  let zo:=f.2.1=f.2.1
  let zp:=fun (x_0:Nat × List (List UInt8) × List (List (List UInt8) × List Int × List (List UInt8 × Int × Bool × Unit) × List (Int × Int × Int × List UInt8 × Bool × Unit) × Unit))=>x_0.2.2++[(bG (ze x_0).1).1]
  let zq:=@List.nil (List (List UInt8) × List Int × List (List UInt8 × Int × Bool × Unit) × List (Int × Int × Int × List UInt8 × Bool × Unit) × Unit) = @List.nil (List (List UInt8) × List Int × List (List UInt8 × Int × Bool × Unit) × List (Int × Int × Int × List UInt8 × Bool × Unit) × Unit)
  let zr:=fun (x_0:Nat × List (List UInt8) × List (List (List UInt8) × List Int × List (List UInt8 × Int × Bool × Unit) × List (Int × Int × Int × List UInt8 × Bool × Unit) × Unit))=>(zh x_0=zh x_0/\(bG (ze x_0).1).1.2.1=(bG (ze x_0).1).1.2.1/\(bG (ze x_0).1).1.2.2.1=(bG (ze x_0).1).1.2.2.1/\(bG (ze x_0).1).1.2.2.2.1=(bG (ze x_0).1).1.2.2.2.1/\True)/\@List.nil (Int × Int × Int × List UInt8 × Bool × Unit) = @List.nil (Int × Int × Int × List UInt8 × Bool × Unit)/\@List.nil (List UInt8 × Int × Bool × Unit) = @List.nil (List UInt8 × Int × Bool × Unit)/\@List.nil Int = @List.nil Int/\zm/\zn/\zo/\zp x_0=zp x_0/\zq/\zm/\True
  (∃(x:zb),ei zc s (Prod.fst x) (Prod.snd x).1 (Prod.snd x).2/\((0:Int)=(↑(Prod.fst x):Int)/\[s]=(Prod.snd x).1/\@List.nil (List (List UInt8) × List Int × List (List UInt8 × Int × Bool × Unit) × List (Int × Int × Int × List UInt8 × Bool × Unit) × Unit)=(Prod.snd x).2/\True)/\[s]=(Prod.snd x).1/\@List.nil (List (List UInt8) × List Int × List (List UInt8 × Int × Bool × Unit) × List (Int × Int × Int × List UInt8 × Bool × Unit) × Unit)=(Prod.snd x).2/\True)/\(∀x_0:Nat × List (List UInt8) × List (List (List UInt8) × List Int × List (List UInt8 × Int × Bool × Unit) × List (Int × Int × Int × List UInt8 × Bool × Unit) × Unit),((ei zc s x_0.1 x_0.2.1 x_0.2.2)->((List.length x_0.2.1<=aI)->(((decide (zd x_0))=true->((0:Int)<=(↑x_0.1:Int)/\zd x_0)/\(True)/\((True)->(((!bp.isNil (aW (ze x_0).2.2))=true->(True/\f=f/\([],[],aW (ze x_0).2.2,())=zg))/\((!bp.isNil (aW (ze x_0).2.2))=false->(True)/\(((!bp.isNil (aW (bG (ze x_0).1).2))=true->(True/\f=f/\([],[],aW (bG (ze x_0).1).2,())=zg))/\((!bp.isNil (aW (bG (ze x_0).1).2))=false->(x_0.2.2=x_0.2.2/\List.length x_0.2.2 + List.length [(bG (ze x_0).1).1]<=(1000000000:Nat))/\((zi x_0<=aI)->(∃(x:Nat),x<=zi x_0/\((0:Int)=(↑x:Int)/\x_0.2.1=ck x_0.2.1 (List.take x (zh x_0))/\True)/\x_0.2.1=ck x_0.2.1 (List.take x (zh x_0))/\True)/\(∀x_1:Nat,((x_1<=zi x_0)->(((decide ((↑x_1:Int) < (↑(zi x_0):Int)))=true->((0:Int)<=(↑x_1:Int)/\(↑x_1:Int) < (↑(zi x_0):Int))/\(True)/\(((!List.any (zj x_0 x_1) fun (x:za)=>x == nth Ty.str (zh x_0) x_1)=true->(zj x_0 x_1=zj x_0 x_1/\List.length (zj x_0 x_1) + List.length [nth Ty.str (zh x_0) x_1]<=(1000000000:Nat))/\((aY (↑x_1:Int))->((zk)->(aY (zl x_1))/\(∃(x':Nat),x'<=zi x_0/\zi x_0 - x' < zi x_0 - x_1/\(zl x_1=(↑x':Int)/\zj x_0 x_1++[nth Ty.str (zh x_0) x_1]=ck x_0.2.1 (List.take x' (zh x_0))/\True)/\zj x_0 x_1++[nth Ty.str (zh x_0) x_1]=ck x_0.2.1 (List.take x' (zh x_0))/\zr x_0))))/\((!List.any (zj x_0 x_1) fun (x:za)=>x == nth Ty.str (zh x_0) x_1)=false->((aY (↑x_1:Int))->((zk)->(aY (zl x_1))/\(∃(x':Nat),x'<=zi x_0/\zi x_0 - x' < zi x_0 - x_1/\(zl x_1=(↑x':Int)/\zj x_0 x_1=ck x_0.2.1 (List.take x' (zh x_0))/\True)/\zj x_0 x_1=ck x_0.2.1 (List.take x' (zh x_0))/\zr x_0))))))/\((decide ((↑x_1:Int) < (↑(zi x_0):Int)))=false->((aY (↑x_0.1:Int))->((zk)->(aY ((↑x_0.1:Int) + (1:Int)))/\(∃(x':zb),ei zc s (Prod.fst x') (Prod.snd x').1 (Prod.snd x').2/\(7:Nat) - Prod.fst x' < (7:Nat) - x_0.1/\((↑x_0.1:Int) + (1:Int)=(↑(Prod.fst x'):Int)/\zj x_0 x_1=(Prod.snd x').1/\zp x_0=(Prod.snd x').2/\True)/\zj x_0 x_1=(Prod.snd x').1/\zp x_0=(Prod.snd x').2/\zq/\zm/\zn/\zo/\True))))))))))))))/\((decide (zd x_0))=false->(True/\f=f/\(x_0.2.1,x_0.2.2,bp.nil,())=zg))))))) (by kernel_rfl) ?_
 dsimp -iota -proj -eta only
 refine ⟨(⟨(0,[s],[]),ei.zero _ _,⟨rfl,rfl,rfl,trivial⟩,(by trivial)⟩),fun x_0 q_0 h0=>iL (fun h1=>⟨?a,trivial,fun h2=>iB (fun h3=>(by rw [q_0.BY (jt hp) (by omega) (fun e=>by rw [aR.2 e] at h3;cases h3)];exact ⟨trivial,rfl,rfl⟩)) (fun h3=>⟨trivial,iB (fun h4=>(by rw [q_0.CW (by omega) (aR.1 h3) (fun e=>by rw [aR.2 e] at h4;cases h4)];exact ⟨trivial,rfl,rfl⟩)) (fun h4=>⟨⟨rfl,q_0.D7⟩,fun h5=>⟨(⟨0,Nat.zero_le _,⟨rfl,rfl,trivial⟩,rfl,trivial⟩),fun x_1 q_1=>iL (fun h6=>⟨?b,trivial,iB (fun h7=>⟨⟨rfl,q_0.DJ (jt hp) (rN (aR.1 h3) (aR.1 h4)) _⟩,fun h8 h9=>⟨?c,(⟨x_1 + 1,by omega,by omega,⟨by omega,xw (by omega) (by assumption),trivial⟩,xw (by omega) (by assumption),(by trivial)⟩)⟩⟩) (fun h7 h8 h9=>⟨?d,(⟨x_1 + 1,by omega,by omega,⟨by omega,xx (by omega) (by assumption),trivial⟩,xx (by omega) (by assumption),(by trivial)⟩)⟩)⟩) (fun h6 h7 h8=>⟨?e,(by exact ⟨(x_0.1 + 1,_,_),q_0.next (jt hp) (by omega) (rN (aR.1 h3) (aR.1 h4)),by have:=q_0.room (jt hp) (by omega) (rN (aR.1 h3) (aR.1 h4));simp only;omega,⟨by simp only;omega,xy (by omega),rfl,trivial⟩,xy (by omega),rfl,(by trivial)⟩)⟩)⟩⟩)⟩)⟩) (fun h1=>(by rw [q_0.done (by omega)];exact ⟨trivial,rfl,rfl⟩))⟩
 case a|b=>omega
 case c|d|e=>simp only [aY,aI] at *;omega
theorem Tryd.wS:cz Tryd.prog Tryd.B.eT Tryd.X 11 false (bZ Tryd.aV [.obj 0, .d .str] (fun _ x=>x.2.1.1.length<=6) Tryd.rP):=
 cO (B:=(qN Tryd.B [17])) (X:=Tryd.X) (bW.hint (l:=[17]) Tryd.Cd) Tryd.func11 (by kernel_rfl) (fun (a:CD [.obj 0, .d .str]) (x:PD Tryd.aV)=>Tryd.Ba a.1 x) (fun (a:CD [.obj 0, .d .str]) (x:PD Tryd.aV) hw hp=>wR a.1 x hw hp)
end Go.Proofs.YtgokjhhcfemnhacDoor

namespace Go.Proofs.YtgokjhhcfemnhacDoor
open Go.Vg Go.Mrl
def vP (a:List Int) (b:List Int):cA:=[(0,fun st=>{X:=Nat,inv:=fun i=>i<=a.length/\∀j,j < i->nth (.int .i64) a j=nth (.int .i64) b j,bF:=fun i=>a.length - i,bg:=fun i=>[(5,sI i)],bf:=[0,1]})]
theorem rQ (a:List Int) (b:List Int) (hw:gL [.slice (.int .i64), .slice (.int .i64)] (a,b)):(dW Tryd.B [] Tryd.f25 (vP a b) [.slice (.int .i64), .slice (.int .i64)] [.bool] (fun x y=>y=(fun x=>eN x.1 x.2) x) (a,b)).holds:=by
 refine holds_of (p:=
  let za:=List.length a
  let zb:=(↑(List.length b):Int)
  let zc:=false=eN a b
  let zd:=Ty.int IntKind.i64
  ((za<=aI)->((List.length b<=aI)->((((↑za:Int) != zb)=true->(zc))/\(((↑za:Int) != zb)=false->(∃(x:Nat),(x<=za/\∀(j:Nat),j < x->nth zd a j=nth zd b j)/\((0:Int)=(↑x:Int)/\True)/\True)/\(∀x_0:Nat,((x_0<=za/\∀(j:Nat),j < x_0->nth zd a j=nth zd b j)->((za<=aI)->(((decide ((↑x_0:Int) < (↑za:Int)))=true->((0:Int)<=(↑x_0:Int)/\(↑x_0:Int) < (↑za:Int))/\((0:Int)<=(↑x_0:Int)/\(↑x_0:Int) < zb)/\(((nth zd a x_0 != nth zd b x_0)=true->(zc))/\((nth zd a x_0 != nth zd b x_0)=false->((aY (↑x_0:Int))->((aY (1:Int))->(aY ((↑x_0:Int) + (1:Int)))/\(∃(x':Nat),(x'<=za/\∀(j:Nat),j < x'->nth zd a j=nth zd b j)/\za - x' < za - x_0/\((↑x_0:Int) + (1:Int)=(↑x':Int)/\True)/\True))))))/\((decide ((↑x_0:Int) < (↑za:Int)))=false->(true=eN a b))))))))))) (by kernel_rfl) ?_
 dsimp -iota -proj -eta only
 refine fun h0 h1=>iN (fun h2=>(Ao (by assumption))) (fun h2=>⟨(⟨0,⟨by omega,fun j hj=>by omega⟩,⟨rfl,trivial⟩,trivial⟩),fun x_0 q_0 h3=>iL (fun h4=>⟨?a,?b,iN (fun h5=>(BM (i:=x_0) (by assumption))) (fun h5 h6 h7=>⟨(by simp only [aY,aI] at *;omega),(⟨x_0 + 1,⟨by omega,su q_0.2 (by assumption)⟩,by omega,⟨by omega,trivial⟩,(by trivial)⟩)⟩)⟩) (fun h4=>(yq (by assumption) (fun i hi=>q_0.2 i (by omega))))⟩)
 case a|b=>omega
theorem Tryd.rR:bU Tryd.prog Tryd.B.eT Tryd.X 25 [.slice (.int .i64), .slice (.int .i64)] [.bool] (fun _=>True) (fun x y=>y=(fun x=>eN x.1 x.2) x):=
 cM (X:=Tryd.X) (cU Tryd.cX) Tryd.func25 (by kernel_rfl) (fun x=>vP x.1 x.2) (fun x hw hp=>rQ x.1 x.2 hw)
def vQ (a:List (List UInt8)) (b:List (List UInt8)):cA:=[(0,fun st=>{X:=Nat,inv:=fun i=>i<=a.length/\∀j,j < i->nth .str a j=nth .str b j,bF:=fun i=>a.length - i,bg:=fun i=>[(5,sI i)],bf:=[0,1]})]
theorem vR (a:List (List UInt8)) (b:List (List UInt8)) (hw:gL [.slice .str, .slice .str] (a,b)):(dW Tryd.B [] Tryd.f12 (vQ a b) [.slice .str, .slice .str] [.bool] (fun x y=>y=(fun x=>dw x.1 x.2) x) (a,b)).holds:=by
 refine holds_of (p:=
  let za:=List.length a
  let zb:=(↑(List.length b):Int)
  let zc:=false=dw a b
  ((za<=aI)->((List.length b<=aI)->((((↑za:Int) != zb)=true->(zc))/\(((↑za:Int) != zb)=false->(∃(x:Nat),(x<=za/\∀(j:Nat),j < x->nth Ty.str a j=nth Ty.str b j)/\((0:Int)=(↑x:Int)/\True)/\True)/\(∀x_0:Nat,((x_0<=za/\∀(j:Nat),j < x_0->nth Ty.str a j=nth Ty.str b j)->((za<=aI)->(((decide ((↑x_0:Int) < (↑za:Int)))=true->((0:Int)<=(↑x_0:Int)/\(↑x_0:Int) < (↑za:Int))/\((0:Int)<=(↑x_0:Int)/\(↑x_0:Int) < zb)/\(((!nth Ty.str a x_0 == nth Ty.str b x_0)=true->(zc))/\((!nth Ty.str a x_0 == nth Ty.str b x_0)=false->((aY (↑x_0:Int))->((aY (1:Int))->(aY ((↑x_0:Int) + (1:Int)))/\(∃(x':Nat),(x'<=za/\∀(j:Nat),j < x'->nth Ty.str a j=nth Ty.str b j)/\za - x' < za - x_0/\((↑x_0:Int) + (1:Int)=(↑x':Int)/\True)/\True))))))/\((decide ((↑x_0:Int) < (↑za:Int)))=false->(true=dw a b))))))))))) (by kernel_rfl) ?_
 dsimp -iota -proj -eta only
 refine fun h0 h1=>iN (fun h2=>(Ap (by assumption))) (fun h2=>⟨(⟨0,⟨by omega,fun j hj=>by omega⟩,⟨rfl,trivial⟩,trivial⟩),fun x_0 q_0 h3=>iL (fun h4=>⟨?a,?b,⟨fun h5 => ?c,fun h5 h6 h7=>⟨?d,?e⟩⟩⟩) (fun h4=>(yr (by assumption) (fun i hi=>q_0.2 i (by omega))))⟩)
 case a|b=>omega
 case c=>
  simp only [bl,reduceCtorEq] at h5
  exact BN (i:=x_0) (by assumption)
 case d=>
  simp only [bl,reduceCtorEq] at h5
  simp only [aY,aI] at *;omega
 case e=>
  simp only [bl,reduceCtorEq] at h5
  exact ⟨x_0 + 1,⟨by omega,su q_0.2 (by assumption)⟩,by omega,⟨by omega,trivial⟩,(by trivial)⟩
theorem Tryd.ou:bU Tryd.prog Tryd.B.eT Tryd.X 12 [.slice .str, .slice .str] [.bool] (fun _=>True) (fun x y=>y=(fun x=>dw x.1 x.2) x):=
 cM (X:=Tryd.X) (cU Tryd.cX) Tryd.func12 (by kernel_rfl) (fun x=>vQ x.1 x.2) (fun x hw hp=>vR x.1 x.2 hw)
end Go.Proofs.YtgokjhhcfemnhacDoor

namespace Go.Proofs.YtgokjhhcfemnhacDoor
open Go.Vg Go.Mrl
noncomputable def Tryd.vS:List (FuncId × (Bool × bB)):=[(25,(true,aZ [.slice (.int .i64), .slice (.int .i64)] [.bool] (fun _=>True) (fun x=>eN x.1 x.2))),
 (12,(true,aZ [.slice .str, .slice .str] [.bool] (fun _=>True) (fun x=>dw x.1 x.2)))]
theorem Tryd.zE:bW Tryd.prog Tryd.B Tryd.X Tryd.vS:=
 bj (aK Tryd.rR) (bj (aK Tryd.ou) (cU Tryd.cX))
def vT (a:D aB) (b:D aB):cA:=[
 (0,fun st=>{X:=Nat,inv:=fun i=>i<=a.2.2.1.length/\∀j,j < i->nth aF a.2.2.1 j=nth aF b.2.2.1 j,bF:=fun i=>a.2.2.1.length - i,bg:=fun i=>[(7,sI i)],bf:=[2,3]}),
 (2,fun st=>{X:=Nat,inv:=fun i=>i<=a.2.2.2.1.length/\∀j,j < i->nth aN a.2.2.2.1 j=nth aN b.2.2.2.1 j,bF:=fun i=>a.2.2.2.1.length - i,bg:=fun i=>[(8,sI i)],bf:=[2,3]})]
theorem tz (a:D aB) (b:D aB) (hw:gL [aB,aB] (a,b)):(dW Tryd.B Tryd.vS Tryd.f8 (vT a b) [aB,aB] [.bool] (fun x y=>y=(fun x=>dL x.1 x.2) x) (a,b)).holds:=by
 refine holds_of (p:=
  let za:=false=dL a b
  let zb:=a.2.2.1
  let zc:=List.length zb
  let zd:=b.2.2.1
  let ze:=(↑(List.length zd):Int)
  let zf:=a.2.2.2.1
  let zg:=List.length zf
  let zh:=b.2.2.2.1
  let zi:=(↑(List.length zh):Int)
  let zj:=fun (x_0:Nat)=>(↑x_0:Int)
  let zk:=fun (x_0:Nat)=>(0:Int)<=zj x_0
  let zl:=(b.1=b.1/\b.2.1=b.2.1/\zd=zd/\zh=zh/\True)/\(a.1=a.1/\a.2.1=a.2.1/\zb=zb/\zf=zf/\True)/\True
  (True)/\(True)/\(((!dw a.1 b.1)=true->(za))/\((!dw a.1 b.1)=false->(((!eN a.2.1 b.2.1)=true->(za))/\((!eN a.2.1 b.2.1)=false->((zc<=aI)->((List.length zd<=aI)->((((↑zc:Int) != ze)=true->(za))/\(((↑zc:Int) != ze)=false->((zg<=aI)->((List.length zh<=aI)->((((↑zg:Int) != zi)=true->(za))/\(((↑zg:Int) != zi)=false->(∃(x:Nat),(x<=zc/\∀(j:Nat),j < x->nth aF zb j=nth aF zd j)/\((0:Int)=(↑x:Int)/\True)/\True)/\(∀x_0:Nat,((x_0<=zc/\∀(j:Nat),j < x_0->nth aF zb j=nth aF zd j)->((zc<=aI)->(((decide (zj x_0 < (↑zc:Int)))=true->(zk x_0/\zj x_0 < (↑zc:Int))/\(zk x_0/\zj x_0 < ze)/\(((!((nth aF zb x_0).1 == (nth aF zd x_0).1 && (decide ((nth aF zb x_0).2.1=(nth aF zd x_0).2.1) && ((nth aF zb x_0).2.2.1 == (nth aF zd x_0).2.2.1 && true))))=true->(za))/\((!((nth aF zb x_0).1 == (nth aF zd x_0).1 && (decide ((nth aF zb x_0).2.1=(nth aF zd x_0).2.1) && ((nth aF zb x_0).2.2.1 == (nth aF zd x_0).2.2.1 && true))))=false->((aY (zj x_0))->((aY (1:Int))->(aY (zj x_0 + (1:Int)))/\(∃(x':Nat),(x'<=zc/\∀(j:Nat),j < x'->nth aF zb j=nth aF zd j)/\zc - x' < zc - x_0/\(zj x_0 + (1:Int)=(↑x':Int)/\True)/\zl))))))/\((decide (zj x_0 < (↑zc:Int)))=false->(∃(x:Nat),(x<=zg/\∀(j:Nat),j < x->nth aN zf j=nth aN zh j)/\((0:Int)=(↑x:Int)/\True)/\True)/\(∀x_1:Nat,((x_1<=zg/\∀(j:Nat),j < x_1->nth aN zf j=nth aN zh j)->((zg<=aI)->(((decide (zj x_1 < (↑zg:Int)))=true->(zk x_1/\zj x_1 < (↑zg:Int))/\(zk x_1/\zj x_1 < zi)/\(((!(decide ((nth aN zf x_1).1=(nth aN zh x_1).1) && (decide ((nth aN zf x_1).2.1=(nth aN zh x_1).2.1) && (decide ((nth aN zf x_1).2.2.1=(nth aN zh x_1).2.2.1) && ((nth aN zf x_1).2.2.2.1 == (nth aN zh x_1).2.2.2.1 && ((nth aN zf x_1).2.2.2.2.1 == (nth aN zh x_1).2.2.2.2.1 && true))))))=true->(za))/\((!(decide ((nth aN zf x_1).1=(nth aN zh x_1).1) && (decide ((nth aN zf x_1).2.1=(nth aN zh x_1).2.1) && (decide ((nth aN zf x_1).2.2.1=(nth aN zh x_1).2.2.1) && ((nth aN zf x_1).2.2.2.1 == (nth aN zh x_1).2.2.2.1 && ((nth aN zf x_1).2.2.2.2.1 == (nth aN zh x_1).2.2.2.2.1 && true))))))=false->((aY (zj x_1))->((aY (1:Int))->(aY (zj x_1 + (1:Int)))/\(∃(x':Nat),(x'<=zg/\∀(j:Nat),j < x'->nth aN zf j=nth aN zh j)/\zg - x' < zg - x_1/\(zj x_1 + (1:Int)=(↑x':Int)/\True)/\zl))))))/\((decide (zj x_1 < (↑zg:Int)))=false->(true=dL a b)))))))))))))))))))))))) (by kernel_rfl) ?_
 dsimp -iota -proj -eta only
 refine ⟨trivial,trivial,iB (fun h0=>(CX (by assumption))) (fun h0=>iB (fun h1=>(CY (by assumption))) (fun h1 h2 h3=>iN (fun h4=>(BZ h4)) (fun h4 h5 h6=>iN (fun h7=>(B0 h7)) (fun h7=>⟨?a,fun x_0 q_0 h8=>iL (fun h9=>⟨?b,?c,⟨fun h10 => ?d,fun h10 h11 h12=>⟨?e,?f⟩⟩⟩) (fun h9=>⟨?g,fun x_1 q_1 h10=>iL (fun h11=>⟨?h,?i,⟨fun h12 => ?j,fun h12 h13 h14=>⟨?k,?l⟩⟩⟩) (fun h11=>(yP (by assumption) (by assumption) (by assumption) (by assumption) (fun i hi=>q_0.2 i (by omega)) (fun i hi=>q_1.2 i (by omega))))⟩)⟩))))⟩
 case a|g=>exact ⟨0,⟨by omega,fun j hj=>by omega⟩,⟨rfl,trivial⟩,trivial⟩
 case b|c|h|i=>omega
 case d=>
  simp only [bl,reduceCtorEq] at h10
  exact CZ (i:=x_0) (fun e=>by rw [e] at h10;simp at h10)
 case e=>
  simp only [bl,reduceCtorEq] at h10
  simp only [aY,aI] at *;omega
 case f=>
  simp only [bl,reduceCtorEq] at h10
  have h:=h10;simp at h;exact ⟨x_0 + 1,⟨by omega,oJ q_0.2 (Prod.ext h.1 (Prod.ext h.2.1 (Prod.ext h.2.2 rfl)))⟩,by omega,⟨by omega,trivial⟩,(by trivial)⟩
 case j=>
  simp only [bl,reduceCtorEq] at h12
  exact C0 (i:=x_1) (fun e=>by rw [e] at h12;simp at h12)
 case k=>
  simp only [bl,reduceCtorEq] at h12
  simp only [aY,aI] at *;omega
 case l=>
  simp only [bl,reduceCtorEq] at h12
  have h:=h12;simp at h;exact ⟨x_1 + 1,⟨by omega,oJ q_1.2 (Prod.ext h.1 (Prod.ext h.2.1 (Prod.ext h.2.2.1 (Prod.ext h.2.2.2.1 (Prod.ext h.2.2.2.2 rfl)))))⟩,by omega,⟨by omega,trivial⟩,(by trivial)⟩
theorem Tryd.tA:bU Tryd.prog Tryd.B.eT Tryd.X 8 [aB,aB] [.bool] (fun _=>True) (fun x y=>y=(fun x=>dL x.1 x.2) x):=
 cM (X:=Tryd.X) Tryd.zE Tryd.func8 (by kernel_rfl) (fun x=>vT x.1 x.2) (fun x hw hp=>tz x.1 x.2 hw)
end Go.Proofs.YtgokjhhcfemnhacDoor

