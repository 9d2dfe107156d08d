/- A part of the proof that the law TopLineCard holds of the given program: facts that are used there. -/
import Derived.Test.YtgokjhhcfemnhabDoorPart2
import Derived.Test.YtgokjhhcfemnhabDoorChecked
import Derived.Lib.LaidTab
import Derived.Lib.ItoaNum
import Derived.Shelf.Strconv.Itoa3
import Derived.Shelf.Strconv.AtoiAll
import Derived.Shelf.Strings.Split
import Derived.Shelf.Small.Wraps
import Derived.Shelf.Strings.Prefix
import Derived.Shelf.LaysM
import Derived.Shelf.LaysC
import Derived.Sort.Grow
import Derived.Lib.SplitLaws
import Derived.Lib.Builder
set_option linter.unusedSimpArgs false
set_option linter.unusedVariables false
set_option maxRecDepth 100000
set_option maxHeartbeats 4000000
namespace Go.Proofs.YtgokjhhcfemnhabDoor
open Go.Vg
noncomputable def Tryd.B:Cx:={eT:=43,τ:=[(2,(.int .i64)),(3,(.int .i64)),(4, .bool),(5,(.int .u8)),(7,(.prod (.int .i64) (.prod (.int .i64) (.prod .bool (.prod (.int .u8) .unit))))),(9, .str),(12,(.int .u64)),(13,(.prod .str (.prod (.int .u64) .unit))),(18,(.prod .cd .unit)),(21,(.int .i32)),(22,(.slice ae)),(23,(.slice ag)),(24,af),(25,af),(26, .err),(27, .err),(30,ae),(31,ae),(38,ag),(39,ag),(40,(.slice .str)),(43,(.int .i64)),(44,(.slice (.int .i64))),(58,(.int .u64)),(61,(.slice (.int .u8))),(68,(.int .i64)),(77,(.int .u32)),(80,(.int .u64)),(85,(.prod .str (.prod .str (.prod .err .unit)))),(86,(.prod .str (.prod .str (.prod .err .unit)))),(89,(.prod (.int .u8) (.prod (.int .u8) .unit))),(90,(.prod (.int .u8) (.prod (.int .u8) .unit))),(98,(.prod .str .unit)),(99,(.prod .str .unit))],lR:=[(57,(24,5)),(76,(20,58)),(78,(65,5)),(88,(256,5)),(91,(16,90)),(100,(32,5)),(101,(64,5)),(105,(0,16))],Γ:=[],N:=0,eqs:=[31,39],eY:=[],gf:=[],jB:=[]}
theorem Tryd.jy:TyOK Tryd.prog Tryd.B:=w9 (n:=16) (by kernel_rfl)
structure Tryd.xY (w:World):Prop where
 pow:Lib.TabIs Tryd.prog w "internal/strconv.uint64pow10" .u64 Lib.pow10Tab
 max:∃m,w.cell? ⟨1,0,none⟩=some (.int .i64 m)
 yD:∃ev,w.cell? ⟨2,0,none⟩=some ev/\(ev = .nilIface\/∃te pe,ev = .iface te pe)
 yE:∃ev,w.cell? ⟨3,0,none⟩=some ev/\(ev = .nilIface\/∃te pe,ev = .iface te pe)
theorem Tryd.xZ:Tryd.prog.globalNamed "internal/strconv.uint64pow10" = some 0:=by kernel_rfl
theorem kX {w:World} {b o:Nat} {v:Value} (h:w.cell? ⟨b,o,none⟩=some v):b < w.heap.size:=by
 unfold World.cell? at h
 by_cases hb:b < w.heap.size
 ·exact hb
 ·have h0:w.heap[b]?=none:=Array.getElem?_eq_none (by omega)
  simp [h0] at h
theorem jz {w w':World} {b o:Nat} (h:w'.heap[b]?=w.heap[b]?):w'.cell? ⟨b,o,none⟩=w.cell? ⟨b,o,none⟩:=by
 unfold World.cell?
 rw [h]
theorem vj {P:Program} {w w':World} {nm:String} {g:Nat} (hg:P.globalNamed nm=some g) (h:w'.heap[g]?=w.heap[g]?):w'.var? P nm=w.var? P nm:=by
 unfold World.var?
 rw [hg]
 simp [h]
noncomputable def Tryd.X:Ext:=
 {x9 with
  jK:=Tryd.xY
  r8:=[0,1,2,3]
  wA:=fun {w} h b hb=>by
   obtain ⟨h1,⟨m,h2⟩,⟨e3,h3,_⟩,⟨e4,h4,_⟩⟩:=h
   simp only [List.mem_cons,List.not_mem_nil,or_false] at hb
   rcases hb with rfl | rfl | rfl | rfl
   ·have h1':=World.var?_cell Tryd.xZ h1 0
    exact kX (v:=.int .u64 1) (by simpa [Lib.pow10Tab] using h1')
   ·exact kX h2
   ·exact kX h3
   ·exact kX h4
  pK:=fun {w w'} h hb=>by
   obtain ⟨h1,⟨m,h2⟩,⟨e3,h3,h5⟩,⟨e4,h4,h6⟩⟩:=h
   refine ⟨?_,⟨m,?_⟩,⟨e3,?_,h5⟩,⟨e4,?_,h6⟩⟩
   ·unfold Lib.TabIs at h1 ⊢
    rw [vj Tryd.xZ (hb 0 (by simp))];exact h1
   ·rw [jz (hb 1 (by simp))];exact h2
   ·rw [jz (hb 2 (by simp))];exact h3
   ·rw [jz (hb 3 (by simp))];exact h4}
end Go.Proofs.YtgokjhhcfemnhabDoor

namespace Go.Proofs.YtgokjhhcfemnhabDoor
open Go.Vg Go.Mrl
def q8 (s:List UInt8):da:=[(0,fun st=>{X:=Nat,inv:=fun i=>i<=s.length/\∀j,j < i->cw j (ch s j)=false,bR:=fun i=>s.length - i,bm:=fun i=>[(15, .s (.one (.d (.int .i64) i)))],ad:=fun _=>[],aV:=[0,14],cz:=[]})]
theorem wu (s:List UInt8) (hw:iv [.str] s):(fz Tryd.B [] Tryd.f14 (q8 s) [.str] [.err] (fun x y=>y=(fun s=>aQ (aj s)) x) s).holds:=by
 refine holds_of (p:=
  let za:=aQ (aj s)
  let zb:=bj.no (1:Int)=za
  let zc:=List.length s
  let zd:=fun (x_0:Nat)=>(↑(UInt8.toNat (ch s x_0)):Int)
  let ze:=bj.no (3:Int)=za
  let zf:=fun (x_0:Nat)=>((aK (↑x_0:Int))->((aK (1:Int))->(aK ((↑x_0:Int) + (1:Int)))/\(∃(x':Nat),(x'<=zc/\∀(j:Nat),j < x'->cw j (ch s j)=false)/\zc - x' < zc - x_0/\((↑x_0:Int) + (1:Int)=(↑x':Int)/\True)/\True)))
  let zg:=fun (x_0:Nat)=>(((zd x_0 != (95:Int))=true->(ze))/\((zd x_0 != (95:Int))=false->(zf x_0)))
  let zh:=fun (x_0:Nat)=>((((↑x_0:Int) == (0:Int))=true->(ze))/\(((↑x_0:Int) == (0:Int))=false->(((decide (zd x_0 < (48:Int)))=true->(zg x_0))/\((decide (zd x_0 < (48:Int)))=false->(((decide (zd x_0 > (57:Int)))=true->(zg x_0))/\((decide (zd x_0 > (57:Int)))=false->(zf x_0)))))))
  (((s == @List.nil UInt8)=true->(zb))/\((s == @List.nil UInt8)=false->((zc<=au)->(((decide ((↑zc:Int) > (8:Int)))=true->(zb))/\((decide ((↑zc:Int) > (8:Int)))=false->((zc<=au)->(∃(x:Nat),(x<=zc/\∀(j:Nat),j < x->cw j (ch s j)=false)/\((0:Int)=(↑x:Int)/\True)/\True)/\(∀x_0:Nat,((x_0<=zc/\∀(j:Nat),j < x_0->cw j (ch s j)=false)->(((decide ((↑x_0:Int) < (↑zc:Int)))=true->((0:Int)<=(↑x_0:Int)/\(↑x_0:Int) < (↑zc:Int))/\(((decide (zd x_0 < (97:Int)))=true->(zh x_0))/\((decide (zd x_0 < (97:Int)))=false->(((decide (zd x_0 > (122:Int)))=true->(zh x_0))/\((decide (zd x_0 > (122:Int)))=false->(zf x_0))))))/\((decide ((↑x_0:Int) < (↑zc:Int)))=false->(bj.nil=za)))))))))))) (by kernel_rfl) ?_
 dsimp -iota -proj -eta only
 refine iQ (fun h0 => ?a) (fun h0 h1=>iL (fun h2 => ?b) (fun h2 h3=>⟨(⟨0,⟨by omega,fun j hj=>by omega⟩,⟨rfl,trivial⟩,trivial⟩),fun x_0 q_0=>iL (fun h4=>⟨?c,iL (fun h5=>iQ (fun h6 => ?d) (fun h6=>iL (fun h7=>iN (fun h8 => ?e) (fun h8 h9 h10=>⟨?f,?g⟩)) (fun h7=>iL (fun h8=>iN (fun h9 => ?h) (fun h9 h10 h11=>⟨?i,?j⟩)) (fun h8 h9 h10=>⟨?k,?l⟩)))) (fun h5=>iL (fun h6=>iQ (fun h7 => ?m) (fun h7=>iL (fun h8=>iN (fun h9 => ?n) (fun h9 h10 h11=>⟨?o,?p⟩)) (fun h8=>iL (fun h9=>iN (fun h10 => ?q) (fun h10 h11 h12=>⟨?r,?s⟩)) (fun h9 h10 h11=>⟨?t,?u⟩)))) (fun h6 h7 h8=>⟨?v,?w⟩))⟩) (fun h4 => ?x)⟩))
 case a|b=>rw [pn (by first | omega | simp [h0])];rfl
 case c|f|o|r|t=>omega
 case d|e|h|m|n|q=>
  have hl:s.length≠0:=fun e=>h0 (List.length_eq_zero_iff.1 e)
  rw [nw (i:=x_0) (by omega) (by omega) (oT.2 (by omega))];rfl
 case g|j|l|p|s|u|w=>exact ⟨x_0 + 1,⟨by omega,wb q_0.2 (rP.2 (by omega))⟩,by omega,⟨by omega,trivial⟩,trivial⟩
 case i|k|v=>simp only [aK,au] at *;omega
 case x=>
  have hl:s.length≠0:=fun e=>h0 (List.length_eq_zero_iff.1 e)
  rw [n8 (by omega) (fun i hi=>q_0.2 i (by omega))];rfl
theorem Tryd.mr:bO Tryd.prog Tryd.B.eT Tryd.X 14 [.str] [.err] (fun _=>True) (fun x y=>y=(fun s=>aQ (aj s)) x):=
 dI (X:=Tryd.X) (jr Tryd.jy) Tryd.func14 (by kernel_rfl) (fun x=>q8 x) (fun x hw hp=>wu x hw)
noncomputable def Tryd.sN:List (FuncId × (Bool × b7)):=[(14,(true,bC [.str] [.err] (fun _=>True) (fun s=>aQ (aj s))))]
theorem Tryd.vk:df Tryd.prog Tryd.B Tryd.X Tryd.sN:=
 cL (aC Tryd.mr) (jr Tryd.jy)
end Go.Proofs.YtgokjhhcfemnhabDoor

namespace Go.Proofs.YtgokjhhcfemnhabDoor
open Go.Vg Go.Mrl
def sO (e:D af):da:=[
 (0,fun st=>{X:=Nat,inv:=fun i=>i<=List.length e.2.1/\∀j,j < i->aY (nth ae e.2.1 j)=0,bR:=fun i=>List.length e.2.1 - i,bm:=fun i=>[(34,sI i)],aV:=[1,32,33]}),
 (2,fun st=>{X:=Nat,inv:=fun i=>i<=List.length e.2.2.1/\∀j,j < i->bf e.2.1.length (nth ag e.2.2.1 j)=0,bR:=fun i=>List.length e.2.2.1 - i,bm:=fun i=>[(73,sI i)],aV:=[1,71,72]})]
theorem vm (e:D af) (hw:iv [af] e):(fz Tryd.B Tryd.sN Tryd.f8 (sO e) [af] [.err] (fun x y=>y=(fun e=>aQ (aN e)) x) e).holds:=by
 refine holds_of (p:=
  let za:=aQ (aj e.1)
  let zb:=aQ (aN e)
  let zc:=e.2.1
  let zd:=List.length zc
  let ze:=zd<=au
  let zf:=(↑zd:Int)
  let zg:=bj.no (2:Int)=zb
  let zh:=e.2.2.1
  let zi:=List.length zh
  let zj:=fun (x_0:Nat)=>aQ (aj (nth ae zc x_0).1)
  let zk:=bj.no (1:Int)=zb
  let zl:=fun (x_0:Nat)=>(nth ae zc x_0).2.2.1
  let zm:=fun (x_0:Nat)=>(↑x_0:Int) + (1:Int)
  let zn:=(e.1=e.1/\zc=zc/\zh=zh/\True)/\True
  (True)/\(((!bj.isNil za)=true->(za=zb))/\((!bj.isNil za)=false->((ze)->(((decide (zf < (1:Int)))=true->(zg))/\((decide (zf < (1:Int)))=false->((ze)->(((decide (zf > (6:Int)))=true->(zg))/\((decide (zf > (6:Int)))=false->((zi<=au)->(((decide ((↑zi:Int) > (36:Int)))=true->(zg))/\((decide ((↑zi:Int) > (36:Int)))=false->((ze)->(∃(x:Nat),(x<=zd/\∀(j:Nat),j < x->aY (nth ae zc j)=(0:Int))/\((0:Int)=(↑x:Int)/\True)/\True)/\(∀x_0:Nat,((x_0<=zd/\∀(j:Nat),j < x_0->aY (nth ae zc j)=(0:Int))->(((decide ((↑x_0:Int) < zf))=true->((0:Int)<=(↑x_0:Int)/\(↑x_0:Int) < zf)/\(True)/\(((!bj.isNil (zj x_0))=true->(zj x_0=zb))/\((!bj.isNil (zj x_0))=false->(((decide ((nth ae zc x_0).2.1 < (1:Int)))=true->(zk))/\((decide ((nth ae zc x_0).2.1 < (1:Int)))=false->(((decide ((nth ae zc x_0).2.1 > (1000000:Int)))=true->(zk))/\((decide ((nth ae zc x_0).2.1 > (1000000:Int)))=false->(((decide (zl x_0 < (0:Int)))=true->(zk))/\((decide (zl x_0 < (0:Int)))=false->(((decide (zl x_0>=(256:Int)))=true->(zk))/\((decide (zl x_0>=(256:Int)))=false->((16:Int)≠(0:Int))/\(∀x_1:Int,((x_1=Int.tmod (zl x_0) (16:Int))->(((x_1 != (0:Int))=true->(zk))/\((x_1 != (0:Int))=false->((aK (↑x_0:Int))->((aK (1:Int))->(aK (zm x_0))/\(∃(x':Nat),(x'<=zd/\∀(j:Nat),j < x'->aY (nth ae zc j)=(0:Int))/\zd - x' < zd - x_0/\(zm x_0=(↑x':Int)/\True)/\zn))))))))))))))))))/\((decide ((↑x_0:Int) < zf))=false->((zi<=au)->(∃(x:Nat),(x<=zi/\∀(j:Nat),j < x->bf zd (nth ag zh j)=(0:Int))/\((0:Int)=(↑x:Int)/\True)/\True)/\(∀x_1:Nat,((x_1<=zi/\∀(j:Nat),j < x_1->bf zd (nth ag zh j)=(0:Int))->(((decide ((↑x_1:Int) < (↑zi:Int)))=true->((0:Int)<=(↑x_1:Int)/\(↑x_1:Int) < (↑zi:Int))/\(((decide ((nth ag zh x_1).1 < (0:Int)))=true->(zk))/\((decide ((nth ag zh x_1).1 < (0:Int)))=false->((ze)->(((decide ((nth ag zh x_1).1>=zf))=true->(zk))/\((decide ((nth ag zh x_1).1>=zf))=false->(((decide ((nth ag zh x_1).2.1 < (0:Int)))=true->(zk))/\((decide ((nth ag zh x_1).2.1 < (0:Int)))=false->(((decide ((nth ag zh x_1).2.1>=(40:Int)))=true->(zk))/\((decide ((nth ag zh x_1).2.1>=(40:Int)))=false->(((decide ((nth ag zh x_1).2.2.1 < (-2147483648:Int)))=true->(zk))/\((decide ((nth ag zh x_1).2.2.1 < (-2147483648:Int)))=false->(((decide ((nth ag zh x_1).2.2.1 > (2147483647:Int)))=true->(zk))/\((decide ((nth ag zh x_1).2.2.1 > (2147483647:Int)))=false->((aK (↑x_1:Int))->((aK (1:Int))->(aK (zm x_1))/\(∃(x':Nat),(x'<=zi/\∀(j:Nat),j < x'->bf zd (nth ag zh j)=(0:Int))/\zi - x' < zi - x_1/\(zm x_1=(↑x':Int)/\True)/\zn)))))))))))))))))/\((decide ((↑x_1:Int) < (↑zi:Int)))=false->(bj.nil=zb))))))))))))))))))))))) (by kernel_rfl) ?_
 dsimp -iota -proj -eta only
 refine ⟨trivial,iB (fun h0=>(by rw [lB (oY (cU _) h0)])) (fun h0 h1=>iL (fun h2=>(by rw [fB (aT (by assumption:(aQ (aj e.1)).isNil=true)) (.inl (by omega))];rfl)) (fun h2 h3=>iL (fun h4=>(by rw [fB (aT (by assumption:(aQ (aj e.1)).isNil=true)) (.inr (.inl (by omega)))];rfl)) (fun h4 h5=>iL (fun h6=>(by rw [fB (aT (by assumption:(aQ (aj e.1)).isNil=true)) (.inr (.inr (by omega)))];rfl)) (fun h6 h7=>⟨?a,fun x_0 q_0=>iL (fun h8=>⟨?b,trivial,iB (fun h9=>(by have hp:=oY (cU _) h9;rw [(b5 (aT (by assumption:(aQ (aj e.1)).isNil=true)) (bV (by omega) (by omega) (by omega)) q_0.2 (by omega) (tE hp) (by omega))])) (fun h9=>iL (fun h10=>(by rw [(b5 (aT (by assumption:(aQ (aj e.1)).isNil=true)) (bV (by omega) (by omega) (by omega)) q_0.2 (by omega) (fH (aT h9) (.inl (by assumption))) (by decide))];rfl)) (fun h10=>iL (fun h11=>(by rw [(b5 (aT (by assumption:(aQ (aj e.1)).isNil=true)) (bV (by omega) (by omega) (by omega)) q_0.2 (by omega) (fH (aT h9) (.inr (.inl (by assumption)))) (by decide))];rfl)) (fun h11=>iL (fun h12=>(by rw [(b5 (aT (by assumption:(aQ (aj e.1)).isNil=true)) (bV (by omega) (by omega) (by omega)) q_0.2 (by omega) (fH (aT h9) (.inr (.inr (.inl (by assumption))))) (by decide))];rfl)) (fun h12=>iE (fun h13=>(by rw [(b5 (aT (by assumption:(aQ (aj e.1)).isNil=true)) (bV (by omega) (by omega) (by omega)) q_0.2 (by omega) (fH (aT h9) (.inr (.inr (.inr (.inl (by assumption)))))) (by decide))];rfl)) (fun h13=>⟨(by trivial),fun x_1 q_1=>iN (fun h14=>(by have hb:=qL h12 q_1;rw [(b5 (aT (by assumption:(aQ (aj e.1)).isNil=true)) (bV (by omega) (by omega) (by omega)) q_0.2 (by omega) (fH (aT h9) (.inr (.inr (.inr (.inr (by rw [hb] at h14;exact (Int.lt_iff_le_and_ne.2 ⟨Int.emod_nonneg _ (by decide),fun e'=>h14 e'.symm⟩))))))) (by decide))];rfl)) (fun h14 h15 h16=>⟨?c,(by have hb:=qL h12 q_1;exact ⟨x_0 + 1,⟨by omega,pG q_0.2 (wj (aT h9) h10 h11 h12 (Int.le_of_lt_add_one (show _ < (255:Int) + 1 from h13)) (hb.symm.trans h14))⟩,by omega,⟨by omega,trivial⟩,(by trivial)⟩)⟩)⟩)))))⟩) (fun h8 h9=>⟨?d,fun x_1 q_1=>iL (fun h10=>⟨?e,iL (fun h11=>(by rw [(b6 (aT (by assumption:(aQ (aj e.1)).isNil=true)) (bV (by omega) (by omega) (by omega)) (fun j hj=>q_0.2 j (by omega)) q_1.2 (by omega) (eB (.inl (by assumption))))];rfl)) (fun h11 h12=>iE (fun h13=>(by rw [(b6 (aT (by assumption:(aQ (aj e.1)).isNil=true)) (bV (by omega) (by omega) (by omega)) (fun j hj=>q_0.2 j (by omega)) q_1.2 (by omega) (eB (.inr (.inl (by assumption)))))];rfl)) (fun h13=>iL (fun h14=>(by rw [(b6 (aT (by assumption:(aQ (aj e.1)).isNil=true)) (bV (by omega) (by omega) (by omega)) (fun j hj=>q_0.2 j (by omega)) q_1.2 (by omega) (eB (.inr (.inr (.inl (by assumption))))))];rfl)) (fun h14=>iE (fun h15=>(by rw [(b6 (aT (by assumption:(aQ (aj e.1)).isNil=true)) (bV (by omega) (by omega) (by omega)) (fun j hj=>q_0.2 j (by omega)) q_1.2 (by omega) (eB (.inr (.inr (.inr (.inl (by assumption)))))))];rfl)) (fun h15=>iL (fun h16=>(by rw [(b6 (aT (by assumption:(aQ (aj e.1)).isNil=true)) (bV (by omega) (by omega) (by omega)) (fun j hj=>q_0.2 j (by omega)) q_1.2 (by omega) (eB (.inr (.inr (.inr (.inr (.inl (by assumption))))))))];rfl)) (fun h16=>iL (fun h17=>(by rw [(b6 (aT (by assumption:(aQ (aj e.1)).isNil=true)) (bV (by omega) (by omega) (by omega)) (fun j hj=>q_0.2 j (by omega)) q_1.2 (by omega) (eB (.inr (.inr (.inr (.inr (.inr (by assumption))))))))];rfl)) (fun h17 h18 h19=>⟨?f,(⟨x_1 + 1,⟨by omega,pG q_1.2 (tF (by assumption) (by assumption) (by assumption) (Int.le_of_lt_add_one (show _ < (39:Int) + 1 from h15)) (by assumption) (by assumption))⟩,by omega,⟨by omega,trivial⟩,(by trivial)⟩)⟩))))))⟩) (fun h10=>(by rw [uZ (aT (by assumption:(aQ (aj e.1)).isNil=true)) (bV (by omega) (by omega) (by omega)) (fun j hj=>q_0.2 j (by omega)) (fun j hj=>q_1.2 j (by omega))];rfl))⟩)⟩))))⟩
 case a|d=>exact ⟨0,⟨Nat.zero_le _,fun j hj=>absurd hj (Nat.not_lt_zero _)⟩,⟨rfl,trivial⟩,trivial⟩
 case b|e=>omega
 case c|f=>simp only [aK,au] at *;omega
theorem Tryd.vn:bO Tryd.prog Tryd.B.eT Tryd.X 8 [af] [.err] (fun _=>True) (fun x y=>y=(fun e=>aQ (aN e)) x):=
 dI (X:=Tryd.X) Tryd.vk Tryd.func8 (by kernel_rfl) (fun x=>sO x) (fun x hw hp=>vm x hw)
end Go.Proofs.YtgokjhhcfemnhabDoor

namespace Go.Proofs.YtgokjhhcfemnhabDoor
open Go.Shelf
def Tryd.q9:Go.Shelf.Ren:=⟨fun | 171=>9 | 243=>15 | 246=>19 | 283=>26 | 284=>27 | 285=>28 | 286=>29 | 129=>40 | 317=>39 | 318=>41 | 319=>42 | 320=>43 | 337=>52 | 338=>53 | n=>n,fun | 3=>3 | 9=>9 | 2=>2 | 4=>4 | 171=>57 | 0=>0 | 53=>58 | 37=>61 | 5=>5 | 173=>62 | 212=>76 | 51=>77 | 20=>20 | 213=>78 | 46=>80 | 232=>100 | 233=>101 | n=>n,fun | 17=>0 | 18=>6 | 19=>7 | n=>n⟩
theorem Tryd.wv:Go.Proofs.LaysM.n171 Tryd.prog Tryd.q9:={
 mixed:=by kernel_rfl
 f129:=Tryd.func40.trans (congrArg some (by kernel_rfl))
 f171:=Tryd.func9.trans (congrArg some (by kernel_rfl))
 f243:=Tryd.func15.trans (congrArg some (by kernel_rfl))
 f246:=Tryd.func19.trans (congrArg some (by kernel_rfl))
 f283:=Tryd.func26.trans (congrArg some (by kernel_rfl))
 f284:=Tryd.func27.trans (congrArg some (by kernel_rfl))
 f285:=Tryd.func28.trans (congrArg some (by kernel_rfl))
 f286:=Tryd.func29.trans (congrArg some (by kernel_rfl))
 f317:=Tryd.func39.trans (congrArg some (by kernel_rfl))
 f318:=Tryd.func41.trans (congrArg some (by kernel_rfl))
 f319:=Tryd.func42.trans (congrArg some (by kernel_rfl))
 f320:=Tryd.func43.trans (congrArg some (by kernel_rfl))
 f337:=Tryd.func52.trans (congrArg some (by kernel_rfl))
 f338:=Tryd.func53.trans (congrArg some (by kernel_rfl))
 t0:=Tryd.underlying0
 a0:=Tryd.isAgg0
 z0:=Tryd.sizeOf0
 v0:=Tryd.zeroValue0
 t2:=Tryd.underlying2
 a2:=Tryd.isAgg2
 z2:=Tryd.sizeOf2
 v2:=Tryd.zeroValue2
 t3:=Tryd.underlying3
 a3:=Tryd.isAgg3
 z3:=Tryd.sizeOf3
 v3:=Tryd.zeroValue3
 t4:=Tryd.underlying4
 a4:=Tryd.isAgg4
 z4:=Tryd.sizeOf4
 v4:=Tryd.zeroValue4
 t5:=Tryd.underlying5
 a5:=Tryd.isAgg5
 z5:=Tryd.sizeOf5
 v5:=Tryd.zeroValue5
 t9:=Tryd.underlying9
 a9:=Tryd.isAgg9
 z9:=Tryd.sizeOf9
 v9:=Tryd.zeroValue9
 t20:=Tryd.underlying20
 a20:=Tryd.isAgg20
 z20:=Tryd.sizeOf20
 v20:=Tryd.zeroValue20
 t37:=Tryd.underlying61
 a37:=Tryd.isAgg61
 z37:=Tryd.sizeOf61
 v37:=Tryd.zeroValue61
 t46:=Tryd.underlying80
 a46:=Tryd.isAgg80
 z46:=Tryd.sizeOf80
 v46:=Tryd.zeroValue80
 t51:=Tryd.underlying77
 a51:=Tryd.isAgg77
 z51:=Tryd.sizeOf77
 v51:=Tryd.zeroValue77
 t53:=Tryd.underlying58
 a53:=Tryd.isAgg58
 z53:=Tryd.sizeOf58
 v53:=Tryd.zeroValue58
 t171:=Tryd.underlying57
 a171:=Tryd.isAgg57
 z171:=Tryd.sizeOf57
 v171:=Tryd.zeroValue57
 t173:=Tryd.underlying62
 a173:=Tryd.isAgg62
 z173:=Tryd.sizeOf62
 v173:=Tryd.zeroValue62
 t212:=Tryd.underlying76
 a212:=Tryd.isAgg76
 z212:=Tryd.sizeOf76
 v212:=Tryd.zeroValue76
 t213:=Tryd.underlying78
 a213:=Tryd.isAgg78
 z213:=Tryd.sizeOf78
 t232:=Tryd.underlying100
 a232:=Tryd.isAgg100
 z232:=Tryd.sizeOf100
 v232:=Tryd.zeroValue100
 t233:=Tryd.underlying101
 a233:=Tryd.isAgg101
 z233:=Tryd.sizeOf101
 v233:=Tryd.zeroValue101
 g17:=by kernel_rfl
 g18:=by kernel_rfl
 g19:=by kernel_rfl
 i0:=by kernel_rfl
 i2:=by kernel_rfl
 i3:=by kernel_rfl
 i4:=by kernel_rfl
 i5:=by kernel_rfl
 i9:=by kernel_rfl
 i20:=by kernel_rfl
 i37:=by kernel_rfl
 i46:=by kernel_rfl
 i51:=by kernel_rfl
 i53:=by kernel_rfl
 i171:=by kernel_rfl
 i173:=by kernel_rfl
 i212:=by kernel_rfl
 i232:=by kernel_rfl
 i233:=by kernel_rfl
 m17:=by kernel_rfl
 m18:=by kernel_rfl
 m19:=by kernel_rfl}
open Go.RowKit Go.Sort Go.Lib in
theorem Tryd.strconv_Itoa (n:Int) (h0 : -9223372036854775808<=n) (h1:n<=9223372036854775807) (w:World) (htab:Lib.TabIs Tryd.prog w "internal/strconv.uint64pow10" .u64 Lib.pow10Tab) :
  Calls Tryd.prog 9 #[.int .i64 n] w fun e w'=>e = .returned (.string ⟨(Lib.itoa n).toArray⟩)/\∃k os,w'=grow (w.drewN k) os:=Any.strconv_Itoa Tryd.wv n h0 h1 w htab
def Tryd.ra:Go.Shelf.Ren:=⟨fun | 172=>18 | 244=>24 | 245=>25 | 247=>34 | 279=>35 | 280=>36 | 281=>37 | 282=>38 | 287=>49 | 316=>50 | 171=>9 | 205=>51 | 321=>56 | 322=>57 | 243=>15 | 246=>19 | 283=>26 | 284=>27 | 285=>28 | 286=>29 | 129=>40 | 317=>39 | 318=>41 | 319=>42 | 320=>43 | 337=>52 | 338=>53 | n=>n,fun | 9=>9 | 3=>3 | 75=>27 | 76=>50 | 4=>4 | 5=>5 | 167=>68 | 37=>61 | 0=>0 | 85=>69 | 2=>2 | 168=>71 | 53=>58 | 175=>82 | 46=>80 | 210=>86 | 127=>96 | 145=>99 | 143=>97 | 21=>21 | 171=>57 | 173=>62 | 212=>76 | 51=>77 | 20=>20 | 213=>78 | 232=>100 | 233=>101 | 80=>102 | n=>n,fun | 15=>2 | 16=>3 | 17=>0 | 18=>6 | 19=>7 | n=>n⟩
theorem Tryd.mu:Go.Proofs.LaysC.n172 Tryd.prog Tryd.ra:={
 mixed:=by kernel_rfl
 f129:=Tryd.func40.trans (congrArg some (by kernel_rfl))
 f171:=Tryd.func9.trans (congrArg some (by kernel_rfl))
 f172:=Tryd.func18.trans (congrArg some (by kernel_rfl))
 f205:=Tryd.func51.trans (congrArg some (by kernel_rfl))
 f243:=Tryd.func15.trans (congrArg some (by kernel_rfl))
 f244:=Tryd.func24.trans (congrArg some (by kernel_rfl))
 f245:=Tryd.func25.trans (congrArg some (by kernel_rfl))
 f246:=Tryd.func19.trans (congrArg some (by kernel_rfl))
 f247:=Tryd.func34.trans (congrArg some (by kernel_rfl))
 f279:=Tryd.func35.trans (congrArg some (by kernel_rfl))
 f280:=Tryd.func36.trans (congrArg some (by kernel_rfl))
 f281:=Tryd.func37.trans (congrArg some (by kernel_rfl))
 f282:=Tryd.func38.trans (congrArg some (by kernel_rfl))
 f283:=Tryd.func26.trans (congrArg some (by kernel_rfl))
 f284:=Tryd.func27.trans (congrArg some (by kernel_rfl))
 f285:=Tryd.func28.trans (congrArg some (by kernel_rfl))
 f286:=Tryd.func29.trans (congrArg some (by kernel_rfl))
 f287:=Tryd.func49.trans (congrArg some (by kernel_rfl))
 f316:=Tryd.func50.trans (congrArg some (by kernel_rfl))
 f317:=Tryd.func39.trans (congrArg some (by kernel_rfl))
 f318:=Tryd.func41.trans (congrArg some (by kernel_rfl))
 f319:=Tryd.func42.trans (congrArg some (by kernel_rfl))
 f320:=Tryd.func43.trans (congrArg some (by kernel_rfl))
 f321:=Tryd.func56.trans (congrArg some (by kernel_rfl))
 f322:=Tryd.func57.trans (congrArg some (by kernel_rfl))
 f337:=Tryd.func52.trans (congrArg some (by kernel_rfl))
 f338:=Tryd.func53.trans (congrArg some (by kernel_rfl))
 t0:=Tryd.underlying0
 a0:=Tryd.isAgg0
 z0:=Tryd.sizeOf0
 v0:=Tryd.zeroValue0
 t2:=Tryd.underlying2
 a2:=Tryd.isAgg2
 z2:=Tryd.sizeOf2
 v2:=Tryd.zeroValue2
 t3:=Tryd.underlying3
 a3:=Tryd.isAgg3
 z3:=Tryd.sizeOf3
 v3:=Tryd.zeroValue3
 t4:=Tryd.underlying4
 a4:=Tryd.isAgg4
 z4:=Tryd.sizeOf4
 v4:=Tryd.zeroValue4
 t5:=Tryd.underlying5
 a5:=Tryd.isAgg5
 z5:=Tryd.sizeOf5
 v5:=Tryd.zeroValue5
 t9:=Tryd.underlying9
 a9:=Tryd.isAgg9
 z9:=Tryd.sizeOf9
 v9:=Tryd.zeroValue9
 t20:=Tryd.underlying20
 a20:=Tryd.isAgg20
 z20:=Tryd.sizeOf20
 v20:=Tryd.zeroValue20
 t21:=Tryd.underlying21
 a21:=Tryd.isAgg21
 z21:=Tryd.sizeOf21
 v21:=Tryd.zeroValue21
 t37:=Tryd.underlying61
 a37:=Tryd.isAgg61
 z37:=Tryd.sizeOf61
 v37:=Tryd.zeroValue61
 t46:=Tryd.underlying80
 a46:=Tryd.isAgg80
 z46:=Tryd.sizeOf80
 v46:=Tryd.zeroValue80
 t51:=Tryd.underlying77
 a51:=Tryd.isAgg77
 z51:=Tryd.sizeOf77
 v51:=Tryd.zeroValue77
 t53:=Tryd.underlying58
 a53:=Tryd.isAgg58
 z53:=Tryd.sizeOf58
 v53:=Tryd.zeroValue58
 t75:=Tryd.underlying27
 a75:=Tryd.isAgg27
 z75:=Tryd.sizeOf27
 v75:=Tryd.zeroValue27
 t76:=Tryd.underlying50
 a76:=Tryd.isAgg50
 z76:=Tryd.sizeOf50
 v76:=Tryd.zeroValue50
 t85:=Tryd.underlying69
 a85:=Tryd.isAgg69
 z85:=Tryd.sizeOf69
 v85:=Tryd.zeroValue69
 t127:=Tryd.underlying96
 a127:=Tryd.isAgg96
 z127:=Tryd.sizeOf96
 v127:=Tryd.zeroValue96
 t143:=Tryd.underlying97
 a143:=Tryd.isAgg97
 z143:=Tryd.sizeOf97
 v143:=Tryd.zeroValue97
 t145:=Tryd.underlying99
 a145:=Tryd.isAgg99
 z145:=Tryd.sizeOf99
 v145:=Tryd.zeroValue99
 t167:=Tryd.underlying68
 a167:=Tryd.isAgg68
 z167:=Tryd.sizeOf68
 v167:=Tryd.zeroValue68
 t168:=Tryd.underlying71
 a168:=Tryd.isAgg71
 z168:=Tryd.sizeOf71
 v168:=Tryd.zeroValue71
 t171:=Tryd.underlying57
 a171:=Tryd.isAgg57
 z171:=Tryd.sizeOf57
 v171:=Tryd.zeroValue57
 t173:=Tryd.underlying62
 a173:=Tryd.isAgg62
 z173:=Tryd.sizeOf62
 v173:=Tryd.zeroValue62
 t175:=Tryd.underlying82
 a175:=Tryd.isAgg82
 z175:=Tryd.sizeOf82
 v175:=Tryd.zeroValue82
 t210:=Tryd.underlying86
 a210:=Tryd.isAgg86
 z210:=Tryd.sizeOf86
 v210:=Tryd.zeroValue86
 t212:=Tryd.underlying76
 a212:=Tryd.isAgg76
 z212:=Tryd.sizeOf76
 v212:=Tryd.zeroValue76
 t213:=Tryd.underlying78
 a213:=Tryd.isAgg78
 z213:=Tryd.sizeOf78
 t232:=Tryd.underlying100
 a232:=Tryd.isAgg100
 z232:=Tryd.sizeOf100
 v232:=Tryd.zeroValue100
 t233:=Tryd.underlying101
 a233:=Tryd.isAgg101
 z233:=Tryd.sizeOf101
 v233:=Tryd.zeroValue101
 g15:=by kernel_rfl
 g16:=by kernel_rfl
 g17:=by kernel_rfl
 g18:=by kernel_rfl
 g19:=by kernel_rfl
 t80:=Tryd.underlying102
 a80:=Tryd.isAgg102
 z80:=Tryd.sizeOf102
 v80:=Tryd.zeroValue102
 i0:=by kernel_rfl
 i2:=by kernel_rfl
 i3:=by kernel_rfl
 i4:=by kernel_rfl
 i5:=by kernel_rfl
 i9:=by kernel_rfl
 i20:=by kernel_rfl
 i21:=by kernel_rfl
 i37:=by kernel_rfl
 i46:=by kernel_rfl
 i51:=by kernel_rfl
 i53:=by kernel_rfl
 i75:=by kernel_rfl
 i76:=by kernel_rfl
 i80:=by kernel_rfl
 i85:=by kernel_rfl
 i127:=by kernel_rfl
 i143:=by kernel_rfl
 i145:=by kernel_rfl
 i167:=by kernel_rfl
 i168:=by kernel_rfl
 i171:=by kernel_rfl
 i173:=by kernel_rfl
 i175:=by kernel_rfl
 i210:=by kernel_rfl
 i212:=by kernel_rfl
 i232:=by kernel_rfl
 i233:=by kernel_rfl
 m15:=by kernel_rfl
 m16:=by kernel_rfl
 m17:=by kernel_rfl
 m18:=by kernel_rfl
 m19:=by kernel_rfl
 c0:=by kernel_rfl
 c2:=by kernel_rfl
 c3:=by kernel_rfl
 c4:=by kernel_rfl
 c5:=by kernel_rfl
 c9:=by kernel_rfl
 c20:=by kernel_rfl
 c21:=by kernel_rfl
 c37:=by kernel_rfl
 c46:=by kernel_rfl
 c51:=by kernel_rfl
 c53:=by kernel_rfl
 c75:=by kernel_rfl
 c76:=by kernel_rfl
 c80:=by kernel_rfl
 c85:=by kernel_rfl
 c127:=by kernel_rfl
 c143:=by kernel_rfl
 c145:=by kernel_rfl
 c167:=by kernel_rfl
 c168:=by kernel_rfl
 c171:=by kernel_rfl
 c173:=by kernel_rfl
 c175:=by kernel_rfl
 c210:=by kernel_rfl
 c212:=by kernel_rfl
 c213:=by kernel_rfl
 c232:=by kernel_rfl
 c233:=by kernel_rfl}
open Go.RowKit in
theorem Tryd.strconv_Atoi_ok (s:ByteArray) (hmax:s.size<=9223372036854775806) (v:Int) (h:Lib.atoiAll s.data.toList = .ok v) (w:World) :
  Calls Tryd.prog 18 #[.string s] w fun e w'=>e = .returned (.tuple #[.int .i64 v, .nilIface])/\(w'=w\/∃t,w'=Lib.bytesWorld w 5 t):=Any.strconv_Atoi_ok Tryd.mu s hmax v h w
open Go.RowKit in
theorem Tryd.strconv_Atoi_syntax (s:ByteArray) (hlim:s.size<=281474976710656) (h:Lib.atoiAll s.data.toList=Go.Lib.NumEnd.syntax) (ev:Value) (w:World) (hv:w.cell? ⟨2,0,none⟩=some ev) (hev:ev = .nilIface\/∃te pe,ev = .iface te pe) :
  Calls Tryd.prog 18 #[.string s] w fun e w'=>∃N,e = .returned (.tuple #[.int .i64 (0), .iface 71 (.pointer (some ⟨N,0,none⟩))])/\w.heap.size<=N/\w'.heap[N]?=some (.cells #[.string ⟨#[65,116,111,105]⟩, .string s,ev] 86 (0,0))/\Below w.heap.size w w':=Any.strconv_Atoi_syntax Tryd.mu s hlim h ev w hv hev
open Go.RowKit in
theorem Tryd.strconv_Atoi_range (s:ByteArray) (hlim:s.size<=281474976710656) (h:Lib.atoiAll s.data.toList = .range) (ev:Value) (w:World) (hv:w.cell? ⟨3,0,none⟩=some ev) (hev:ev = .nilIface\/∃te pe,ev = .iface te pe) :
  Calls Tryd.prog 18 #[.string s] w fun e w'=>∃N,e = .returned (.tuple #[.int .i64 (Lib.atoiSat s.data.toList), .iface 71 (.pointer (some ⟨N,0,none⟩))])/\w.heap.size<=N/\w'.heap[N]?=some (.cells #[.string ⟨#[65,116,111,105]⟩, .string s,ev] 86 (0,0))/\Below w.heap.size w w':=Any.strconv_Atoi_range Tryd.mu s hlim h ev w hv hev
def Tryd.rY:Go.Shelf.Ren:=⟨fun | 102=>11 | 209=>17 | 207=>23 | n=>n,fun | 9=>9 | 4=>4 | 3=>3 | n=>n,fun | n=>n⟩
theorem Tryd.xi:Go.Proofs.Lays.n102 Tryd.prog Tryd.rY:={
 mixed:=by kernel_rfl
 f102:=Tryd.func11.trans (congrArg some (by kernel_rfl))
 f207:=Tryd.func23.trans (congrArg some (by kernel_rfl))
 f209:=Tryd.func17.trans (congrArg some (by kernel_rfl))
 t3:=Tryd.underlying3
 a3:=Tryd.isAgg3
 z3:=Tryd.sizeOf3
 v3:=Tryd.zeroValue3
 t4:=Tryd.underlying4
 a4:=Tryd.isAgg4
 z4:=Tryd.sizeOf4
 v4:=Tryd.zeroValue4
 t9:=Tryd.underlying9
 a9:=Tryd.isAgg9
 z9:=Tryd.sizeOf9
 v9:=Tryd.zeroValue9}
open Go.RowKit Go.Lib in
theorem Tryd.strings_TrimSuffix (s p:ByteArray) (w:World) (hs:s.size<=9223372036854775807) :
  Calls Tryd.prog 11 #[.string s, .string p] w fun e w'=>e = .returned (.string ⟨(Lib.trimSuffix s.data.toList p.data.toList).toArray⟩)/\w'=w:=Any.strings_TrimSuffix Tryd.xi s p w hs
def Tryd.rZ:Go.Shelf.Ren:=⟨fun | 146=>10 | 221=>16 | 268=>20 | 138=>21 | 143=>22 | 195=>30 | 197=>31 | 218=>32 | 219=>33 | 260=>44 | 217=>45 | 225=>46 | 224=>47 | 267=>48 | 266=>54 | 314=>55 | n=>n,fun | 9=>9 | 31=>40 | 3=>3 | 4=>4 | 0=>0 | 105=>65 | 21=>21 | 5=>5 | 46=>80 | 119=>88 | 139=>91 | 138=>90 | 146=>92 | 51=>77 | n=>n,fun | 1=>1 | 3=>4 | 4=>5 | n=>n⟩
theorem Tryd.xj:Go.Proofs.Lays.n146 Tryd.prog Tryd.rZ:={
 mixed:=by kernel_rfl
 f138:=Tryd.func21.trans (congrArg some (by kernel_rfl))
 f143:=Tryd.func22.trans (congrArg some (by kernel_rfl))
 f146:=Tryd.func10.trans (congrArg some (by kernel_rfl))
 f195:=Tryd.func30.trans (congrArg some (by kernel_rfl))
 f197:=Tryd.func31.trans (congrArg some (by kernel_rfl))
 f217:=Tryd.func45.trans (congrArg some (by kernel_rfl))
 f218:=Tryd.func32.trans (congrArg some (by kernel_rfl))
 f219:=Tryd.func33.trans (congrArg some (by kernel_rfl))
 f221:=Tryd.func16.trans (congrArg some (by kernel_rfl))
 f224:=Tryd.func47.trans (congrArg some (by kernel_rfl))
 f225:=Tryd.func46.trans (congrArg some (by kernel_rfl))
 f260:=Tryd.func44.trans (congrArg some (by kernel_rfl))
 f266:=Tryd.func54.trans (congrArg some (by kernel_rfl))
 f267:=Tryd.func48.trans (congrArg some (by kernel_rfl))
 f268:=Tryd.func20.trans (congrArg some (by kernel_rfl))
 f314:=Tryd.func55.trans (congrArg some (by kernel_rfl))
 t0:=Tryd.underlying0
 a0:=Tryd.isAgg0
 z0:=Tryd.sizeOf0
 v0:=Tryd.zeroValue0
 t3:=Tryd.underlying3
 a3:=Tryd.isAgg3
 z3:=Tryd.sizeOf3
 v3:=Tryd.zeroValue3
 t4:=Tryd.underlying4
 a4:=Tryd.isAgg4
 z4:=Tryd.sizeOf4
 v4:=Tryd.zeroValue4
 t5:=Tryd.underlying5
 a5:=Tryd.isAgg5
 z5:=Tryd.sizeOf5
 v5:=Tryd.zeroValue5
 t9:=Tryd.underlying9
 a9:=Tryd.isAgg9
 z9:=Tryd.sizeOf9
 v9:=Tryd.zeroValue9
 t21:=Tryd.underlying21
 a21:=Tryd.isAgg21
 z21:=Tryd.sizeOf21
 v21:=Tryd.zeroValue21
 t31:=Tryd.underlying40
 a31:=Tryd.isAgg40
 z31:=Tryd.sizeOf40
 v31:=Tryd.zeroValue40
 t46:=Tryd.underlying80
 a46:=Tryd.isAgg80
 z46:=Tryd.sizeOf80
 v46:=Tryd.zeroValue80
 t51:=Tryd.underlying77
 a51:=Tryd.isAgg77
 z51:=Tryd.sizeOf77
 v51:=Tryd.zeroValue77
 t105:=Tryd.underlying65
 a105:=Tryd.isAgg65
 z105:=Tryd.sizeOf65
 v105:=Tryd.zeroValue65
 t119:=Tryd.underlying88
 a119:=Tryd.isAgg88
 z119:=Tryd.sizeOf88
 t138:=Tryd.underlying90
 a138:=Tryd.isAgg90
 z138:=Tryd.sizeOf90
 v138:=Tryd.zeroValue90
 t139:=Tryd.underlying91
 a139:=Tryd.isAgg91
 z139:=Tryd.sizeOf91
 v139:=Tryd.zeroValue91
 t146:=Tryd.underlying92
 a146:=Tryd.isAgg92
 z146:=Tryd.sizeOf92
 v146:=Tryd.zeroValue92
 g1:=by kernel_rfl
 g3:=by kernel_rfl
 g4:=by kernel_rfl}
open Go.RowKit Go.Lib in
theorem Tryd.strings_Split (s sep:ByteArray) (m:Int) (w:World) (hs:s.size < 4294967281) (hm:w.cell? ⟨1,0,none⟩=some (.int .i64 m)) (h1:1<=sep.size) :
  Calls Tryd.prog 10 #[.string s, .string sep] w fun e w'=>
   e = .returned (.slice (some ⟨w.heap.size,0,none⟩) (Lib.countB s sep + 1) (Lib.countB s sep + 1))/\w'=w.alloc (.cells ((Lib.splitB sep 0 (Lib.countB s sep) s).map Value.string).toArray 9):=Any.strings_Split Tryd.xj (by kernel_rfl) s sep m w hs hm h1
end Go.Proofs.YtgokjhhcfemnhabDoor

namespace Go.Proofs.YtgokjhhcfemnhabDoor
open Go.Vg Go.Mrl
theorem tW (w:World) (k:Nat) (os:Array Obj):Vg.Below w.heap.size w (Sort.grow (w.drewN k) os):=by
 refine ⟨rfl,rfl,?_,fun i hi => ?_⟩
 ·show w.heap.size<=(w.heap++os).size
  simp
 ·show (w.heap++os)[i]?=w.heap[i]?
  rw [Array.getElem?_append,if_pos hi]
theorem xk {eT:TypeId} {n:Int} {O:ab} {w:World} {v:Value} (h:VR eT (.int .i64) n O w v):v = .int .i64 n/\-9223372036854775808<=n/\n<=9223372036854775807:=by
 obtain ⟨h1,h2,h3⟩:=VR.one rfl h
 exact ⟨by simpa using h1,h2,h3⟩
theorem iJ {eT:TypeId} {s:List UInt8} {O:ab} {w:World} {v:Value} (h:VR eT .str s O w v):v = .string ⟨s.toArray⟩/\s.length<=au:=by
 obtain ⟨h1,h2⟩:=VR.one rfl h
 exact ⟨by simpa using h1,h2⟩
theorem vo {eT:TypeId} {s:List UInt8} {O:ab} {w:World} (h:s.length<=au):VR eT .str s O w (.string ⟨s.toArray⟩):=VR.aD rfl ⟨rfl,h⟩
theorem jA:∀(k u:Nat),u < 10 ^ (k + 1)->Lib.nDigits u<=k + 1
 | 0,u,h=>by rw [Lib.nDigits_small (by simpa using h)];exact Nat.le_refl _
 | k + 1,u,h=>by
  by_cases hu:u < 10
  ·rw [Lib.nDigits_small hu];omega
  ·rw [Lib.nDigits_big hu]
   have:=jA k (u / 10) (by rw [Nat.pow_succ] at h;omega)
   omega
theorem wx {n:Int} (h0 : -9223372036854775808<=n) (h1:n<=9223372036854775807):(Lib.itoa n).length<=21:=by
 unfold Lib.itoa
 split
 ·rw [List.length_cons,Lib.decDigits_length]
  have:=jA 19 n.natAbs (by omega)
  omega
 ·rw [Lib.decDigits_length]
  have:=jA 19 n.toNat (by omega)
  omega
theorem Tryd.mv:bO Tryd.prog Tryd.B.eT Tryd.X 9 [.int .i64] [.str] (fun _=>True) (fun n y=>y=Lib.itoa n):=by
 refine ⟨⟨Tryd.f9,Tryd.func9,by kernel_rfl,by kernel_rfl⟩,fun O w n vs hG hO ha _ => ?_⟩
 obtain ⟨v,rfl,hv⟩:=ha
 obtain ⟨rfl,h0,h1⟩:=xk hv
 refine (Tryd.strconv_Itoa n h0 h1 w hG.pow).mono ?_
 rintro e w' ⟨rfl,k,os,rfl⟩
 exact ⟨[.string ⟨(Lib.itoa n).toArray⟩],Lib.itoa n,rfl,rfl,⟨_,rfl,vo (by have:=wx h0 h1;unfold au;omega)⟩,tW w k os⟩
theorem Tryd.rb:bO Tryd.prog Tryd.B.eT Tryd.X 18 [.str] [.int .i64, .err] (fun s=>s.length<=281474976710656) (fun s y=>y=ck s):=by
 refine ⟨⟨Tryd.f18,Tryd.func18,by kernel_rfl,by kernel_rfl⟩,fun O w s vs hG hO ha hs => ?_⟩
 obtain ⟨v,rfl,hv⟩:=ha
 obtain ⟨rfl,hl⟩:=iJ hv
 have hsz:(⟨s.toArray⟩:ByteArray).size=s.length:=by simp [ByteArray.size]
 have hsl:(⟨s.toArray⟩:ByteArray).data.toList=s:=by simp
 cases ha:Lib.atoiAll s with
 | ok n=>
  refine (Tryd.strconv_Atoi_ok ⟨s.toArray⟩ (by rw [hsz];omega) n (by rw [hsl];exact ha) w).mono ?_
  rintro e w' ⟨rfl,hw⟩
  obtain ⟨b0,b1⟩:=Lib.atoiAll_bounds ha
  refine ⟨[.int .i64 n, .nilIface],(n, .nil),rfl,by unfold ck;rw [ha],⟨_,_,rfl,VR.aD rfl ⟨rfl,b0,b1⟩,⟨_,rfl,VR.aD rfl ⟨_,rfl,rfl⟩⟩⟩,?_⟩
  rcases hw with rfl | ⟨t,rfl⟩
  ·exact Vg.Below.refl _ _
  ·exact .of (Lib.bytesWorld_below _ _ _)
 | range=>
  obtain ⟨ev,hv,he⟩:=hG.yE
  obtain ⟨b0,b1⟩:=Lib.atoiSat_bounds s
  have hA:=Tryd.strconv_Atoi_range ⟨s.toArray⟩ (by rw [hsz];exact hs) (by rw [hsl];exact ha) ev w hv he
  rw [hsl] at hA
  refine hA.mono ?_
  rintro e w' ⟨N,rfl,_,_,hb⟩
  exact ⟨[.int .i64 (Lib.atoiSat s),_],(Lib.atoiSat s, .other),rfl,by unfold ck;rw [ha],⟨_,_,rfl,VR.aD rfl ⟨rfl,b0,b1⟩,⟨_,rfl,VR.aD rfl ⟨_,rfl,_,_,rfl,by decide +kernel⟩⟩⟩, .of hb⟩
 | _=>
  obtain ⟨ev,hv,he⟩:=hG.yD
  refine (Tryd.strconv_Atoi_syntax ⟨s.toArray⟩ (by rw [hsz];exact hs) (by rw [hsl];exact ha) ev w hv he).mono ?_
  rintro e w' ⟨N,rfl,_,_,hb⟩
  exact ⟨[.int .i64 0,_],(0, .other),rfl,by unfold ck;rw [ha],⟨_,_,rfl,VR.aD rfl ⟨rfl,by decide,by decide⟩,⟨_,rfl,VR.aD rfl ⟨_,rfl,_,_,rfl,by decide +kernel⟩⟩⟩, .of hb⟩
theorem Tryd.jJ:bO Tryd.prog Tryd.B.eT Tryd.X 11 [.str, .str] [.str] (fun _=>True) (fun x y=>y=Lib.trimSuffix x.1 x.2):=by
 refine ⟨⟨Tryd.f11,Tryd.func11,by kernel_rfl,by kernel_rfl⟩,fun O w x vs hG hO ha _ => ?_⟩
 obtain ⟨s,p⟩:=x
 obtain ⟨v,vs',rfl,hv,u,rfl,hu⟩:=ha
 obtain ⟨rfl,hl⟩:=iJ hv
 obtain ⟨rfl,_⟩:=iJ hu
 have hl:s.length<=au:=hl
 have hsz:(⟨s.toArray⟩:ByteArray).size=s.length:=by simp [ByteArray.size]
 refine (Tryd.strings_TrimSuffix ⟨s.toArray⟩ ⟨p.toArray⟩ w (by rw [hsz];exact hl)).mono ?_
 rintro e w' ⟨rfl,rfl⟩
 have hle:(Lib.trimSuffix s p).length<=s.length:=by unfold Lib.trimSuffix;split <;> simp
 exact ⟨[.string ⟨(Lib.trimSuffix s p).toArray⟩],_,rfl,rfl,⟨_,rfl,vo (Nat.le_trans hle hl)⟩,Vg.Below.refl _ _⟩
theorem Tryd.re:bO Tryd.prog Tryd.B.eT Tryd.X 10 [.str, .str] [.slice .str] (fun x=>x.1.length < 4294967281/\x.2.length=1) (fun x y=>y=parts (xS x.2) x.1):=by
 refine ⟨⟨Tryd.f10,Tryd.func10,by kernel_rfl,by kernel_rfl⟩,fun O w x vs hG hO ha hp => ?_⟩
 obtain ⟨s,p⟩:=x
 obtain ⟨hs,hp⟩:=hp
 obtain ⟨c,rfl⟩:∃c,p = [c]:=List.length_eq_one_iff.1 hp
 obtain ⟨v,vs',rfl,hv,u,rfl,hu⟩:=ha
 obtain ⟨rfl,hl⟩:=iJ hv
 obtain ⟨rfl,_⟩:=iJ hu
 obtain ⟨m,hm⟩:=hG.max
 have hsz:(⟨s.toArray⟩:ByteArray).size=s.length:=by simp [ByteArray.size]
 have h1:1<=(⟨#[c]⟩:ByteArray).size:=Nat.le_refl 1
 refine (Tryd.strings_Split ⟨s.toArray⟩ ⟨#[c]⟩ m w (by rw [hsz];exact hs) hm h1).mono ?_
 rintro e w' ⟨rfl,rfl⟩
 have hlen:=Lib.splitB_all ⟨#[c]⟩ h1 0 _ ⟨s.toArray⟩ rfl
 have hdat:=Lib.splitB_data ⟨#[c]⟩ 0 (Lib.countB ⟨s.toArray⟩ ⟨#[c]⟩) ⟨s.toArray⟩
 have hcb:=Lib.countB_le ⟨#[c]⟩ h1 _ ⟨s.toArray⟩ (Nat.le_refl _)
 have hd:(Lib.splitB ⟨#[c]⟩ 0 (Lib.countB ⟨s.toArray⟩ ⟨#[c]⟩) ⟨s.toArray⟩).map (·.data.toList)=parts c s:=by rw [hdat,<-gr,<-Lib.count_one]
 have hlf:(parts c s).length=Lib.countB ⟨s.toArray⟩ ⟨#[c]⟩ + 1:=by rw [<-hd,List.length_map,hlen]
 refine ⟨[_],parts c s,rfl,rfl,⟨_,rfl,VR.aD rfl ⟨_,rfl,?_, .inr ⟨w.heap.size,0,Lib.countB ⟨s.toArray⟩ ⟨#[c]⟩ + 1,by rw [hlf],by rw [hlf];exact Nat.le_refl _,fun i y hy => ?_⟩⟩⟩,(Vg.Below.refl _ w).alloc (Nat.le_refl _) _⟩
 ·rw [hlf];have hs:s.length < 4294967281:=hs;rw [hsz] at hcb;unfold au;omega
 ·have hyl:=gq c s y (List.mem_of_getElem? hy)
  refine ⟨[.string ⟨y.toArray⟩],⟨rfl,Nat.le_trans hyl hl⟩,fun j u hj=>⟨?_,fun hh => ?_⟩⟩
  ·have hj0:j=0:=by
    rcases j with _ | j
    ·rfl
    ·simp at hj
   subst hj0
   simp at hj
   subst hj
   rw [<-hd,List.getElem?_map,Option.map_eq_some_iff] at hy
   obtain ⟨q,hq,rfl⟩:=hy
   have hh:(w.alloc (.cells ((Lib.splitB ⟨#[c]⟩ 0 (Lib.countB ⟨s.toArray⟩ ⟨#[c]⟩) ⟨s.toArray⟩).map Value.string).toArray 9)).heap[w.heap.size]?=some (.cells ((Lib.splitB ⟨#[c]⟩ 0 (Lib.countB ⟨s.toArray⟩ ⟨#[c]⟩) ⟨s.toArray⟩).map Value.string).toArray 9 (0,0)):=heap_alloc_new w _
   rw [Lib.cell_of_heap hh]
   simp only [Ty.size,Nat.mul_one,Nat.zero_add,Nat.add_zero,List.getElem?_toArray,List.getElem?_map,hq,Option.map_some]
  ·have:=hO _ _ hh
   simp at this
end Go.Proofs.YtgokjhhcfemnhabDoor

namespace Go.Proofs.YtgokjhhcfemnhabDoor
open Go.Vg Go.Mrl
noncomputable def Tryd.rf:List (FuncId × (Bool × b7)):=[(14,(true,bC [.str] [.err] (fun _=>True) (fun s=>aQ (aj s)))),
 (9,(true,bC [.int .i64] [.str] (fun _=>True) (fun n=>Lib.itoa n))),
 (8,(true,bC [af] [.err] (fun _=>True) (fun e=>aQ (aN e))))]
theorem Tryd.tX:df Tryd.prog Tryd.B Tryd.X Tryd.rf:=
 cL (aC Tryd.mr) (cL (aC Tryd.mv) (cL (aC Tryd.vn) (jr Tryd.jy)))
def rh (e:D af):da:=[
 (0,fun st=>{X:=Nat,inv:=fun i=>i<=List.length e.2.1,bR:=fun i=>List.length e.2.1 - i,bm:=fun i=>[(35,sI i),(6,sS (cm e i))],aV:=[1,2,3,5,33,34]}),
 (2,fun st=>{X:=Nat,inv:=fun i=>i<=List.length e.2.2.1,bR:=fun i=>List.length e.2.2.1 - i,bm:=fun i=>[(60,sI i),(6,sS (b8 e i))],aV:=[2,3,5,58,59]})]
theorem wy (e:D af) (hw:iv [af] e):(fz (tA Tryd.B [23,30,47,53,68,74,80]) Tryd.rf Tryd.f4 (rh e) [af] [.str, .err] (fun x y=>y=(fun e=>aF e) x) e).holds:=by
 refine holds_of (p:=
  let za:=aQ (aN e)
  let zb:=[(32:UInt8)]
  let zc:=List.length zb
  let zd:=e.2.1
  let ze:=List.length zd
  let zf:=e.2.2.1
  let zg:=List.length zf
  let zh:=Lib.itoa (↑ze:Int)
  let zi:=e.1++zb++zh
  let zj:=Lib.itoa (↑zg:Int)
  let zk:=fun (x_0:Nat)=>zb++(nth ae zd x_0).1
  let zl:=fun (x_0:Nat)=>Lib.itoa (nth ae zd x_0).2.1
  let zm:=fun (x_0:Nat)=>zk x_0++zb++zl x_0++zb
  let zn:=fun (x_0:Nat)=>Lib.itoa (nth ae zd x_0).2.2.1
  let zo:=fun (x_0:Nat)=>(↑x_0:Int) + (1:Int)
  let zp:=(e.1=e.1/\zd=zd/\zf=zf/\True)/\True
  let zq:=fun (x_1:Nat)=>zb++Lib.itoa (nth ag zf x_1).1
  let zr:=fun (x_1:Nat)=>zq x_1++zb++Lib.itoa (nth ag zf x_1).2.1
  let zs:=fun (x_1:Nat)=>Lib.itoa (nth ag zf x_1).2.2.1
  (True)/\(((!bj.isNil za)=true->(([],za)=aF e))/\((!bj.isNil za)=false->(List.length e.1 + zc<=au)/\((ze<=au)->((zg<=au)->(True)/\(List.length (e.1++zb) + List.length zh<=au)/\(List.length zi + zc<=au)/\(True)/\(List.length (zi++zb) + List.length zj<=au)/\((ze<=au)->(∃(x:Nat),x<=ze/\((0:Int)=(↑x:Int)/\zi++zb++zj=cm e x/\True)/\True)/\(∀x_0:Nat,((x_0<=ze)->(((decide ((↑x_0:Int) < (↑ze:Int)))=true->((0:Int)<=(↑x_0:Int)/\(↑x_0:Int) < (↑ze:Int))/\(zc + List.length (nth ae zd x_0).1<=au)/\(List.length (zk x_0) + zc<=au)/\(True)/\(List.length (zk x_0++zb) + List.length (zl x_0)<=au)/\(List.length (zk x_0++zb++zl x_0) + zc<=au)/\(True)/\(List.length (zm x_0) + List.length (zn x_0)<=au)/\(List.length (cm e x_0) + List.length (zm x_0++zn x_0)<=au)/\((aK (↑x_0:Int))->((aK (1:Int))->(aK (zo x_0))/\(∃(x':Nat),x'<=ze/\ze - x' < ze - x_0/\(zo x_0=(↑x':Int)/\cm e x_0++(zm x_0++zn x_0)=cm e x'/\True)/\zp))))/\((decide ((↑x_0:Int) < (↑ze:Int)))=false->((zg<=au)->(∃(x:Nat),x<=zg/\((0:Int)=(↑x:Int)/\cm e x_0=b8 e x/\True)/\True)/\(∀x_1:Nat,((x_1<=zg)->(((decide ((↑x_1:Int) < (↑zg:Int)))=true->((0:Int)<=(↑x_1:Int)/\(↑x_1:Int) < (↑zg:Int))/\(True)/\(zc + List.length (Lib.itoa (nth ag zf x_1).1)<=au)/\(List.length (zq x_1) + zc<=au)/\(True)/\(List.length (zq x_1++zb) + List.length (Lib.itoa (nth ag zf x_1).2.1)<=au)/\(List.length (zr x_1) + zc<=au)/\(True)/\(List.length (zr x_1++zb) + List.length (zs x_1)<=au)/\(List.length (b8 e x_1) + List.length (zr x_1++zb++zs x_1)<=au)/\((aK (↑x_1:Int))->((aK (1:Int))->(aK (zo x_1))/\(∃(x':Nat),x'<=zg/\zg - x' < zg - x_1/\(zo x_1=(↑x':Int)/\b8 e x_1++(zr x_1++zb++zs x_1)=b8 e x'/\True)/\zp))))/\((decide ((↑x_1:Int) < (↑zg:Int)))=false->(List.length (b8 e x_1) + List.length [(10:UInt8)]<=au)/\((b8 e x_1++[(10:UInt8)],bj.nil)=aF e)))))))))))))))) (by kernel_rfl) ?_
 dsimp -iota -proj -eta only
 refine ⟨trivial,iB (fun h0=>(tP (fun e=>by rw [cp.2 e] at h0;cases h0))) (fun h0=>⟨?a,fun h1 h2=>⟨trivial,?b,?c,trivial,?d,fun h3=>⟨(⟨0,by omega,⟨rfl,(tG e).symm,trivial⟩,trivial⟩),fun x_0 q_0=>iL (fun h4=>⟨?e,?f,?g,trivial,?h,?i,trivial,?j,?k,fun h5 h6=>⟨?l,(⟨x_0 + 1,by omega,by omega,⟨by omega,tN (by omega),trivial⟩,(by trivial)⟩)⟩⟩) (fun h4 h5=>⟨(⟨0,by omega,⟨rfl,by rw [tH,show x_0=e.2.1.length by omega],trivial⟩,trivial⟩),fun x_1 q_1=>iL (fun h6=>⟨?m,trivial,?n,?o,trivial,?p,?q,trivial,?r,?s,fun h7 h8=>⟨?t,(⟨x_1 + 1,by omega,by omega,⟨by omega,tO (by omega),trivial⟩,(by trivial)⟩)⟩⟩) (fun h6=>⟨(by have a:=(eV (cp.1 h0)).wk x_1;simp only [List.length_append,List.length_cons,List.length_nil,au];omega),(u4 (cp.1 h0) (by omega))⟩)⟩)⟩⟩⟩)⟩
 case a|b|c|d=>have a:=(eV (cp.1 h0)).lens;simp only [List.length_append,List.length_cons,List.length_nil,au];omega
 case e|m=>omega
 case f|g|h|i|j|k=>have a:=(eV (cp.1 h0)).yg (i:=x_0) (by omega);simp only [List.length_append,List.length_cons,List.length_nil,au];omega
 case l|t=>simp only [aK,au] at *;omega
 case n|o|p|q|r|s=>have a:=(eV (cp.1 h0)).yh (i:=x_1) (by omega);simp only [List.length_append,List.length_cons,List.length_nil,au];omega
theorem Tryd.ri:bO Tryd.prog Tryd.B.eT Tryd.X 4 [af] [.str, .err] (fun _=>True) (fun x y=>y=(fun e=>aF e) x):=
 dI (B:=(tA Tryd.B [23,30,47,53,68,74,80])) (X:=Tryd.X) (df.hint (l:=[23,30,47,53,68,74,80]) Tryd.tX) Tryd.func4 (by kernel_rfl) (fun x=>rh x) (fun x hw hp=>wy x hw)
end Go.Proofs.YtgokjhhcfemnhabDoor

namespace Go.Proofs.YtgokjhhcfemnhabDoor
open Go.Vg Go.Mrl
noncomputable def Tryd.nH:List (FuncId × (Bool × b7)):=[(9,(true,bC [.int .i64] [.str] (fun _=>True) (fun n=>Lib.itoa n))),
 (18,(true,bC [.str] [.int .i64, .err] (fun s=>s.length<=281474976710656) (fun s=>ck s))),
 (11,(true,bC [.str, .str] [.str] (fun _=>True) (fun x=>Lib.trimSuffix x.1 x.2))),
 (10,(true,bC [.str, .str] [.slice .str] (fun x=>x.1.length < 4294967281/\x.2.length=1) (fun x=>parts (xS x.2) x.1)))]
theorem Tryd.rj:df Tryd.prog Tryd.B Tryd.X Tryd.nH:=
 cL (aC Tryd.mv) (cL (aC Tryd.rb) (cL (aC Tryd.jJ) (cL (aC Tryd.re) (jr Tryd.jy))))
def nI (l:List (List UInt8)):da:=[
 (0,fun st=>{X:=Nat,inv:=fun i=>i<=l.length/\∀j,j < i->(bD (nth .str l j)).isNone=false,bR:=fun i=>l.length - i,bm:=fun i=>[(11,sI i),(4, .s (.one (.app (.int .i64) (cV (l.take i)) (eS st 4))))],ad:=fun i=>[(eS st 4, .tok (.int .i64) (cV (l.take i)))],aV:=[9,10],kq:=[eS st 4]})]
theorem r4 (l:List (List UInt8)) (hw:iv [.slice .str] l) (hp:(fun l=>l.length<=1000000/\∀i,(nth .str l i).length<=1000000) l):(fz Tryd.B Tryd.nH Tryd.f12 (nI l) [.slice .str] [.slice (.int .i64), .bool] (fun x y=>y=(fun l=>av l) x) l).holds:=by
 refine holds_of (p:=
  let za:=List.length l
  let zb:=([],false)=av l
  let zc:=fun (x_0:Nat)=>cV (List.take x_0 l)
  let zd:=fun (x_0:Nat)=>zc x_0++[(ck (nth Ty.str l x_0)).1]
  ((za<=au)->(∃(x:Nat),(x<=za/\∀(j:Nat),j < x->Option.isNone (bD (nth Ty.str l j))=false)/\((0:Int)=(↑x:Int)/\@List.nil Int=cV (List.take x l)/\True)/\@List.nil Int=cV (List.take x l)/\True)/\(∀x_0:Nat,((x_0<=za/\∀(j:Nat),j < x_0->Option.isNone (bD (nth Ty.str l j))=false)->(((decide ((↑x_0:Int) < (↑za:Int)))=true->((0:Int)<=(↑x_0:Int)/\(↑x_0:Int) < (↑za:Int))/\(List.length (nth Ty.str l x_0)<=(281474976710656:Nat))/\(((!bj.isNil (ck (nth Ty.str l x_0)).2)=true->(zb))/\((!bj.isNil (ck (nth Ty.str l x_0)).2)=false->(True)/\(((!Lib.itoa (ck (nth Ty.str l x_0)).1 == nth Ty.str l x_0)=true->(zb))/\((!Lib.itoa (ck (nth Ty.str l x_0)).1 == nth Ty.str l x_0)=false->(zc x_0=zc x_0/\List.length (zc x_0) + List.length [(ck (nth Ty.str l x_0)).1]<=(1000000000:Nat))/\((aK (↑x_0:Int))->((aK (1:Int))->(aK ((↑x_0:Int) + (1:Int)))/\(∃(x':Nat),(x'<=za/\∀(j:Nat),j < x'->Option.isNone (bD (nth Ty.str l j))=false)/\za - x' < za - x_0/\((↑x_0:Int) + (1:Int)=(↑x':Int)/\zd x_0=cV (List.take x' l)/\True)/\zd x_0=cV (List.take x' l)/\@List.nil Int = @List.nil Int/\True))))))))/\((decide ((↑x_0:Int) < (↑za:Int)))=false->((zc x_0,true)=av l))))))) (by kernel_rfl) ?_
 dsimp -iota -proj -eta only
 refine fun h0=>⟨(⟨0,⟨Nat.zero_le _,fun j hj=>absurd hj (Nat.not_lt_zero _)⟩,⟨rfl,rfl,trivial⟩,rfl,trivial⟩),fun x_0 q_0=>iL (fun h1=>⟨(by omega),(Nat.le_trans (hp.2 _) (by decide)),iB (fun h2=>(lG (i:=x_0) (by omega) (by rw [kG,h2];rfl))) (fun h2=>⟨trivial,⟨fun h3 => ?a,fun h3=>⟨?b,fun h4 h5=>⟨?c,?d⟩⟩⟩⟩)⟩) (fun h1=>(tR (i:=x_0) (by omega) (fun j hj _=>q_0.2 j hj)))⟩
 case a=>
  simp only [bl,reduceCtorEq] at h3
  exact lG (i:=x_0) (by omega) (by rw [kG,decide_eq_false h3];simp)
 case b=>
  simp only [bl,reduceCtorEq] at h3
  exact ⟨rfl,by unfold cV;simp only [List.length_map,List.length_take,List.length_singleton];omega⟩
 case c=>
  simp only [bl,reduceCtorEq] at h3
  simp only [aK,au] at *;omega
 case d=>
  simp only [bl,reduceCtorEq] at h3
  exact ⟨x_0 + 1,⟨by omega,pG q_0.2 (by rw [kG,h2,decide_eq_true h3];rfl)⟩,by omega,⟨by omega,(nC (by omega)).symm,trivial⟩,(nC (by omega)).symm,(by trivial)⟩
theorem Tryd.r5:bO Tryd.prog Tryd.B.eT Tryd.X 12 [.slice .str] [.slice (.int .i64), .bool] (fun l=>l.length<=1000000/\∀i,(nth .str l i).length<=1000000) (fun x y=>y=(fun l=>av l) x):=
 dI (X:=Tryd.X) Tryd.rj Tryd.func12 (by kernel_rfl) (fun x=>nI x) (fun x hw hp=>r4 x hw hp)
noncomputable def Tryd.o5:List (FuncId × (Bool × b7)):=[(9,(true,bC [.int .i64] [.str] (fun _=>True) (fun n=>Lib.itoa n))),
 (18,(true,bC [.str] [.int .i64, .err] (fun s=>s.length<=281474976710656) (fun s=>ck s))),
 (11,(true,bC [.str, .str] [.str] (fun _=>True) (fun x=>Lib.trimSuffix x.1 x.2))),
 (10,(true,bC [.str, .str] [.slice .str] (fun x=>x.1.length < 4294967281/\x.2.length=1) (fun x=>parts (xS x.2) x.1))),
 (12,(true,bC [.slice .str] [.slice (.int .i64), .bool] (fun l=>l.length<=1000000/\∀i,(nth .str l i).length<=1000000) (fun l=>av l))),
 (4,(true,bC [af] [.str, .err] (fun _=>True) (fun e=>aF e)))]
theorem Tryd.r6:df Tryd.prog Tryd.B Tryd.X Tryd.o5:=
 cL (aC Tryd.mv) (cL (aC Tryd.rb) (cL (aC Tryd.jJ) (cL (aC Tryd.re) (cL (aC Tryd.r5) (cL (aC Tryd.ri) (jr Tryd.jy))))))
def Tryd.o6 (s:List UInt8):da:=[
 (300004,fun st=>{X:=List Int × Bool,inv:=fun y=>fP (parts 32 (Lib.trimSuffix s [10])) y,bR:=fun _=>0,bm:=fun y=>[(5,sD (.slice (.int .i64)) y.1),(6,sB y.2)],aV:=[0,2,3,4]}),
 (300005,fun st=>{X:=Bool,inv:=fun c=>c=false ↔ fk (parts 32 (Lib.trimSuffix s [10])),bR:=fun _=>0,bm:=fun c=>[(69,sB c)],aV:=[0,2,3,4,5]}),
 (300011,fun st=>{X:=List (List UInt8),inv:=fun x=>cI (parts 32 (Lib.trimSuffix s [10])) x (Int.toNat (gm (.int .i64) st 8)),bR:=fun _=>0,bm:=fun x=>[(9,sD (.slice .str) x)],aV:=[0,2,3,4,5,7,8,82,83,84,85]}),
 (0,fun st=>{X:=Nat,inv:=fun i=>i<=(Int.toNat (nth (.int .i64) (gm (.slice (.int .i64)) st 5) 0)) + (Int.toNat (nth (.int .i64) (gm (.slice (.int .i64)) st 5) 1)),bR:=fun i=>(Int.toNat (nth (.int .i64) (gm (.slice (.int .i64)) st 5) 0)) + (Int.toNat (nth (.int .i64) (gm (.slice (.int .i64)) st 5) 1)) - i,bm:=fun i=>[(83,sI i)],ad:=fun i=>[(eS st 7, .cells 25 [.d .str (nth .str (parts 32 (Lib.trimSuffix s [10])) 0), .app ae (aO aG (parts 32 (Lib.trimSuffix s [10])) (Nat.min i (Int.toNat (nth (.int .i64) (gm (.slice (.int .i64)) st 5) 0)))) (kU st (eS st 7) 1), .app ag (aB aG (parts 32 (Lib.trimSuffix s [10])) (Int.toNat (nth (.int .i64) (gm (.slice (.int .i64)) st 5) 0)) (i - (Int.toNat (nth (.int .i64) (gm (.slice (.int .i64)) st 5) 0)))) (kU st (eS st 7) 2)]),(kU st (eS st 7) 1, .tok ae (aO aG (parts 32 (Lib.trimSuffix s [10])) (Nat.min i (Int.toNat (nth (.int .i64) (gm (.slice (.int .i64)) st 5) 0))))),(kU st (eS st 7) 2, .tok ag (aB aG (parts 32 (Lib.trimSuffix s [10])) (Int.toNat (nth (.int .i64) (gm (.slice (.int .i64)) st 5) 0)) (i - (Int.toNat (nth (.int .i64) (gm (.slice (.int .i64)) st 5) 0)))))],aV:=[0,2,4,5,7,82],kq:=[eS st 7,kU st (eS st 7) 1,kU st (eS st 7) 2]})]
theorem vp (s:List UInt8) (hw:iv [.str] s) (hp:(fun s=>s.length<=100000) s):(fz Tryd.B Tryd.o5 Tryd.f6 (Tryd.o6 s) [.str] [af, .err] (fun x y=>y=(fun s=>cu s) x) s).holds:=by
 refine holds_of (p:=
  let za:=Lib.trimSuffix s [(10:UInt8)]
  let zb:=parts (32:UInt8) za
  let zc:=List.length zb<=au
  let zd:=(↑(List.length zb):Int)
  let ze:=(([],[],[],()),bj.no (4:Int))=cu s
  let zf:=(0:Int)<=(1:Int)
  let zg:=List.drop (1:Nat) (List.take (3:Nat) zb)
  let zh:=@List.nil (List UInt8 × Int × Int × Unit) = @List.nil (List UInt8 × Int × Int × Unit)
  let zi:=@List.nil (Int × Int × Int × Unit) = @List.nil (Int × Int × Int × Unit)
  let zj:=(@List.nil UInt8 = @List.nil UInt8/\zh/\zi/\True)/\zi/\zh/\True
  let zk:=fk zb
  let zl:=∃(x':Bool),(x'=false ↔ zk)/\(true=x'/\True)/\zj
  let zm:=(0:Int)<=(0:Int)
  let zn:=fun (x_0:List Int × Bool)=>zm/\(0:Int) < (↑(List.length x_0.1):Int)
  let zo:=Ty.int IntKind.i64
  let zp:=fun (x_0:List Int × Bool)=>nth zo x_0.1 (0:Nat)
  let zq:=fun (x_0:List Int × Bool)=>zf/\(1:Int) < (↑(List.length x_0.1):Int)
  let zr:=fun (x_0:List Int × Bool)=>nth zo x_0.1 (1:Nat)
  let zs:=fun (x_0:List Int × Bool)=>aK (zp x_0 + zr x_0)
  let zt:=aK (3:Int)
  let zu:=fun (x_1:Int)=>(3:Int) + x_1
  let zv:=fun (x_0:List Int × Bool)=>Int.toNat (zp x_0)
  let zw:=fun (x_0:List Int × Bool)=>zv x_0 + Int.toNat (zr x_0)
  let zx:=nth Ty.str zb (0:Nat)
  let zy:=zx=zx
  let zz:=fun (x_2:Nat)=>aK (↑x_2:Int)
  let zaa:=fun (x_2:Nat) (x_0:List Int × Bool)=>aO aG zb (Nat.min x_2 (zv x_0))
  let zab:=fun (x_0:List Int × Bool) (x_2:Nat)=>aB aG zb (zv x_0) (x_2 - zv x_0)
  let zac:=zi/\zh/\zj
  let zad:=fun (x_3:List (List UInt8))=>(↑(List.length x_3):Int)
  let zae:=fun (x_3:List (List UInt8))=>List.drop (1:Nat) (List.take (List.length x_3) x_3)
  let zaf:=fun (x_3:List (List UInt8))=>(av (zae x_3)).1
  let zag:=fun (x_3:List (List UInt8))=>[(nth Ty.str x_3 (0:Nat),nth zo (zaf x_3) (0:Nat),nth zo (zaf x_3) (1:Nat),())]
  let zah:=fun (x_2:Nat)=>(↑x_2:Int) + (1:Int)
  let zai:=fun (x_3:List (List UInt8))=>(av x_3).1
  let zaj:=fun (x_3:List (List UInt8))=>(↑(List.length (zai x_3)):Int)
  let zak:=fun (x_3:List (List UInt8))=>[(nth zo (zai x_3) (0:Nat),nth zo (zai x_3) (1:Nat),nth zo (zai x_3) (2:Nat),())]
  (True)/\(List.length za < (4294967281:Nat)/\List.length [(32:UInt8)]=(1:Nat))/\((zc)->(((decide (zd < (3:Int)))=true->(ze))/\((decide (zd < (3:Int)))=false->(((zf/\(1:Int)<=(3:Int)/\(3:Int)<=zd)/\(List.length zg<=(1000000:Nat)/\∀(i:Nat),List.length (nth Ty.str zg i)<=(1000000:Nat))/\(∃(x':List Int × Bool),fP zb x'/\((av zg).1=x'.1/\(av zg).2=x'.2/\True)/\zj))/\((∀x_0:List Int × Bool,((fP zb x_0)->(((((!x_0.2)=true->(zl))/\((!x_0.2)=false->(zn x_0)/\(((decide (zp x_0 < (0:Int)))=true->(zl))/\((decide (zp x_0 < (0:Int)))=false->(zn x_0)/\(((decide (zp x_0 > (6:Int)))=true->(zl))/\((decide (zp x_0 > (6:Int)))=false->(zq x_0)/\(((decide (zr x_0 < (0:Int)))=true->(zl))/\((decide (zr x_0 < (0:Int)))=false->(zq x_0)/\(((decide (zr x_0 > (36:Int)))=true->(zl))/\((decide (zr x_0 > (36:Int)))=false->((zc)->(zn x_0)/\(zq x_0)/\((aK (zp x_0))->((aK (zr x_0))->(zs x_0)/\(∀x_1:Int,((x_1=(3:Int) * (zp x_0 + zr x_0))->((zt)->((zs x_0)->(aK x_1)/\((zt)->((aK x_1)->(aK (zu x_1))/\(∃(x':Bool),(x'=false ↔ zk)/\((zd != zu x_1)=x'/\True)/\zj)))))))))))))))))))))/\((∀x_1:Bool,((x_1=false ↔ zk)->(((x_1)=true->(ze))/\((x_1)=false->(zm/\(0:Int) < zd)/\(zn x_0)/\(zq x_0)/\((aK (zp x_0))->((aK (zr x_0))->(zs x_0)/\(∃(x:Nat),x<=zw x_0/\((0:Int)=(↑x:Int)/\True)/\(zy/\@List.nil (List UInt8 × Int × Int × Unit)=aO aG zb (Nat.min x (zv x_0))/\@List.nil (Int × Int × Int × Unit)=aB aG zb (zv x_0) (x - zv x_0)/\True)/\@List.nil (List UInt8 × Int × Int × Unit)=aO aG zb (Nat.min x (zv x_0))/\@List.nil (Int × Int × Int × Unit)=aB aG zb (zv x_0) (x - zv x_0)/\True)/\(∀x_2:Nat,((x_2<=zw x_0)->(((decide ((↑x_2:Int) < zp x_0 + zr x_0))=true->(((∀x_3:Int,((x_3=(3:Int) * (↑x_2:Int))->((zt)->((zz x_2)->(aK x_3)/\((zt)->((aK x_3)->(aK (zu x_3))/\(∀x_4:Int,((x_4=(3:Int) * (↑x_2:Int))->((zt)->((zz x_2)->(aK x_4)/\((aK (6:Int))->((aK x_4)->(aK ((6:Int) + x_4))/\((0:Int)<=zu x_3/\zu x_3<=(6:Int) + x_4/\(6:Int) + x_4<=zd)/\(∃(x':List (List UInt8)),cI zb x' x_2/\(List.drop (Int.toNat (zu x_3)) (List.take (Int.toNat ((6:Int) + x_4)) zb)=x'/\True)/\(zy/\zaa x_2 x_0=zaa x_2 x_0/\zab x_0 x_2=zab x_0 x_2/\True)/\zaa x_2 x_0=zaa x_2 x_0/\zab x_0 x_2=zab x_0 x_2/\zac))))))))))))))/\((∀x_3:List (List UInt8),((cI zb x_3 x_2)->(zn x_0)/\(((decide ((↑x_2:Int) < zp x_0))=true->(zf/\(1:Int)<=zad x_3/\zad x_3<=zad x_3)/\(List.length (zae x_3)<=(1000000:Nat)/\∀(i:Nat),List.length (nth Ty.str (zae x_3) i)<=(1000000:Nat))/\(((!(av (zae x_3)).2)=true->(ze))/\((!(av (zae x_3)).2)=false->(zm/\(0:Int) < zad x_3)/\(zm/\(0:Int) < (↑(List.length (zaf x_3)):Int))/\(zf/\(1:Int) < (↑(List.length (zaf x_3)):Int))/\(zaa x_2 x_0=zaa x_2 x_0/\List.length (zaa x_2 x_0) + List.length (zag x_3)<=(1000000000:Nat))/\((zz x_2)->((aK (1:Int))->(aK (zah x_2))/\(∃(x':Nat),x'<=zw x_0/\zw x_0 - x' < zw x_0 - x_2/\(zah x_2=(↑x':Int)/\True)/\(zy/\zaa x_2 x_0++zag x_3=aO aG zb (Nat.min x' (zv x_0))/\zab x_0 x_2=aB aG zb (zv x_0) (x' - zv x_0)/\True)/\zaa x_2 x_0++zag x_3=aO aG zb (Nat.min x' (zv x_0))/\zab x_0 x_2=aB aG zb (zv x_0) (x' - zv x_0)/\zac))))))/\((decide ((↑x_2:Int) < zp x_0))=false->(List.length x_3<=(1000000:Nat)/\∀(i:Nat),List.length (nth Ty.str x_3 i)<=(1000000:Nat))/\(((!(av x_3).2)=true->(ze))/\((!(av x_3).2)=false->(zm/\(0:Int) < zaj x_3)/\(zf/\(1:Int) < zaj x_3)/\((0:Int)<=(2:Int)/\(2:Int) < zaj x_3)/\(zab x_0 x_2=zab x_0 x_2/\List.length (zab x_0 x_2) + List.length (zak x_3)<=(1000000000:Nat))/\((zz x_2)->((aK (1:Int))->(aK (zah x_2))/\(∃(x':Nat),x'<=zw x_0/\zw x_0 - x' < zw x_0 - x_2/\(zah x_2=(↑x':Int)/\True)/\(zy/\zaa x_2 x_0=aO aG zb (Nat.min x' (zv x_0))/\zab x_0 x_2++zak x_3=aB aG zb (zv x_0) (x' - zv x_0)/\True)/\zaa x_2 x_0=aO aG zb (Nat.min x' (zv x_0))/\zab x_0 x_2++zak x_3=aB aG zb (zv x_0) (x' - zv x_0)/\zac))))))))))))/\((decide ((↑x_2:Int) < zp x_0 + zr x_0))=false->(True)/\(((!bj.isNil (aF (zx,zaa x_2 x_0,zab x_0 x_2,())).2)=true->(ze))/\((!bj.isNil (aF (zx,zaa x_2 x_0,zab x_0 x_2,())).2)=false->(((!(aF (zx,zaa x_2 x_0,zab x_0 x_2,())).1 == s)=true->(ze))/\((!(aF (zx,zaa x_2 x_0,zab x_0 x_2,())).1 == s)=false->(((zx,zaa x_2 x_0,zab x_0 x_2,()),bj.nil)=cu s))))))))))))))))))))))))) (by kernel_rfl) ?_
 dsimp -iota -proj -eta only
 refine ⟨trivial,(by have:=od s [10];exact ⟨by omega,rfl⟩),fun h0=>iL (fun h1=>(qS (by omega))) (fun h1=>⟨⟨(by trivial),(xf hp 1 3),(⟨_,xh (by omega),⟨rfl,rfl,trivial⟩,(by trivial)⟩)⟩,fun x_0 q_0=>⟨iB (fun h2=>(⟨_,qR (q_0.2 h2),⟨rfl,trivial⟩,(by trivial)⟩)) (fun h2=>⟨?a,iL (fun h3=>(⟨_,qR (fun hd=>by have k0:=q_0.k0 hd;have:=hd.a0;omega),⟨rfl,trivial⟩,(by trivial)⟩)) (fun h3=>⟨?b,iL (fun h4=>(⟨_,qR (fun hd=>by have k0:=q_0.k0 hd;have:=hd.a6;omega),⟨rfl,trivial⟩,(by trivial)⟩)) (fun h4=>⟨?c,iL (fun h5=>(⟨_,qR (fun hd=>by have k1:=q_0.k1 hd;have:=hd.b0;omega),⟨rfl,trivial⟩,(by trivial)⟩)) (fun h5=>⟨?d,iL (fun h6=>(⟨_,qR (fun hd=>by have k1:=q_0.k1 hd;have:=hd.bg;omega),⟨rfl,trivial⟩,(by trivial)⟩)) (fun h6 h7=>⟨?e,?f,fun h8 h9=>⟨?g,fun x_1 q_1 h10 h11=>⟨?h,fun h12 h13=>⟨?i,(⟨_,xX (q_0.1 h2).2.1 (q_0.1 h2).2.2 (q_0.l0 h2) (q_0.l1 h2) (by omega) (by omega) (by omega) (by omega) q_1,⟨rfl,trivial⟩,(by trivial)⟩)⟩⟩⟩⟩)⟩)⟩)⟩)⟩),fun x_1 q_1=>⟨fun h2=>(rU (fun hd=>by rw [q_1.2 hd] at h2;cases h2)),fun h2=>⟨(by omega),?j,?k,fun h3 h4=>⟨?l,(⟨0,Nat.zero_le _,⟨rfl,trivial⟩,⟨rfl,ve _ _ _,wL _ _ _,trivial⟩,ve _ _ _,wL _ _ _,(by trivial)⟩),fun x_2 q_2=>iL (fun h5=>⟨fun x_3 q_3 h6 h7=>⟨?m,fun h8 h9=>⟨?n,fun x_4 q_4 h10 h11=>⟨?o,fun h12 h13=>⟨?p,(by have hd:=(q_1.1 h2);have k0:=q_0.k0 hd;have k1:=q_0.k1 hd;have a0:=hd.a0;have a6:=hd.a6;have b0:=hd.b0;have bg:=hd.bg;have hl:=hd.len;omega),(⟨_,u9 q_3 q_4 (by have hd:=(q_1.1 h2);have k0:=q_0.k0 hd;have k1:=q_0.k1 hd;have a0:=hd.a0;have a6:=hd.a6;have b0:=hd.b0;have bg:=hd.bg;have hl:=hd.len;omega),⟨rfl,trivial⟩,(by trivial)⟩)⟩⟩⟩⟩,fun x_3 q_3=>⟨?q,iL (fun h6=>⟨?r,(tS q_3 (hH hp)),iB (fun h7=>(rV q_3 (by have hd:=(q_1.1 h2);have k0:=q_0.k0 hd;have k1:=q_0.k1 hd;have a0:=hd.a0;have a6:=hd.a6;have b0:=hd.b0;have bg:=hd.bg;have hl:=hd.len;omega) h7)) (fun h7=>⟨?s,?t,?u,⟨rfl,rW (by have hd:=(q_1.1 h2);have k0:=q_0.k0 hd;have k1:=q_0.k1 hd;have a0:=hd.a0;have a6:=hd.a6;have b0:=hd.b0;have bg:=hd.bg;have hl:=hd.len;omega)⟩,fun h8 h9=>⟨?v,(by exact ⟨x_2 + 1,by have hd:=(q_1.1 h2);have k0:=q_0.k0 hd;have k1:=q_0.k1 hd;have a0:=hd.a0;have a6:=hd.a6;have b0:=hd.b0;have bg:=hd.bg;have hl:=hd.len;omega,by have hd:=(q_1.1 h2);have k0:=q_0.k0 hd;have k1:=q_0.k1 hd;have a0:=hd.a0;have a6:=hd.a6;have b0:=hd.b0;have bg:=hd.bg;have hl:=hd.len;omega,⟨by omega,trivial⟩,⟨rfl,o3 q_3 h7 (by have hd:=(q_1.1 h2);have k0:=q_0.k0 hd;have k1:=q_0.k1 hd;have a0:=hd.a0;have a6:=hd.a6;have b0:=hd.b0;have bg:=hd.bg;have hl:=hd.len;omega),o4 (by have hd:=(q_1.1 h2);have k0:=q_0.k0 hd;have k1:=q_0.k1 hd;have a0:=hd.a0;have a6:=hd.a6;have b0:=hd.b0;have bg:=hd.bg;have hl:=hd.len;omega),trivial⟩,o3 q_3 h7 (by have hd:=(q_1.1 h2);have k0:=q_0.k0 hd;have k1:=q_0.k1 hd;have a0:=hd.a0;have a6:=hd.a6;have b0:=hd.b0;have bg:=hd.bg;have hl:=hd.len;omega),o4 (by have hd:=(q_1.1 h2);have k0:=q_0.k0 hd;have k1:=q_0.k1 hd;have a0:=hd.a0;have a6:=hd.a6;have b0:=hd.b0;have bg:=hd.bg;have hl:=hd.len;omega),(by trivial)⟩)⟩⟩)⟩) (fun h6=>⟨(va q_3 (hH hp)),iB (fun h7=>(qV q_3 (by have hd:=(q_1.1 h2);have k0:=q_0.k0 hd;have k1:=q_0.k1 hd;have a0:=hd.a0;have a6:=hd.a6;have b0:=hd.b0;have bg:=hd.bg;have hl:=hd.len;omega) (by have hd:=(q_1.1 h2);have k0:=q_0.k0 hd;have k1:=q_0.k1 hd;have a0:=hd.a0;have a6:=hd.a6;have b0:=hd.b0;have bg:=hd.bg;have hl:=hd.len;omega) h7)) (fun h7=>⟨?w,?x,?y,⟨rfl,vg (by have hd:=(q_1.1 h2);have k0:=q_0.k0 hd;have k1:=q_0.k1 hd;have a0:=hd.a0;have a6:=hd.a6;have b0:=hd.b0;have bg:=hd.bg;have hl:=hd.len;omega)⟩,fun h8 h9=>⟨?z,(by exact ⟨x_2 + 1,by have hd:=(q_1.1 h2);have k0:=q_0.k0 hd;have k1:=q_0.k1 hd;have a0:=hd.a0;have a6:=hd.a6;have b0:=hd.b0;have bg:=hd.bg;have hl:=hd.len;omega,by have hd:=(q_1.1 h2);have k0:=q_0.k0 hd;have k1:=q_0.k1 hd;have a0:=hd.a0;have a6:=hd.a6;have b0:=hd.b0;have bg:=hd.bg;have hl:=hd.len;omega,⟨by omega,trivial⟩,⟨rfl,nF (by have hd:=(q_1.1 h2);have k0:=q_0.k0 hd;have k1:=q_0.k1 hd;have a0:=hd.a0;have a6:=hd.a6;have b0:=hd.b0;have bg:=hd.bg;have hl:=hd.len;omega),qX q_3 h7 (by have hd:=(q_1.1 h2);have k0:=q_0.k0 hd;have k1:=q_0.k1 hd;have a0:=hd.a0;have a6:=hd.a6;have b0:=hd.b0;have bg:=hd.bg;have hl:=hd.len;omega),trivial⟩,nF (by have hd:=(q_1.1 h2);have k0:=q_0.k0 hd;have k1:=q_0.k1 hd;have a0:=hd.a0;have a6:=hd.a6;have b0:=hd.b0;have bg:=hd.bg;have hl:=hd.len;omega),qX q_3 h7 (by have hd:=(q_1.1 h2);have k0:=q_0.k0 hd;have k1:=q_0.k1 hd;have a0:=hd.a0;have a6:=hd.a6;have b0:=hd.b0;have bg:=hd.bg;have hl:=hd.len;omega),(by trivial)⟩)⟩⟩)⟩)⟩⟩) (fun h5=>⟨trivial,iB (fun h6 => ?a0) (fun h6=>⟨fun h7 => ?a1,fun h7 => ?a2⟩)⟩)⟩⟩⟩⟩⟩)⟩
 case a|b|c|d|e|f=>rw [(q_0.1 h2).1];simp
 case g|h|i|v=>simp only [aK,au] at *;omega
 case j|k|q=>rw [q_0.get (q_1.1 h2)];simp
 case l|m|n|o|p|z=>have hd:=(q_1.1 h2);have k0:=q_0.k0 hd;have k1:=q_0.k1 hd;have a0:=hd.a0;have a6:=hd.a6;have b0:=hd.b0;have bg:=hd.bg;have hl:=hd.len;simp only [aK] at *;omega
 case r|s=>rw [q_3.len];simp
 case t|u=>rw [o1 q_3 h7];simp
 case w|x|y=>rw [qU q_3 h7];simp
 case a0=>
  rw [qY (a:=Int.toNat (nth (.int .i64) x_0.1 0)) (b:=Int.toNat (nth (.int .i64) x_0.1 1)) (by have hd:=(q_1.1 h2);have k0:=q_0.k0 hd;have k1:=q_0.k1 hd;have a0:=hd.a0;have a6:=hd.a6;have b0:=hd.b0;have bg:=hd.bg;have hl:=hd.len;omega)] at h6
  exact lJ (by have hd:=(q_1.1 h2);have k0:=q_0.k0 hd;have k1:=q_0.k1 hd;have a0:=hd.a0;have a6:=hd.a6;have b0:=hd.b0;have bg:=hd.bg;have hl:=hd.len;omega) (by have hd:=(q_1.1 h2);have k0:=q_0.k0 hd;have k1:=q_0.k1 hd;have a0:=hd.a0;have a6:=hd.a6;have b0:=hd.b0;have bg:=hd.bg;have hl:=hd.len;omega) (.inl h6)
 case a1=>
  simp only [bl,reduceCtorEq] at h7
  rw [qY (a:=Int.toNat (nth (.int .i64) x_0.1 0)) (b:=Int.toNat (nth (.int .i64) x_0.1 1)) (by have hd:=(q_1.1 h2);have k0:=q_0.k0 hd;have k1:=q_0.k1 hd;have a0:=hd.a0;have a6:=hd.a6;have b0:=hd.b0;have bg:=hd.bg;have hl:=hd.len;omega)] at h7
  exact lJ (by have hd:=(q_1.1 h2);have k0:=q_0.k0 hd;have k1:=q_0.k1 hd;have a0:=hd.a0;have a6:=hd.a6;have b0:=hd.b0;have bg:=hd.bg;have hl:=hd.len;omega) (by have hd:=(q_1.1 h2);have k0:=q_0.k0 hd;have k1:=q_0.k1 hd;have a0:=hd.a0;have a6:=hd.a6;have b0:=hd.b0;have bg:=hd.bg;have hl:=hd.len;omega) (.inr h7)
 case a2=>
  simp only [bl,reduceCtorEq] at h7
  exact o0 h6 h7
theorem Tryd.vq:bO Tryd.prog Tryd.B.eT Tryd.X 6 [.str] [af, .err] (fun s=>s.length<=100000) (fun x y=>y=(fun s=>cu s) x):=
 dI (X:=Tryd.X) Tryd.r6 Tryd.func6 (by kernel_rfl) (fun x=>Tryd.o6 x) (fun x hw hp=>vp x hw hp)
end Go.Proofs.YtgokjhhcfemnhabDoor

namespace Go.Proofs.YtgokjhhcfemnhabDoor
open Go.Vg Go.Mrl
def o7 (e:D af):da:=[
 (0,fun st=>{X:=Nat,inv:=fun i=>i<=e.2.1.length/\∀j,j < i->(nth ae e.2.1 j).1.length<=20,bR:=fun i=>e.2.1.length - i,bm:=fun i=>[(3,sI i)],aV:=[1]})]
theorem pq (e:D af) (hw:iv [af] e):(fz Tryd.B [] Tryd.f5 (o7 e) [af] [.bool] (fun e y=>y=true->iC e) e).holds:=by
 refine holds_of (p:=
  let za:=false=true->iC e
  let zb:=e.2.1
  let zc:=List.length zb
  let zd:=e.2.2.1
  let ze:=fun (x_0:Nat)=>List.length (nth ae zb x_0).1
  ((List.length e.1<=au)->(((decide ((↑(List.length e.1):Int) > (20:Int)))=true->(za))/\((decide ((↑(List.length e.1):Int) > (20:Int)))=false->((zc<=au)->(((decide ((↑zc:Int) > (8:Int)))=true->(za))/\((decide ((↑zc:Int) > (8:Int)))=false->((List.length zd<=au)->(((decide ((↑(List.length zd):Int) > (40:Int)))=true->(za))/\((decide ((↑(List.length zd):Int) > (40:Int)))=false->(∃(x:Nat),(x<=zc/\∀(j:Nat),j < x->List.length (nth ae zb j).1<=(20:Nat))/\((0:Int)=(↑x:Int)/\True)/\True)/\(∀x_0:Nat,((x_0<=zc/\∀(j:Nat),j < x_0->List.length (nth ae zb j).1<=(20:Nat))->((zc<=au)->(((decide ((↑x_0:Int) < (↑zc:Int)))=true->((0:Int)<=(↑x_0:Int)/\(↑x_0:Int) < (↑zc:Int))/\((ze x_0<=au)->(((decide ((↑(ze x_0):Int) > (20:Int)))=true->(za))/\((decide ((↑(ze x_0):Int) > (20:Int)))=false->((aK (↑x_0:Int))->((aK (1:Int))->(aK ((↑x_0:Int) + (1:Int)))/\(∃(x':Nat),(x'<=zc/\∀(j:Nat),j < x'->List.length (nth ae zb j).1<=(20:Nat))/\zc - x' < zc - x_0/\((↑x_0:Int) + (1:Int)=(↑x':Int)/\True)/\(e.1=e.1/\zb=zb/\zd=zd/\True)/\True)))))))/\((decide ((↑x_0:Int) < (↑zc:Int)))=false->(true=true->iC e)))))))))))))))) (by kernel_rfl) ?_
 dsimp -iota -proj -eta only
 refine fun h0=>iL (fun h1 => ?a) (fun h1 h2=>iL (fun h3 => ?b) (fun h3 h4=>iL (fun h5 => ?c) (fun h5=>⟨?d,fun x_0 q_0 h6=>iL (fun h7=>⟨(by omega),fun h8=>iL (fun h9 => ?e) (fun h9 h10 h11=>⟨(by simp only [aK,au] at *;omega),(⟨x_0 + 1,⟨by omega,pG q_0.2 (by omega)⟩,by omega,⟨by omega,trivial⟩,(by trivial)⟩)⟩)⟩) (fun h7=>(fun _=>⟨by omega,by omega,by omega,fun i hi=>q_0.2 i (by omega)⟩))⟩)))
 case a|b|c|e=>simp_all
 case d=>refine ⟨0,?_⟩;(repeat' (first | exact trivial | rfl | omega | assumption | apply And.intro))
theorem Tryd.pr:bO Tryd.prog Tryd.B.eT Tryd.X 5 [af] [.bool] (fun _=>True) (fun e y=>y=true->iC e):=
 dI (X:=Tryd.X) (jr Tryd.jy) Tryd.func5 (by kernel_rfl) (fun x=>o7 x) (fun x hw hp=>pq x hw)
end Go.Proofs.YtgokjhhcfemnhabDoor

namespace Go.Proofs.YtgokjhhcfemnhabDoor
open Go.Vg Go.Mrl
end Go.Proofs.YtgokjhhcfemnhabDoor

namespace Go.Proofs.YtgokjhhcfemnhabDoor
open Go.Vg Go.Mrl
def rk (a:List (D ag)) (b:List (D ag)):da:=[(0,fun st=>{X:=Nat,inv:=fun i=>i<=a.length/\∀j,j < i->nth ag a j=nth ag b j,bR:=fun i=>a.length - i,bm:=fun i=>[(5,sI i)],aV:=[0,1]})]
theorem oh (a:List (D ag)) (b:List (D ag)) (hw:iv [.slice ag, .slice ag] (a,b)):(fz Tryd.B [] Tryd.f13 (rk a b) [.slice ag, .slice ag] [.bool] (fun x y=>y=(fun x=>eh x.1 x.2) x) (a,b)).holds:=by
 refine holds_of (p:=
  let za:=List.length a
  let zb:=(↑(List.length b):Int)
  let zc:=false=eh a b
  ((za<=au)->((List.length b<=au)->((((↑za:Int) != zb)=true->(zc))/\(((↑za:Int) != zb)=false->(∃(x:Nat),(x<=za/\∀(j:Nat),j < x->nth ag a j=nth ag b j)/\((0:Int)=(↑x:Int)/\True)/\True)/\(∀x_0:Nat,((x_0<=za/\∀(j:Nat),j < x_0->nth ag a j=nth ag b j)->((za<=au)->(((decide ((↑x_0:Int) < (↑za:Int)))=true->((0:Int)<=(↑x_0:Int)/\(↑x_0:Int) < (↑za:Int))/\((0:Int)<=(↑x_0:Int)/\(↑x_0:Int) < zb)/\(((!(decide ((nth ag a x_0).1=(nth ag b x_0).1) && (decide ((nth ag a x_0).2.1=(nth ag b x_0).2.1) && (decide ((nth ag a x_0).2.2.1=(nth ag b x_0).2.2.1) && true))))=true->(zc))/\((!(decide ((nth ag a x_0).1=(nth ag b x_0).1) && (decide ((nth ag a x_0).2.1=(nth ag b x_0).2.1) && (decide ((nth ag a x_0).2.2.1=(nth ag b x_0).2.2.1) && true))))=false->((aK (↑x_0:Int))->((aK (1:Int))->(aK ((↑x_0:Int) + (1:Int)))/\(∃(x':Nat),(x'<=za/\∀(j:Nat),j < x'->nth ag a j=nth ag b j)/\za - x' < za - x_0/\((↑x_0:Int) + (1:Int)=(↑x':Int)/\True)/\True))))))/\((decide ((↑x_0:Int) < (↑za:Int)))=false->(true=eh a b))))))))))) (by kernel_rfl) ?_
 dsimp -iota -proj -eta only
 refine fun h0 h1=>iN (fun h2=>(uV (by assumption))) (fun h2=>⟨(⟨0,⟨by omega,fun j hj=>by omega⟩,⟨rfl,trivial⟩,trivial⟩),fun x_0 q_0 h3=>iL (fun h4=>⟨?a,?b,⟨fun h5 => ?c,fun h5 h6 h7=>⟨?d,?e⟩⟩⟩) (fun h4=>(tB (by assumption) (fun i hi=>q_0.2 i (by omega))))⟩)
 case a|b=>omega
 case c=>
  simp only [bl,reduceCtorEq] at h5
  exact wc (i:=x_0) (fun e=>by rw [e] at h5;simp at h5)
 case d=>
  simp only [bl,reduceCtorEq] at h5
  simp only [aK,au] at *;omega
 case e=>
  simp only [bl,reduceCtorEq] at h5
  have h:=h5;simp at h;exact ⟨x_0 + 1,⟨by omega,uU q_0.2 (Prod.ext h.1 (Prod.ext h.2.1 (Prod.ext h.2.2 rfl)))⟩,by omega,⟨by omega,trivial⟩,(by trivial)⟩
theorem Tryd.om:bO Tryd.prog Tryd.B.eT Tryd.X 13 [.slice ag, .slice ag] [.bool] (fun _=>True) (fun x y=>y=(fun x=>eh x.1 x.2) x):=
 dI (X:=Tryd.X) (jr Tryd.jy) Tryd.func13 (by kernel_rfl) (fun x=>rk x.1 x.2) (fun x hw hp=>oh x.1 x.2 hw)
end Go.Proofs.YtgokjhhcfemnhabDoor

namespace Go.Proofs.YtgokjhhcfemnhabDoor
open Go.Vg Go.Mrl
noncomputable def Tryd.o8:List (FuncId × (Bool × b7)):=[(13,(true,bC [.slice ag, .slice ag] [.bool] (fun _=>True) (fun x=>eh x.1 x.2)))]
theorem Tryd.r7:df Tryd.prog Tryd.B Tryd.X Tryd.o8:=
 cL (aC Tryd.om) (jr Tryd.jy)
def o9 (a:D af) (b:D af):da:=[
 (0,fun st=>{X:=Nat,inv:=fun i=>i<=List.length a.2.1,bR:=fun i=>List.length a.2.1 - i,bm:=fun i=>[(5,sI i)],aV:=[2,3]})]
theorem rl (a:D af) (b:D af) (hw:iv [af,af] (a,b)):(fz Tryd.B Tryd.o8 Tryd.f7 (o9 a b) [af,af] [.bool] (fun x y=>x.1=x.2->y=true) (a,b)).holds:=by
 refine holds_of (p:=
  let za:=a=b->false=true
  let zb:=a.2.1
  let zc:=List.length zb
  let zd:=b.2.1
  let ze:=(↑(List.length zd):Int)
  let zf:=b.2.2.1
  let zg:=a.2.2.1
  (((!a.1 == b.1)=true->(za))/\((!a.1 == b.1)=false->((zc<=au)->((List.length zd<=au)->((((↑zc:Int) != ze)=true->(za))/\(((↑zc:Int) != ze)=false->(∃(x:Nat),x<=zc/\((0:Int)=(↑x:Int)/\True)/\True)/\(∀x_0:Nat,((x_0<=zc)->((zc<=au)->(((decide ((↑x_0:Int) < (↑zc:Int)))=true->((0:Int)<=(↑x_0:Int)/\(↑x_0:Int) < (↑zc:Int))/\((0:Int)<=(↑x_0:Int)/\(↑x_0:Int) < ze)/\(((!((nth ae zb x_0).1 == (nth ae zd x_0).1 && (decide ((nth ae zb x_0).2.1=(nth ae zd x_0).2.1) && (decide ((nth ae zb x_0).2.2.1=(nth ae zd x_0).2.2.1) && true))))=true->(za))/\((!((nth ae zb x_0).1 == (nth ae zd x_0).1 && (decide ((nth ae zb x_0).2.1=(nth ae zd x_0).2.1) && (decide ((nth ae zb x_0).2.2.1=(nth ae zd x_0).2.2.1) && true))))=false->((aK (↑x_0:Int))->((aK (1:Int))->(aK ((↑x_0:Int) + (1:Int)))/\(∃(x':Nat),x'<=zc/\zc - x' < zc - x_0/\((↑x_0:Int) + (1:Int)=(↑x':Int)/\True)/\(b.1=b.1/\zd=zd/\zf=zf/\True)/\(a.1=a.1/\zb=zb/\zg=zg/\True)/\True))))))/\((decide ((↑x_0:Int) < (↑zc:Int)))=false->(True)/\(a=b->eh zg zf=true))))))))))))) (by kernel_rfl) ?_
 dsimp -iota -proj -eta only
 refine ⟨fun h0 => ?a,fun h0 h1 h2=>iN (fun h3 => ?b) (fun h3=>⟨?c,fun x_0 q_0 h4=>iL (fun h5=>⟨?d,?e,⟨fun h6 => ?f,fun h6 h7 h8=>⟨?g,?h⟩⟩⟩) (fun h5=>⟨trivial,?i⟩)⟩)⟩
 case a=>
  simp only [bl,reduceCtorEq] at h0
  intro e;subst e;exact absurd rfl h0
 case b=>
  simp only [bl,reduceCtorEq] at h0
  intro e;subst e;exact absurd rfl h3
 case c=>
  simp only [bl,reduceCtorEq] at h0
  exact ⟨0,by omega,⟨rfl,trivial⟩,trivial⟩
 case d|e=>
  simp only [bl,reduceCtorEq] at h0
  omega
 case f=>
  simp only [bl,reduceCtorEq] at h0 h6
  intro e;subst e;simp at h6
 case g=>
  simp only [bl,reduceCtorEq] at h0 h6
  simp only [aK,au] at *;omega
 case h=>
  simp only [bl,reduceCtorEq] at h0 h6
  exact ⟨x_0 + 1,by omega,by omega,⟨by omega,trivial⟩,(by trivial)⟩
 case i=>
  simp only [bl,reduceCtorEq] at h0
  intro e;subst e;exact decide_eq_true rfl
theorem Tryd.rm:bO Tryd.prog Tryd.B.eT Tryd.X 7 [af,af] [.bool] (fun _=>True) (fun x y=>x.1=x.2->y=true):=
 dI (X:=Tryd.X) Tryd.r7 Tryd.func7 (by kernel_rfl) (fun x=>o9 x.1 x.2) (fun x hw hp=>rl x.1 x.2 hw)
end Go.Proofs.YtgokjhhcfemnhabDoor

