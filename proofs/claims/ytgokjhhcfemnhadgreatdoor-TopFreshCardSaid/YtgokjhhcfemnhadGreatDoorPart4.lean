/- A part of the proof that the law TopFreshCard holds of the given program: facts that are used there. -/
import Derived.Test.YtgokjhhcfemnhadGreatDoorPart3
import Derived.Test.YtgokjhhcfemnhadGreatDoorChecked
import Derived.Lib.LaidTab
import Derived.Lib.ItoaNum
import Derived.Shelf.Strconv.Itoa3
import Derived.Shelf.Strconv.AtoiAll
import Derived.Shelf.Strings.Split
import Derived.Shelf.Small.Wraps
import Derived.Shelf.Strings.Prefix
import Derived.Shelf.LaysM
import Derived.Shelf.LaysC
import Derived.Sort.Grow
import Derived.Lib.SplitLaws
import Derived.Lib.Builder
import Derived.Lib.UnsafeStr
import Derived.Lib.Strings
import Derived.Lib.Slices
import Derived.Lib.Walk
import Derived.Laws.Externs
import Derived.Deep.Heap
import Derived.Shelf.RegionOpenPlain
import Derived.RangeFuncLeaves
import Derived.Shelf.Abstract
import Derived.WalkKit
import Derived.OwnWalkIn
import Derived.TacticsInMore
import Derived.LoopNIn
import Derived.LoopIn
import Derived.BigRegionIn
import Derived.Deep.LoopGhost
import Derived.Deep.RegionLaw
import Derived.Lib.SliceRun
import Derived.Shelf.SlicesG.Delete
import Derived.Deep.Upon
set_option linter.unusedSimpArgs false
set_option linter.unusedVariables false
set_option maxRecDepth 100000
set_option maxHeartbeats 4000000
set_option linter.defProp false
noncomputable section
open True renaming intro->ba
open List renaming length->bb,nil->bc,take->bd,drop->bj,map->bo,length_append->bt,length_singleton->bw,length_cons->bx,length_map->bz,length_nil->b3,length_take->b5,replicate->ch,length_replicate->cp,range->cr,drop_zero->c6,set->c7,take_of_length_le->c8,any->da,length_eq_zero_iff->dk,length_eq_one_iff->dn,length_drop->dw,mem_of_getElem?->ef,length_set->en,range_succ->ep,take_zero->er
open Int renaming toNat->bf,fdiv->cf,tmod->db,le_refl->dh,one_mul->du,le_of_lt_add_one->dz,toNat_natCast->e0
open Prod renaming snd->bg,fst->bh
open Go.IntKind renaming wrap->bk,i64->bm,u64->bu,u8->cd,bits->cj
open Go.Lib renaming itoa->bp,countB->bq,trimSuffix->br,splitB->b8,trimPrefix->cb,cell_of_heap->cc,hasPrefix->cy,atoiAll->dc,frozen_of_heap->de,TabIs->di,pow10Tab->dj,atoiSat->dm,nDigits_small->dT,decDigits_length->ec,splitB_all->ed,splitB_data->ee,run_unsafeSliceData_row->ej
open Nat renaming le_trans->b4,zero_le->b7,le_refl->b9,min->cg,not_lt_zero->cu,add_zero->dp,lt_div_iff_mul_lt->eo
open UInt8 renaming toNat->b6
open BitVec renaming ofInt->ca,toNat->cq
open Option renaming isNone->ck,map_eq_some_iff->cz,map_some->eg
open Go.Builtin renaming zeroCells->cm,clear_->dx,unsafeSliceData_->ei,unsafeString_->ek
open Go.Value renaming string->cn
open Bool renaming noConfusion->ct,eq_iff_iff->dy
open Go.Shelf renaming Ren->cw
open ByteArray renaming size->dd
open Array renaming length_toList->df
open Go.Result renaming andThen->dq
open Go.Oper renaming upon_value->dr
open Go.Deep renaming nblk_setCell->ds,blk_setCell_other->dt
open And renaming intro->dv
open Go.World renaming shape?->eh,os_setCells->eu,output_setCells->ew,heap_setCells_other->ey
open Go.Proofs.Lays renaming n103->e5,n102->e9,n146->fa
open Go.Proofs.LaysM renaming n171->e7
open Go.Proofs.LaysC renaming n172->e8
open Go.Extern.AbiNoEscape renaming same->fb
namespace Go.Proofs.YtgokjhhcfemnhadGreatDoor
open Go.Vg
def Tryz.B:Cx:={eT:=94,τ:=[(2,(.int .i64)),(3,(.int .i64)),(4,.bool),(5,(.int .u8)),(7,(.prod (.int .i64) (.prod (.int .i64) (.prod .bool (.prod (.int .u8) .unit))))),(9,.str),(12,(.int .u64)),(13,(.prod .str (.prod (.int .u64) .unit))),(18,(.prod .gC .unit)),(21,(.int .i32)),(22,(.slice cQ)),(23,.gC),(24,.gC),(25,.gC),(30,.err),(31,.err),(33,(.slice iH)),(36,(.slice .str)),(37,(.slice aB)),(40,(.slice (.int .i64))),(48,(.int .u64)),(50,(.slice aH)),(51,(.slice aR)),(52,aC),(53,aC),(54,cQ),(55,cQ),(66,.gC),(74,(.prod .gC (.prod .gC .unit))),(75,(.prod .gC (.prod .gC .unit))),(81,(.slice aS)),(82,(.slice bD)),(83,aB),(84,aB),(88,(.prod .str (.prod (.int .i64) .unit))),(89,(.prod .str (.prod (.int .i64) .unit))),(91,.gC),(92,(.prod .gC (.prod (.int .i64) .unit))),(93,(.prod .gC (.prod (.int .i64) .unit))),(94,(.int .i64)),(96,(.slice js)),(97,Ud),(98,Ud),(99,js),(100,js),(107,iH),(108,iH),(112,aH),(113,aH),(114,(.slice aC)),(116,(.prod .gC (.prod (.int .i64) (.prod (.slice aC) .unit)))),(117,(.prod .gC (.prod (.int .i64) (.prod (.slice aC) .unit)))),(138,(.slice (.slice (.int .i64)))),(148,aR),(149,aR),(157,(.slice (.int .u8))),(162,aS),(163,aS),(164,bD),(165,bD),(168,(.prod .gC (.prod (.slice (.int .u8)) .unit))),(169,(.prod .gC (.prod (.slice (.int .u8)) .unit))),(175,(.int .u64)),(179,(.slice bA)),(180,bA),(181,bA),(197,(.int .u32)),(214,(.int .i64)),(227,(.prod (.int .u8) (.prod (.int .u8) .unit))),(228,(.prod (.int .u8) (.prod (.int .u8) .unit))),(233,(.prod .str (.prod .str (.prod .err .unit)))),(234,(.prod .str (.prod .str (.prod .err .unit)))),(242,(.prod .str .unit)),(243,(.prod .str .unit))],Ah:=[(221,(24,5)),(226,(256,5)),(229,(16,228)),(236,(20,48)),(237,(65,5)),(245,(32,5)),(246,(64,5)),(249,(0,16))],Γ:=[],N:=0,eqs:=[],oF:=[25,66,167],qu:=[(91,(9,89))],sk:=[(169,5)]}
def Tryz.bQ:TyOK Tryz.prog Tryz.B:=UM (n:=16) (by kernel_rfl)
structure Tryz.Wq (w:World):Prop where
 pow:di Tryz.prog w "internal/strconv.uint64pow10" .u64 dj
 max:∃m,w.cell? ⟨0,0,none⟩=some (.int .i64 m)
 Xj:∃ev,w.cell? ⟨3,0,none⟩=some ev/\(ev=.nilIface\/∃te pe,ev=.iface te pe)
 Xk:∃ev,w.cell? ⟨4,0,none⟩=some ev/\(ev=.nilIface\/∃te pe,ev=.iface te pe)
def Tryz.Wr:Tryz.prog.globalNamed "internal/strconv.uint64pow10" =some 5:=by kernel_rfl
def yC{w:World}{b o:Nat}{v:Value}(h:w.cell? ⟨b,o,none⟩=some v):b<w.heap.size:=by
 unfold World.cell? at h;by_cases hb:b<w.heap.size
 ·exact hb
 ·have h0:w.heap[b]?=none:=Array.getElem?_eq_none (by omega)
  simp[h0]at h
def vB{w w':World}{b o:Nat}(h:w'.heap[b]?=w.heap[b]?):w'.cell? ⟨b,o,none⟩=w.cell? ⟨b,o,none⟩:=by
 unfold World.cell?;rw[h]
def QB{P:Program}{w w':World}{nm:String}{g:Nat}(hg:P.globalNamed nm=some g)(h:w'.heap[g]?=w.heap[g]?):w'.var? P nm=w.var? P nm:=by
 unfold World.var?;rw[hg];simp[h]
def Tryz.X:Ext:=
 {WO with
  vV:=Tryz.Wq
  DP:=[5,0,3,4]
  Gl:=fun{w} h b hb=>by
   obtain⟨h1,⟨m,h2⟩,⟨e3,h3,_⟩,⟨e4,h4,_⟩⟩:=h;simp only[List.mem_cons,List.not_mem_nil,or_false]at hb;rcases hb with rfl|rfl|rfl|rfl
   ·have h1':=World.var?_cell Tryz.Wr h1 0
    exact yC (v:=.int .u64 1) (by simpa[dj]using h1')
   ·exact yC h2
   ·exact yC h3
   ·exact yC h4
  Bm:=fun{w w'} h hb=>by
   obtain⟨h1,⟨m,h2⟩,⟨e3,h3,h5⟩,⟨e4,h4,h6⟩⟩:=h;refine⟨?_,⟨m,?_⟩,⟨e3,?_,h5⟩,⟨e4,?_,h6⟩⟩
   ·unfold di at h1 ⊢
    rw[QB Tryz.Wr (hb 5 (by simp))];exact h1
   ·rw[vB (hb 0 (by simp))];exact h2
   ·rw[vB (hb 3 (by simp))];exact h3
   ·rw[vB (hb 4 (by simp))];exact h4}
end Go.Proofs.YtgokjhhcfemnhadGreatDoor

namespace Go.Proofs.YtgokjhhcfemnhadGreatDoor
open Go.Vg Go.Mrl
def IK(s:List UInt8):dY:=[(0,fun st=>{X:=Nat,inv:=fun i=>i<=s.length/\∀j,j<i->kj j (dQ s j)=false,cB:=fun i=>s.length-i,bK:=fun i=>[(15,.s (.one (.d (.int .i64) i)))],aF:=fun _=>[],keep:=[0,14],gO:=[]})]
def Tn(s:List UInt8)(hw:gU [.str] s):(dM Tryz.B [] Tryz.f45 (IK s) [.str] [.err] (fun x y=>y=(fun s=>aJ (aP s)) x) s).holds:=by
 refine holds_of (p:=
  let za:=aJ (aP s)
  let zb:=aL.no 1=za
  let zc:=bb s
  let zd:=fun(F:Nat)=>(↑(b6 (dQ s F)):Int)
  let ze:=aL.no 3=za
  let zf:=fun(F:Nat)=>aM (↑F:Int)->aM 1->aM ((↑F:Int)+1)/\∃(x':Nat),(x'<=zc/\∀(j:Nat),j<x'->kj j (dQ s j)=false)/\zc-x'<zc-F/\((↑F:Int)+1=(↑x':Int)/\True)/\True
  let zg:=fun(F:Nat)=>((zd F != 95)=true->ze)/\((zd F != 95)=false->zf F)
  let zh:=fun(F:Nat)=>(((↑F:Int) == 0)=true->ze)/\(((↑F:Int) == 0)=false->((decide (zd F<48))=true->zg F)/\((decide (zd F<48))=false->((decide (zd F > 57))=true->zg F)/\((decide (zd F > 57))=false->zf F)))
  ((s == @bc UInt8)=true->zb)/\((s == @bc UInt8)=false->zc<=aN->((decide ((↑zc:Int) > 8))=true->zb)/\((decide ((↑zc:Int) > 8))=false->zc<=aN->(∃(x:Nat),(x<=zc/\∀(j:Nat),j<x->kj j (dQ s j)=false)/\(0=(↑x:Int)/\True)/\True)/\∀F:Nat,(F<=zc/\∀(j:Nat),j<F->kj j (dQ s j)=false)->((decide ((↑F:Int)<(↑zc:Int)))=true->(0<=(↑F:Int)/\(↑F:Int)<(↑zc:Int))/\((decide (zd F<97))=true->zh F)/\((decide (zd F<97))=false->((decide (zd F > 122))=true->zh F)/\((decide (zd F > 122))=false->zf F)))/\((decide ((↑F:Int)<(↑zc:Int)))=false->aL.nil=za)))) (by kernel_rfl) ?_
 dsimp -iota -proj -eta only;refine iQ (fun h0 =>?a) (fun h0 h1=>iL (fun h2 =>?b) (fun h2 h3=>⟨(⟨0,⟨by omega,fun j hj=>by omega⟩,⟨rfl,ba⟩,ba⟩),fun F q_0=>iL (fun h4=>⟨?c,iL (fun h5=>iQ (fun h6 =>?d) (fun h6=>iL (fun h7=>iN (fun h8 =>?e) (fun h8 h9 h10=>⟨?f,?g⟩)) (fun h7=>iL (fun h8=>iN (fun h9 =>?h) (fun h9 h10 h11=>⟨?i,?j⟩)) (fun h8 h9 h10=>⟨?k,?l⟩)))) (fun h5=>iL (fun h6=>iQ (fun h7 =>?m) (fun h7=>iL (fun h8=>iN (fun h9 =>?n) (fun h9 h10 h11=>⟨?o,?p⟩)) (fun h8=>iL (fun h9=>iN (fun h10 =>?q) (fun h10 h11 h12=>⟨?r,?s⟩)) (fun h9 h10 h11=>⟨?t,?u⟩)))) (fun h6 h7 h8=>⟨?v,?w⟩))⟩) (fun h4 =>?x)⟩))
 case a|b=>rw[FZ (by first|omega|simp[h0])];rfl
 case c|f|o|r|t=>omega
 case d|e|h|m|n|q=>
  have hl:s.length≠0:=fun e=>h0 (dk.1 e)
  rw[B0 (i:=F) (by omega) (by omega) (El.2 (by omega))];rfl
 case g|j|l|p|s|u|w=>exact⟨F+1,⟨by omega,Sf q_0.2 (JI.2 (by omega))⟩,by omega,⟨by omega,ba⟩,ba⟩
 case i|k|v=>simp only[aM,aN]at*;omega
 case x=>
  have hl:s.length≠0:=fun e=>h0 (dk.1 e)
  rw[Di (by omega) (fun i hi=>q_0.2 i (by omega))];rfl
def Tryz.jn:bX Tryz.prog Tryz.B.eT Tryz.X 45 [.str] [.err] (fun _=>True) (fun x y=>y=(fun s=>aJ (aP s)) x):=
 cG (X:=Tryz.X) (bR Tryz.bQ) Tryz.func45 (by kernel_rfl) (fun x=>IK x) (fun x hw hp=>Tn x hw)
def QC(e:aL)(hw:gU [.err] e):(dM Tryz.B [] Tryz.f17 [] [.err] [.int .i64] (fun x y=>y=(fun e=>kW e) x) e).holds:=by
 refine holds_of (p:=
  ((aL.isNil e)=true->0=kW e)/\((aL.isNil e)=false->((!aL.LS e)=true->(-1:Int)=kW e)/\((!aL.LS e)=false->aL.num e=kW e))) (by kernel_rfl) ?_
 refine⟨fun h0 =>?a,fun h0=>iB (fun h1 =>?b) (fun h1 =>?c)⟩
 case a|b|c=>cases e <;> simp_all [aL.isNil,aL.LS,aL.num,kW]
def Tryz.ir:bX Tryz.prog Tryz.B.eT Tryz.X 17 [.err] [.int .i64] (fun _=>True) (fun x y=>y=(fun e=>kW e) x):=
 cG (X:=Tryz.X) (bR Tryz.bQ) Tryz.func17 (by kernel_rfl) (fun _=>[]) (fun x hw hp=>QC x hw)
def Tryz.spZ0:Bool×aU:=(true,cD [.str] [.err] (fun _=>True) (fun s=>aJ (aP s)))
def Tryz.spZ1:Bool×aU:=(true,cD [.err] [.int .i64] (fun _=>True) (fun e=>kW e))
def Tryz.Lp:List (FuncId×(Bool×aU)):=[(45,Tryz.spZ0),(17,Tryz.spZ1)]
def Tryz.QD:bP Tryz.prog Tryz.B Tryz.X Tryz.Lp:=
 aQ (aE Tryz.jn) (aQ (aE Tryz.ir) (bR Tryz.bQ))
def Lq(e:D aC):dY:=[
 (0,fun st=>{X:=Nat,inv:=fun i=>i<=bb e.2.1/\∀j,j<i->eE (nth aH e.2.1 j)=0,cB:=fun i=>bb e.2.1-i,bK:=fun i=>[(34,sI i)],keep:=[1,32,33]}),
 (2,fun st=>{X:=Nat,inv:=fun i=>i<=bb e.2.2.1/\∀j,j<i->eO e.2.1.length (nth aR e.2.2.1 j)=0,cB:=fun i=>bb e.2.2.1-i,bK:=fun i=>[(73,sI i)],keep:=[1,71,72]})]
def QF(e:D aC)(hw:gU [aC] e):(dM Tryz.B Tryz.Lp Tryz.f46 (Lq e) [aC] [.err] (fun x y=>y=(fun e=>aJ (bB e)) x) e).holds:=by
 refine holds_of (p:=
  let za:=aJ (aP e.1)
  let zb:=aJ (bB e)
  let zc:=e.2.1
  let zd:=bb zc
  let ze:=zd<=aN
  let zf:=(↑zd:Int)
  let zg:=aL.no (2:Int)=zb
  let zh:=e.2.2.1
  let zi:=bb zh
  let zj:=fun(F:Nat)=>aJ (aP (nth aH zc F).1)
  let zk:=aL.no (1:Int)=zb
  let zl:=fun(F:Nat)=>(nth aH zc F).2.2.1
  let zm:=fun(F:Nat)=>(↑F:Int)+(1:Int)
  let zn:=(e.1=e.1/\zc=zc/\zh=zh/\True)/\True
  True/\((!aL.isNil za)=true->za=zb)/\((!aL.isNil za)=false->ze->((decide (zf<(1:Int)))=true->zg)/\((decide (zf<(1:Int)))=false->ze->((decide (zf > (6:Int)))=true->zg)/\((decide (zf > (6:Int)))=false->zi<=aN->((decide ((↑zi:Int) > (36:Int)))=true->zg)/\((decide ((↑zi:Int) > (36:Int)))=false->ze->(∃(x:Nat),(x<=zd/\∀(j:Nat),j<x->eE (nth aH zc j)=(0:Int))/\((0:Int)=(↑x:Int)/\True)/\True)/\∀F:Nat,(F<=zd/\∀(j:Nat),j<F->eE (nth aH zc j)=(0:Int))->((decide ((↑F:Int)<zf))=true->((0:Int)<=(↑F:Int)/\(↑F:Int)<zf)/\True/\((!aL.isNil (zj F))=true->zj F=zb)/\((!aL.isNil (zj F))=false->((decide ((nth aH zc F).2.1<(1:Int)))=true->zk)/\((decide ((nth aH zc F).2.1<(1:Int)))=false->((decide ((nth aH zc F).2.1 > (1000000:Int)))=true->zk)/\((decide ((nth aH zc F).2.1 > (1000000:Int)))=false->((decide (zl F<(0:Int)))=true->zk)/\((decide (zl F<(0:Int)))=false->((decide (zl F>=(256:Int)))=true->zk)/\((decide (zl F>=(256:Int)))=false->(16:Int)≠(0:Int)/\∀I:Int,I=db (zl F) (16:Int)->((I != (0:Int))=true->zk)/\((I != (0:Int))=false->aM (↑F:Int)->aM (1:Int)->aM (zm F)/\∃(x':Nat),(x'<=zd/\∀(j:Nat),j<x'->eE (nth aH zc j)=(0:Int))/\zd-x'<zd-F/\(zm F=(↑x':Int)/\True)/\zn)))))))/\((decide ((↑F:Int)<zf))=false->zi<=aN->(∃(x:Nat),(x<=zi/\∀(j:Nat),j<x->eO zd (nth aR zh j)=(0:Int))/\((0:Int)=(↑x:Int)/\True)/\True)/\∀I:Nat,(I<=zi/\∀(j:Nat),j<I->eO zd (nth aR zh j)=(0:Int))->((decide ((↑I:Int)<(↑zi:Int)))=true->((0:Int)<=(↑I:Int)/\(↑I:Int)<(↑zi:Int))/\((decide ((nth aR zh I).1<(0:Int)))=true->zk)/\((decide ((nth aR zh I).1<(0:Int)))=false->ze->((decide ((nth aR zh I).1>=zf))=true->zk)/\((decide ((nth aR zh I).1>=zf))=false->((decide ((nth aR zh I).2.1<(0:Int)))=true->zk)/\((decide ((nth aR zh I).2.1<(0:Int)))=false->((decide ((nth aR zh I).2.1>=(40:Int)))=true->zk)/\((decide ((nth aR zh I).2.1>=(40:Int)))=false->((decide ((nth aR zh I).2.2.1<(-2147483648:Int)))=true->zk)/\((decide ((nth aR zh I).2.2.1<(-2147483648:Int)))=false->((decide ((nth aR zh I).2.2.1 > (2147483647:Int)))=true->zk)/\((decide ((nth aR zh I).2.2.1 > (2147483647:Int)))=false->aM (↑I:Int)->aM (1:Int)->aM (zm I)/\∃(x':Nat),(x'<=zi/\∀(j:Nat),j<x'->eO zd (nth aR zh j)=(0:Int))/\zi-x'<zi-I/\(zm I=(↑x':Int)/\True)/\zn)))))))/\((decide ((↑I:Int)<(↑zi:Int)))=false->aL.nil=zb))))))) (by kernel_rfl) ?_
 dsimp -iota -proj -eta only;refine⟨ba,iB (fun h0=>(by rw[zL (nf (eV _) h0)])) (fun h0 h1=>iL (fun h2=>(by rw[qn (dE (by assumption:(aJ (aP e.1)).isNil=true)) (.inl (by omega))];rfl)) (fun h2 h3=>iL (fun h4=>(by rw[qn (dE (by assumption:(aJ (aP e.1)).isNil=true)) (.inr (.inl (by omega)))];rfl)) (fun h4 h5=>iL (fun h6=>(by rw[qn (dE (by assumption:(aJ (aP e.1)).isNil=true)) (.inr (.inr (by omega)))];rfl)) (fun h6 h7=>⟨?a,fun F q_0=>iL (fun h8=>⟨?b,ba,iB (fun h9=>(by have hp:=nf (eV _) h9;rw[(jB (dE (by assumption:(aJ (aP e.1)).isNil=true)) (iO (by omega) (by omega) (by omega)) q_0.2 (by omega) (Na hp) (by omega))])) (fun h9=>iL (fun h10=>(by rw[(jB (dE (by assumption:(aJ (aP e.1)).isNil=true)) (iO (by omega) (by omega) (by omega)) q_0.2 (by omega) (qH (dE h9) (.inl ‹_›)) (by decide))];rfl)) (fun h10=>iL (fun h11=>(by rw[(jB (dE (by assumption:(aJ (aP e.1)).isNil=true)) (iO (by omega) (by omega) (by omega)) q_0.2 (by omega) (qH (dE h9) (.inr (.inl ‹_›))) (by decide))];rfl)) (fun h11=>iL (fun h12=>(by rw[(jB (dE (by assumption:(aJ (aP e.1)).isNil=true)) (iO (by omega) (by omega) (by omega)) q_0.2 (by omega) (qH (dE h9) (.inr (.inr (.inl ‹_›)))) (by decide))];rfl)) (fun h12=>iE (fun h13=>(by rw[(jB (dE (by assumption:(aJ (aP e.1)).isNil=true)) (iO (by omega) (by omega) (by omega)) q_0.2 (by omega) (qH (dE h9) (.inr (.inr (.inr (.inl ‹_›))))) (by decide))];rfl)) (fun h13=>⟨(by trivial),fun I q_1=>iN (fun h14=>(by have hb:=HY h12 q_1;rw[(jB (dE (by assumption:(aJ (aP e.1)).isNil=true)) (iO (by omega) (by omega) (by omega)) q_0.2 (by omega) (qH (dE h9) (.inr (.inr (.inr (.inr (by rw[hb]at h14;exact(Int.lt_iff_le_and_ne.2 ⟨Int.emod_nonneg _ (by decide),fun e'=>h14 e'.symm⟩))))))) (by decide))];rfl)) (fun h14 h15 h16=>⟨?c,(by have hb:=HY h12 q_1;exact⟨F+1,⟨by omega,lV q_0.2 (HX (dE h9) h10 h11 h12 (dz (show _<(255:Int)+1 from h13)) (hb.symm.trans h14))⟩,by omega,⟨by omega,ba⟩,(by trivial)⟩)⟩)⟩)))))⟩) (fun h8 h9=>⟨?d,fun I q_1=>iL (fun h10=>⟨?e,iL (fun h11=>(by rw[(jC (dE (by assumption:(aJ (aP e.1)).isNil=true)) (iO (by omega) (by omega) (by omega)) (fun j hj=>q_0.2 j (by omega)) q_1.2 (by omega) (oV (.inl ‹_›)))];rfl)) (fun h11 h12=>iE (fun h13=>(by rw[(jC (dE (by assumption:(aJ (aP e.1)).isNil=true)) (iO (by omega) (by omega) (by omega)) (fun j hj=>q_0.2 j (by omega)) q_1.2 (by omega) (oV (.inr (.inl ‹_›))))];rfl)) (fun h13=>iL (fun h14=>(by rw[(jC (dE (by assumption:(aJ (aP e.1)).isNil=true)) (iO (by omega) (by omega) (by omega)) (fun j hj=>q_0.2 j (by omega)) q_1.2 (by omega) (oV (.inr (.inr (.inl ‹_›)))))];rfl)) (fun h14=>iE (fun h15=>(by rw[(jC (dE (by assumption:(aJ (aP e.1)).isNil=true)) (iO (by omega) (by omega) (by omega)) (fun j hj=>q_0.2 j (by omega)) q_1.2 (by omega) (oV (.inr (.inr (.inr (.inl ‹_›))))))];rfl)) (fun h15=>iL (fun h16=>(by rw[(jC (dE (by assumption:(aJ (aP e.1)).isNil=true)) (iO (by omega) (by omega) (by omega)) (fun j hj=>q_0.2 j (by omega)) q_1.2 (by omega) (oV (.inr (.inr (.inr (.inr (.inl ‹_›)))))))];rfl)) (fun h16=>iL (fun h17=>(by rw[(jC (dE (by assumption:(aJ (aP e.1)).isNil=true)) (iO (by omega) (by omega) (by omega)) (fun j hj=>q_0.2 j (by omega)) q_1.2 (by omega) (oV (.inr (.inr (.inr (.inr (.inr ‹_›)))))))];rfl)) (fun h17 h18 h19=>⟨?f,(⟨I+1,⟨by omega,lV q_1.2 (Cn ‹_› ‹_› ‹_› (dz (show _<(39:Int)+1 from h15)) ‹_› ‹_›)⟩,by omega,⟨by omega,ba⟩,(by trivial)⟩)⟩))))))⟩) (fun h10=>(by rw[EO (dE (by assumption:(aJ (aP e.1)).isNil=true)) (iO (by omega) (by omega) (by omega)) (fun j hj=>q_0.2 j (by omega)) (fun j hj=>q_1.2 j (by omega))];rfl))⟩)⟩))))⟩
 case a|d=>exact⟨0,⟨b7 _,fun j hj=>absurd hj (cu _)⟩,⟨rfl,ba⟩,ba⟩
 case b|e=>omega
 case c|f=>simp only[aM,aN]at*;omega
def Tryz.Fi:bX Tryz.prog Tryz.B.eT Tryz.X 46 [aC] [.err] (fun _=>True) (fun x y=>y=(fun e=>aJ (bB e)) x):=
 cG (X:=Tryz.X) Tryz.QD Tryz.func46 (by kernel_rfl) (fun x=>Lq x) (fun x hw hp=>QF x hw)
end Go.Proofs.YtgokjhhcfemnhadGreatDoor

namespace Go.Proofs.YtgokjhhcfemnhadGreatDoor
open Go.Shelf
def Tryz.Kd:cw:=⟨fun|103=>81|210=>102|206=>119|n=>n,fun|9=>9|4=>4|24=>159|3=>3|n=>n,fun|n=>n⟩
def Tryz.Vj:e5 Tryz.prog Tryz.Kd:={
 mixed:=by kernel_rfl
 f103:=Tryz.func81.trans (congrArg some (by kernel_rfl))
 f206:=Tryz.func119.trans (congrArg some (by kernel_rfl))
 f210:=Tryz.func102.trans (congrArg some (by kernel_rfl))
 t3:=Tryz.underlying3
 a3:=Tryz.isAgg3
 z3:=Tryz.sizeOf3
 v3:=Tryz.zeroValue3
 t4:=Tryz.underlying4
 a4:=Tryz.isAgg4
 z4:=Tryz.sizeOf4
 v4:=Tryz.zeroValue4
 t9:=Tryz.underlying9
 a9:=Tryz.isAgg9
 z9:=Tryz.sizeOf9
 v9:=Tryz.zeroValue9
 t24:=Tryz.underlying159
 a24:=Tryz.isAgg159
 z24:=Tryz.sizeOf159
 v24:=Tryz.zeroValue159}
open Go.RowKit in
def Tryz.strings_CutPrefix(s p:ByteArray)(w:World) :
  Calls Tryz.prog 81 #[.string s,.string p] w fun e w'=>e=.returned (.tuple #[.string ⟨(cb s.data.toList p.data.toList).toArray⟩,.bool (cy s.data.toList p.data.toList)])/\w'=w:=Any.strings_CutPrefix Tryz.Vj s p w
def Tryz.IL:cw:=⟨fun|171=>84|243=>107|246=>124|283=>139|284=>140|285=>141|286=>142|129=>149|317=>148|318=>150|319=>151|320=>152|337=>155|338=>156|n=>n,fun|3=>3|9=>9|2=>2|4=>4|171=>221|0=>0|53=>48|37=>157|5=>5|173=>224|212=>236|51=>197|20=>20|213=>237|46=>175|232=>245|233=>246|n=>n,fun|17=>5|18=>6|19=>7|n=>n⟩
def Tryz.To:e7 Tryz.prog Tryz.IL:={
 mixed:=by kernel_rfl
 f129:=Tryz.func149.trans (congrArg some (by kernel_rfl))
 f171:=Tryz.func84.trans (congrArg some (by kernel_rfl))
 f243:=Tryz.func107.trans (congrArg some (by kernel_rfl))
 f246:=Tryz.func124.trans (congrArg some (by kernel_rfl))
 f283:=Tryz.func139.trans (congrArg some (by kernel_rfl))
 f284:=Tryz.func140.trans (congrArg some (by kernel_rfl))
 f285:=Tryz.func141.trans (congrArg some (by kernel_rfl))
 f286:=Tryz.func142.trans (congrArg some (by kernel_rfl))
 f317:=Tryz.func148.trans (congrArg some (by kernel_rfl))
 f318:=Tryz.func150.trans (congrArg some (by kernel_rfl))
 f319:=Tryz.func151.trans (congrArg some (by kernel_rfl))
 f320:=Tryz.func152.trans (congrArg some (by kernel_rfl))
 f337:=Tryz.func155.trans (congrArg some (by kernel_rfl))
 f338:=Tryz.func156.trans (congrArg some (by kernel_rfl))
 t0:=Tryz.underlying0
 a0:=Tryz.isAgg0
 z0:=Tryz.sizeOf0
 v0:=Tryz.zeroValue0
 t2:=Tryz.underlying2
 a2:=Tryz.isAgg2
 z2:=Tryz.sizeOf2
 v2:=Tryz.zeroValue2
 t3:=Tryz.underlying3
 a3:=Tryz.isAgg3
 z3:=Tryz.sizeOf3
 v3:=Tryz.zeroValue3
 t4:=Tryz.underlying4
 a4:=Tryz.isAgg4
 z4:=Tryz.sizeOf4
 v4:=Tryz.zeroValue4
 t5:=Tryz.underlying5
 a5:=Tryz.isAgg5
 z5:=Tryz.sizeOf5
 v5:=Tryz.zeroValue5
 t9:=Tryz.underlying9
 a9:=Tryz.isAgg9
 z9:=Tryz.sizeOf9
 v9:=Tryz.zeroValue9
 t20:=Tryz.underlying20
 a20:=Tryz.isAgg20
 z20:=Tryz.sizeOf20
 v20:=Tryz.zeroValue20
 t37:=Tryz.underlying157
 a37:=Tryz.isAgg157
 z37:=Tryz.sizeOf157
 v37:=Tryz.zeroValue157
 t46:=Tryz.underlying175
 a46:=Tryz.isAgg175
 z46:=Tryz.sizeOf175
 v46:=Tryz.zeroValue175
 t51:=Tryz.underlying197
 a51:=Tryz.isAgg197
 z51:=Tryz.sizeOf197
 v51:=Tryz.zeroValue197
 t53:=Tryz.underlying48
 a53:=Tryz.isAgg48
 z53:=Tryz.sizeOf48
 v53:=Tryz.zeroValue48
 t171:=Tryz.underlying221
 a171:=Tryz.isAgg221
 z171:=Tryz.sizeOf221
 v171:=Tryz.zeroValue221
 t173:=Tryz.underlying224
 a173:=Tryz.isAgg224
 z173:=Tryz.sizeOf224
 v173:=Tryz.zeroValue224
 t212:=Tryz.underlying236
 a212:=Tryz.isAgg236
 z212:=Tryz.sizeOf236
 v212:=Tryz.zeroValue236
 t213:=Tryz.underlying237
 a213:=Tryz.isAgg237
 z213:=Tryz.sizeOf237
 t232:=Tryz.underlying245
 a232:=Tryz.isAgg245
 z232:=Tryz.sizeOf245
 v232:=Tryz.zeroValue245
 t233:=Tryz.underlying246
 a233:=Tryz.isAgg246
 z233:=Tryz.sizeOf246
 v233:=Tryz.zeroValue246
 g17:=by kernel_rfl
 g18:=by kernel_rfl
 g19:=by kernel_rfl
 i0:=by kernel_rfl
 i2:=by kernel_rfl
 i3:=by kernel_rfl
 i4:=by kernel_rfl
 i5:=by kernel_rfl
 i9:=by kernel_rfl
 i20:=by kernel_rfl
 i37:=by kernel_rfl
 i46:=by kernel_rfl
 i51:=by kernel_rfl
 i53:=by kernel_rfl
 i171:=by kernel_rfl
 i173:=by kernel_rfl
 i212:=by kernel_rfl
 i232:=by kernel_rfl
 i233:=by kernel_rfl
 m17:=by kernel_rfl
 m18:=by kernel_rfl
 m19:=by kernel_rfl}
open Go.RowKit Go.Sort Go.Lib in
def Tryz.strconv_Itoa(n:Int)(h0 : -9223372036854775808<=n)(h1:n<=9223372036854775807)(w:World)(htab:di Tryz.prog w "internal/strconv.uint64pow10" .u64 dj) :
  Calls Tryz.prog 84 #[.int .i64 n] w fun e w'=>e=.returned (.string ⟨(bp n).toArray⟩)/\∃k os,w'=grow (w.drewN k) os:=Any.strconv_Itoa Tryz.To n h0 h1 w htab
def Tryz.IM:cw:=⟨fun|172=>103|244=>120|245=>121|247=>133|279=>134|280=>135|281=>136|282=>137|287=>145|316=>146|171=>84|205=>147|321=>153|322=>154|243=>107|246=>124|283=>139|284=>140|285=>141|286=>142|129=>149|317=>148|318=>150|319=>151|320=>152|337=>155|338=>156|n=>n,fun|9=>9|3=>3|75=>31|76=>171|4=>4|5=>5|167=>214|37=>157|0=>0|85=>215|2=>2|168=>217|53=>48|175=>231|46=>175|210=>234|127=>192|145=>243|143=>241|21=>21|171=>221|173=>224|212=>236|51=>197|20=>20|213=>237|232=>245|233=>246|80=>174|n=>n,fun|15=>3|16=>4|17=>5|18=>6|19=>7|n=>n⟩
def Tryz.A5:e8 Tryz.prog Tryz.IM:={
 mixed:=by kernel_rfl
 f129:=Tryz.func149.trans (congrArg some (by kernel_rfl))
 f171:=Tryz.func84.trans (congrArg some (by kernel_rfl))
 f172:=Tryz.func103.trans (congrArg some (by kernel_rfl))
 f205:=Tryz.func147.trans (congrArg some (by kernel_rfl))
 f243:=Tryz.func107.trans (congrArg some (by kernel_rfl))
 f244:=Tryz.func120.trans (congrArg some (by kernel_rfl))
 f245:=Tryz.func121.trans (congrArg some (by kernel_rfl))
 f246:=Tryz.func124.trans (congrArg some (by kernel_rfl))
 f247:=Tryz.func133.trans (congrArg some (by kernel_rfl))
 f279:=Tryz.func134.trans (congrArg some (by kernel_rfl))
 f280:=Tryz.func135.trans (congrArg some (by kernel_rfl))
 f281:=Tryz.func136.trans (congrArg some (by kernel_rfl))
 f282:=Tryz.func137.trans (congrArg some (by kernel_rfl))
 f283:=Tryz.func139.trans (congrArg some (by kernel_rfl))
 f284:=Tryz.func140.trans (congrArg some (by kernel_rfl))
 f285:=Tryz.func141.trans (congrArg some (by kernel_rfl))
 f286:=Tryz.func142.trans (congrArg some (by kernel_rfl))
 f287:=Tryz.func145.trans (congrArg some (by kernel_rfl))
 f316:=Tryz.func146.trans (congrArg some (by kernel_rfl))
 f317:=Tryz.func148.trans (congrArg some (by kernel_rfl))
 f318:=Tryz.func150.trans (congrArg some (by kernel_rfl))
 f319:=Tryz.func151.trans (congrArg some (by kernel_rfl))
 f320:=Tryz.func152.trans (congrArg some (by kernel_rfl))
 f321:=Tryz.func153.trans (congrArg some (by kernel_rfl))
 f322:=Tryz.func154.trans (congrArg some (by kernel_rfl))
 f337:=Tryz.func155.trans (congrArg some (by kernel_rfl))
 f338:=Tryz.func156.trans (congrArg some (by kernel_rfl))
 t0:=Tryz.underlying0
 a0:=Tryz.isAgg0
 z0:=Tryz.sizeOf0
 v0:=Tryz.zeroValue0
 t2:=Tryz.underlying2
 a2:=Tryz.isAgg2
 z2:=Tryz.sizeOf2
 v2:=Tryz.zeroValue2
 t3:=Tryz.underlying3
 a3:=Tryz.isAgg3
 z3:=Tryz.sizeOf3
 v3:=Tryz.zeroValue3
 t4:=Tryz.underlying4
 a4:=Tryz.isAgg4
 z4:=Tryz.sizeOf4
 v4:=Tryz.zeroValue4
 t5:=Tryz.underlying5
 a5:=Tryz.isAgg5
 z5:=Tryz.sizeOf5
 v5:=Tryz.zeroValue5
 t9:=Tryz.underlying9
 a9:=Tryz.isAgg9
 z9:=Tryz.sizeOf9
 v9:=Tryz.zeroValue9
 t20:=Tryz.underlying20
 a20:=Tryz.isAgg20
 z20:=Tryz.sizeOf20
 v20:=Tryz.zeroValue20
 t21:=Tryz.underlying21
 a21:=Tryz.isAgg21
 z21:=Tryz.sizeOf21
 v21:=Tryz.zeroValue21
 t37:=Tryz.underlying157
 a37:=Tryz.isAgg157
 z37:=Tryz.sizeOf157
 v37:=Tryz.zeroValue157
 t46:=Tryz.underlying175
 a46:=Tryz.isAgg175
 z46:=Tryz.sizeOf175
 v46:=Tryz.zeroValue175
 t51:=Tryz.underlying197
 a51:=Tryz.isAgg197
 z51:=Tryz.sizeOf197
 v51:=Tryz.zeroValue197
 t53:=Tryz.underlying48
 a53:=Tryz.isAgg48
 z53:=Tryz.sizeOf48
 v53:=Tryz.zeroValue48
 t75:=Tryz.underlying31
 a75:=Tryz.isAgg31
 z75:=Tryz.sizeOf31
 v75:=Tryz.zeroValue31
 t76:=Tryz.underlying171
 a76:=Tryz.isAgg171
 z76:=Tryz.sizeOf171
 v76:=Tryz.zeroValue171
 t85:=Tryz.underlying215
 a85:=Tryz.isAgg215
 z85:=Tryz.sizeOf215
 v85:=Tryz.zeroValue215
 t127:=Tryz.underlying192
 a127:=Tryz.isAgg192
 z127:=Tryz.sizeOf192
 v127:=Tryz.zeroValue192
 t143:=Tryz.underlying241
 a143:=Tryz.isAgg241
 z143:=Tryz.sizeOf241
 v143:=Tryz.zeroValue241
 t145:=Tryz.underlying243
 a145:=Tryz.isAgg243
 z145:=Tryz.sizeOf243
 v145:=Tryz.zeroValue243
 t167:=Tryz.underlying214
 a167:=Tryz.isAgg214
 z167:=Tryz.sizeOf214
 v167:=Tryz.zeroValue214
 t168:=Tryz.underlying217
 a168:=Tryz.isAgg217
 z168:=Tryz.sizeOf217
 v168:=Tryz.zeroValue217
 t171:=Tryz.underlying221
 a171:=Tryz.isAgg221
 z171:=Tryz.sizeOf221
 v171:=Tryz.zeroValue221
 t173:=Tryz.underlying224
 a173:=Tryz.isAgg224
 z173:=Tryz.sizeOf224
 v173:=Tryz.zeroValue224
 t175:=Tryz.underlying231
 a175:=Tryz.isAgg231
 z175:=Tryz.sizeOf231
 v175:=Tryz.zeroValue231
 t210:=Tryz.underlying234
 a210:=Tryz.isAgg234
 z210:=Tryz.sizeOf234
 v210:=Tryz.zeroValue234
 t212:=Tryz.underlying236
 a212:=Tryz.isAgg236
 z212:=Tryz.sizeOf236
 v212:=Tryz.zeroValue236
 t213:=Tryz.underlying237
 a213:=Tryz.isAgg237
 z213:=Tryz.sizeOf237
 t232:=Tryz.underlying245
 a232:=Tryz.isAgg245
 z232:=Tryz.sizeOf245
 v232:=Tryz.zeroValue245
 t233:=Tryz.underlying246
 a233:=Tryz.isAgg246
 z233:=Tryz.sizeOf246
 v233:=Tryz.zeroValue246
 g15:=by kernel_rfl
 g16:=by kernel_rfl
 g17:=by kernel_rfl
 g18:=by kernel_rfl
 g19:=by kernel_rfl
 t80:=Tryz.underlying174
 a80:=Tryz.isAgg174
 z80:=Tryz.sizeOf174
 v80:=Tryz.zeroValue174
 i0:=by kernel_rfl
 i2:=by kernel_rfl
 i3:=by kernel_rfl
 i4:=by kernel_rfl
 i5:=by kernel_rfl
 i9:=by kernel_rfl
 i20:=by kernel_rfl
 i21:=by kernel_rfl
 i37:=by kernel_rfl
 i46:=by kernel_rfl
 i51:=by kernel_rfl
 i53:=by kernel_rfl
 i75:=by kernel_rfl
 i76:=by kernel_rfl
 i80:=by kernel_rfl
 i85:=by kernel_rfl
 i127:=by kernel_rfl
 i143:=by kernel_rfl
 i145:=by kernel_rfl
 i167:=by kernel_rfl
 i168:=by kernel_rfl
 i171:=by kernel_rfl
 i173:=by kernel_rfl
 i175:=by kernel_rfl
 i210:=by kernel_rfl
 i212:=by kernel_rfl
 i232:=by kernel_rfl
 i233:=by kernel_rfl
 m15:=by kernel_rfl
 m16:=by kernel_rfl
 m17:=by kernel_rfl
 m18:=by kernel_rfl
 m19:=by kernel_rfl
 c0:=by kernel_rfl
 c2:=by kernel_rfl
 c3:=by kernel_rfl
 c4:=by kernel_rfl
 c5:=by kernel_rfl
 c9:=by kernel_rfl
 c20:=by kernel_rfl
 c21:=by kernel_rfl
 c37:=by kernel_rfl
 c46:=by kernel_rfl
 c51:=by kernel_rfl
 c53:=by kernel_rfl
 c75:=by kernel_rfl
 c76:=by kernel_rfl
 c80:=by kernel_rfl
 c85:=by kernel_rfl
 c127:=by kernel_rfl
 c143:=by kernel_rfl
 c145:=by kernel_rfl
 c167:=by kernel_rfl
 c168:=by kernel_rfl
 c171:=by kernel_rfl
 c173:=by kernel_rfl
 c175:=by kernel_rfl
 c210:=by kernel_rfl
 c212:=by kernel_rfl
 c213:=by kernel_rfl
 c232:=by kernel_rfl
 c233:=by kernel_rfl}
open Go.RowKit in
def Tryz.strconv_Atoi_ok(s:ByteArray)(hmax:s.size<=9223372036854775806)(v:Int)(h:dc s.data.toList=.ok v)(w:World) :
  Calls Tryz.prog 103 #[.string s] w fun e w'=>e=.returned (.tuple #[.int .i64 v,.nilIface])/\(w'=w\/∃t,w'=Lib.bytesWorld w 5 t):=Any.strconv_Atoi_ok Tryz.A5 s hmax v h w
open Go.RowKit in
def Tryz.strconv_Atoi_syntax(s:ByteArray)(hlim:s.size<=281474976710656)(h:dc s.data.toList=Go.Lib.NumEnd.syntax)(ev:Value)(w:World)(hv:w.cell? ⟨3,0,none⟩=some ev)(hev:ev=.nilIface\/∃te pe,ev=.iface te pe) :
  Calls Tryz.prog 103 #[.string s] w fun e w'=>∃N,e=.returned (.tuple #[.int .i64 (0),.iface 217 (.pointer (some ⟨N,0,none⟩))])/\w.heap.size<=N/\w'.heap[N]?=some (.cells #[.string ⟨#[65,116,111,105]⟩,.string s,ev] 234 (0,0))/\Below w.heap.size w w':=Any.strconv_Atoi_syntax Tryz.A5 s hlim h ev w hv hev
open Go.RowKit in
def Tryz.strconv_Atoi_range(s:ByteArray)(hlim:s.size<=281474976710656)(h:dc s.data.toList=.range)(ev:Value)(w:World)(hv:w.cell? ⟨4,0,none⟩=some ev)(hev:ev=.nilIface\/∃te pe,ev=.iface te pe) :
  Calls Tryz.prog 103 #[.string s] w fun e w'=>∃N,e=.returned (.tuple #[.int .i64 (dm s.data.toList),.iface 217 (.pointer (some ⟨N,0,none⟩))])/\w.heap.size<=N/\w'.heap[N]?=some (.cells #[.string ⟨#[65,116,111,105]⟩,.string s,ev] 234 (0,0))/\Below w.heap.size w w':=Any.strconv_Atoi_range Tryz.A5 s hlim h ev w hv hev
def Tryz.Ke:cw:=⟨fun|102=>52|209=>80|207=>101|n=>n,fun|9=>9|4=>4|3=>3|n=>n,fun|n=>n⟩
def Tryz.Vk:e9 Tryz.prog Tryz.Ke:={
 mixed:=by kernel_rfl
 f102:=Tryz.func52.trans (congrArg some (by kernel_rfl))
 f207:=Tryz.func101.trans (congrArg some (by kernel_rfl))
 f209:=Tryz.func80.trans (congrArg some (by kernel_rfl))
 t3:=Tryz.underlying3
 a3:=Tryz.isAgg3
 z3:=Tryz.sizeOf3
 v3:=Tryz.zeroValue3
 t4:=Tryz.underlying4
 a4:=Tryz.isAgg4
 z4:=Tryz.sizeOf4
 v4:=Tryz.zeroValue4
 t9:=Tryz.underlying9
 a9:=Tryz.isAgg9
 z9:=Tryz.sizeOf9
 v9:=Tryz.zeroValue9}
open Go.RowKit Go.Lib in
def Tryz.strings_TrimSuffix(s p:ByteArray)(w:World)(hs:s.size<=9223372036854775807) :
  Calls Tryz.prog 52 #[.string s,.string p] w fun e w'=>e=.returned (.string ⟨(br s.data.toList p.data.toList).toArray⟩)/\w'=w:=Any.strings_TrimSuffix Tryz.Vk s p w hs
def Tryz.Kf:cw:=⟨fun|146=>51|221=>79|268=>98|138=>99|143=>100|195=>115|197=>116|218=>117|219=>118|260=>128|217=>129|225=>130|224=>131|267=>132|266=>143|314=>144|n=>n,fun|9=>9|31=>36|3=>3|4=>4|0=>0|105=>202|21=>21|5=>5|46=>175|119=>226|139=>229|138=>228|146=>198|51=>197|n=>n,fun|1=>0|3=>1|4=>2|n=>n⟩
def Tryz.Lr:fa Tryz.prog Tryz.Kf:={
 mixed:=by kernel_rfl
 f138:=Tryz.func99.trans (congrArg some (by kernel_rfl))
 f143:=Tryz.func100.trans (congrArg some (by kernel_rfl))
 f146:=Tryz.func51.trans (congrArg some (by kernel_rfl))
 f195:=Tryz.func115.trans (congrArg some (by kernel_rfl))
 f197:=Tryz.func116.trans (congrArg some (by kernel_rfl))
 f217:=Tryz.func129.trans (congrArg some (by kernel_rfl))
 f218:=Tryz.func117.trans (congrArg some (by kernel_rfl))
 f219:=Tryz.func118.trans (congrArg some (by kernel_rfl))
 f221:=Tryz.func79.trans (congrArg some (by kernel_rfl))
 f224:=Tryz.func131.trans (congrArg some (by kernel_rfl))
 f225:=Tryz.func130.trans (congrArg some (by kernel_rfl))
 f260:=Tryz.func128.trans (congrArg some (by kernel_rfl))
 f266:=Tryz.func143.trans (congrArg some (by kernel_rfl))
 f267:=Tryz.func132.trans (congrArg some (by kernel_rfl))
 f268:=Tryz.func98.trans (congrArg some (by kernel_rfl))
 f314:=Tryz.func144.trans (congrArg some (by kernel_rfl))
 t0:=Tryz.underlying0
 a0:=Tryz.isAgg0
 z0:=Tryz.sizeOf0
 v0:=Tryz.zeroValue0
 t3:=Tryz.underlying3
 a3:=Tryz.isAgg3
 z3:=Tryz.sizeOf3
 v3:=Tryz.zeroValue3
 t4:=Tryz.underlying4
 a4:=Tryz.isAgg4
 z4:=Tryz.sizeOf4
 v4:=Tryz.zeroValue4
 t5:=Tryz.underlying5
 a5:=Tryz.isAgg5
 z5:=Tryz.sizeOf5
 v5:=Tryz.zeroValue5
 t9:=Tryz.underlying9
 a9:=Tryz.isAgg9
 z9:=Tryz.sizeOf9
 v9:=Tryz.zeroValue9
 t21:=Tryz.underlying21
 a21:=Tryz.isAgg21
 z21:=Tryz.sizeOf21
 v21:=Tryz.zeroValue21
 t31:=Tryz.underlying36
 a31:=Tryz.isAgg36
 z31:=Tryz.sizeOf36
 v31:=Tryz.zeroValue36
 t46:=Tryz.underlying175
 a46:=Tryz.isAgg175
 z46:=Tryz.sizeOf175
 v46:=Tryz.zeroValue175
 t51:=Tryz.underlying197
 a51:=Tryz.isAgg197
 z51:=Tryz.sizeOf197
 v51:=Tryz.zeroValue197
 t105:=Tryz.underlying202
 a105:=Tryz.isAgg202
 z105:=Tryz.sizeOf202
 v105:=Tryz.zeroValue202
 t119:=Tryz.underlying226
 a119:=Tryz.isAgg226
 z119:=Tryz.sizeOf226
 t138:=Tryz.underlying228
 a138:=Tryz.isAgg228
 z138:=Tryz.sizeOf228
 v138:=Tryz.zeroValue228
 t139:=Tryz.underlying229
 a139:=Tryz.isAgg229
 z139:=Tryz.sizeOf229
 v139:=Tryz.zeroValue229
 t146:=Tryz.underlying198
 a146:=Tryz.isAgg198
 z146:=Tryz.sizeOf198
 v146:=Tryz.zeroValue198
 g1:=by kernel_rfl
 g3:=by kernel_rfl
 g4:=by kernel_rfl}
open Go.RowKit Go.Lib in
def Tryz.strings_Split(s sep:ByteArray)(m:Int)(w:World)(hs:s.size<4294967281)(hm:w.cell? ⟨0,0,none⟩=some (.int .i64 m))(h1:1<=sep.size) :
  Calls Tryz.prog 51 #[.string s,.string sep] w fun e w'=>
   e=.returned (.slice (some ⟨w.heap.size,0,none⟩) (bq s sep+1) (bq s sep+1))/\w'=w.alloc (.cells ((b8 sep 0 (bq s sep) s).map cn).toArray 9):=Any.strings_Split Tryz.Lr (by kernel_rfl) s sep m w hs hm h1
end Go.Proofs.YtgokjhhcfemnhadGreatDoor

namespace Go.Proofs.YtgokjhhcfemnhadGreatDoor
open Go.Vg Go.Mrl
def NL(w:World)(k:Nat)(os:Array Obj):Vg.Below w.heap.size w (Sort.grow (w.drewN k) os):=by
 refine⟨rfl,rfl,?_,fun i hi =>?_⟩
 ·show w.heap.size<=(w.heap++os).size
  simp
 ·show(w.heap++os)[i]?=w.heap[i]?
  rw[Array.getElem?_append,if_pos hi]
def Vl{eT:TypeId}{n:Int}{O:aI}{w:World}{v:Value}(h:VR eT (.int .i64) n O w v):v=.int .i64 n/\-9223372036854775808<=n/\n<=9223372036854775807:=by
 obtain⟨h1,h2,h3⟩:=VR.one rfl h;exact⟨by simpa using h1,h2,h3⟩
def nN{eT:TypeId}{s:List UInt8}{O:aI}{w:World}{v:Value}(h:VR eT .str s O w v):v=.string ⟨s.toArray⟩/\s.length<=aN:=by
 obtain⟨h1,h2⟩:=VR.one rfl h;exact⟨by simpa using h1,h2⟩
def IN{eT:TypeId}{s:List UInt8}{O:aI}{w:World}(h:s.length<=aN):VR eT .str s O w (.string ⟨s.toArray⟩):=VR.cJ rfl ⟨rfl,h⟩
def vC:∀(k u:Nat),u<10^(k+1)->Lib.nDigits u<=k+1
 |0,u,h=>by rw[dT (by simpa using h)];exact b9 _
 |k+1,u,h=>by
  by_cases hu:u<10
  ·rw[dT hu];omega
  ·rw[Lib.nDigits_big hu]
   have:=vC k (u / 10) (by rw[Nat.pow_succ]at h;omega);omega
def Tp{n:Int}(h0 : -9223372036854775808<=n)(h1:n<=9223372036854775807):(bp n).length<=21:=by
 unfold bp;split
 ·rw[bx,ec]
  have:=vC 19 n.natAbs (by omega);omega
 ·rw[ec]
  have:=vC 19 n.toNat (by omega);omega
def Tryz.oO:bX Tryz.prog Tryz.B.eT Tryz.X 84 [.int .i64] [.str] (fun _=>True) (fun n y=>y=bp n):=by
 refine⟨⟨Tryz.f84,Tryz.func84,by kernel_rfl,by kernel_rfl⟩,fun O w n vs hG hO ha _ =>?_⟩;obtain⟨v,rfl,hv⟩:=ha;obtain⟨rfl,h0,h1⟩:=Vl hv;refine(Tryz.strconv_Itoa n h0 h1 w hG.pow).mono ?_;rintro e w' ⟨rfl,k,os,rfl⟩;exact⟨[.string ⟨(bp n).toArray⟩],bp n,rfl,rfl,⟨_,rfl,IN (by have:=Tp h0 h1;unfold aN;omega)⟩,NL w k os⟩
def Tryz.se:bX Tryz.prog Tryz.B.eT Tryz.X 103 [.str] [.int .i64,.err] (fun s=>s.length<=281474976710656) (fun s y=>y=dZ s):=by
 refine⟨⟨Tryz.f103,Tryz.func103,by kernel_rfl,by kernel_rfl⟩,fun O w s vs hG hO ha hs =>?_⟩;obtain⟨v,rfl,hv⟩:=ha;obtain⟨rfl,hl⟩:=nN hv;have hsz:(⟨s.toArray⟩:ByteArray).size=s.length:=by simp[dd]
 have hsl:(⟨s.toArray⟩:ByteArray).data.toList=s:=by simp
 cases ha:dc s with
 |ok n=>
  refine(Tryz.strconv_Atoi_ok ⟨s.toArray⟩ (by rw[hsz];omega) n (by rw[hsl];exact ha) w).mono ?_;rintro e w' ⟨rfl,hw⟩;obtain⟨b0,b1⟩:=Lib.atoiAll_bounds ha;refine⟨[.int .i64 n,.nilIface],(n,.nil),rfl,by unfold dZ;rw[ha],⟨_,_,rfl,VR.cJ rfl ⟨rfl,b0,b1⟩,⟨_,rfl,VR.cJ rfl ⟨_,rfl,rfl⟩⟩⟩,?_⟩;rcases hw with rfl|⟨t,rfl⟩
  ·exact Vg.Below.refl _ _
  ·exact .of (Lib.bytesWorld_below _ _ _)
 |range=>
  obtain⟨ev,hv,he⟩:=hG.Xk;obtain⟨b0,b1⟩:=Lib.atoiSat_bounds s;have hA:=Tryz.strconv_Atoi_range ⟨s.toArray⟩ (by rw[hsz];exact hs) (by rw[hsl];exact ha) ev w hv he;rw[hsl]at hA;refine hA.mono ?_;rintro e w' ⟨N,rfl,_,_,hb⟩;exact⟨[.int .i64 (dm s),_],(dm s,.other),rfl,by unfold dZ;rw[ha],⟨_,_,rfl,VR.cJ rfl ⟨rfl,b0,b1⟩,⟨_,rfl,VR.cJ rfl ⟨_,rfl,_,_,rfl,by decide+kernel⟩⟩⟩,.of hb⟩
 |_=>
  obtain⟨ev,hv,he⟩:=hG.Xj;refine(Tryz.strconv_Atoi_syntax ⟨s.toArray⟩ (by rw[hsz];exact hs) (by rw[hsl];exact ha) ev w hv he).mono ?_;rintro e w' ⟨N,rfl,_,_,hb⟩;exact⟨[.int .i64 0,_],(0,.other),rfl,by unfold dZ;rw[ha],⟨_,_,rfl,VR.cJ rfl ⟨rfl,by decide,by decide⟩,⟨_,rfl,VR.cJ rfl ⟨_,rfl,_,_,rfl,by decide+kernel⟩⟩⟩,.of hb⟩
def Tryz.nu:bX Tryz.prog Tryz.B.eT Tryz.X 81 [.str,.str] [.str,.bool] (fun _=>True) (fun x y=>y=(cb x.1 x.2,cy x.1 x.2)):=by
 refine⟨⟨Tryz.f81,Tryz.func81,by kernel_rfl,by kernel_rfl⟩,fun O w x vs hG hO ha _ =>?_⟩;obtain⟨s,p⟩:=x;obtain⟨v,vs',rfl,hv,u,rfl,hu⟩:=ha;obtain⟨rfl,hl⟩:=nN hv;obtain⟨rfl,_⟩:=nN hu;refine(Tryz.strings_CutPrefix ⟨s.toArray⟩ ⟨p.toArray⟩ w).mono ?_;rintro e w' ⟨rfl,rfl⟩;have hle:(cb s p).length<=s.length:=by unfold cb;split <;> simp
 exact⟨[.string ⟨(cb s p).toArray⟩,.bool (cy s p)],_,rfl,rfl,⟨_,_,rfl,IN (b4 hle hl),_,rfl,VR.cJ rfl rfl⟩,Vg.Below.refl _ _⟩
def Tryz.my:bX Tryz.prog Tryz.B.eT Tryz.X 52 [.str,.str] [.str] (fun _=>True) (fun x y=>y=br x.1 x.2):=by
 refine⟨⟨Tryz.f52,Tryz.func52,by kernel_rfl,by kernel_rfl⟩,fun O w x vs hG hO ha _ =>?_⟩;obtain⟨s,p⟩:=x;obtain⟨v,vs',rfl,hv,u,rfl,hu⟩:=ha;obtain⟨rfl,hl⟩:=nN hv;obtain⟨rfl,_⟩:=nN hu;have hl:s.length<=aN:=hl;have hsz:(⟨s.toArray⟩:ByteArray).size=s.length:=by simp[dd]
 refine(Tryz.strings_TrimSuffix ⟨s.toArray⟩ ⟨p.toArray⟩ w (by rw[hsz];exact hl)).mono ?_;rintro e w' ⟨rfl,rfl⟩;have hle:(br s p).length<=s.length:=by unfold br;split <;> simp
 exact⟨[.string ⟨(br s p).toArray⟩],_,rfl,rfl,⟨_,rfl,IN (b4 hle hl)⟩,Vg.Below.refl _ _⟩
def Tryz.sf:bX Tryz.prog Tryz.B.eT Tryz.X 51 [.str,.str] [.slice .str] (fun x=>x.1.length<4294967281/\x.2.length=1) (fun x y=>y=parts (Hx x.2) x.1):=by
 refine⟨⟨Tryz.f51,Tryz.func51,by kernel_rfl,by kernel_rfl⟩,fun O w x vs hG hO ha hp =>?_⟩;obtain⟨s,p⟩:=x;obtain⟨hs,hp⟩:=hp;obtain⟨c,rfl⟩:∃c,p=[c]:=dn.1 hp
 obtain⟨v,vs',rfl,hv,u,rfl,hu⟩:=ha;obtain⟨rfl,hl⟩:=nN hv;obtain⟨rfl,_⟩:=nN hu;obtain⟨m,hm⟩:=hG.max;have hsz:(⟨s.toArray⟩:ByteArray).size=s.length:=by simp[dd]
 have h1:1<=(⟨#[c]⟩:ByteArray).size:=b9 1;refine(Tryz.strings_Split ⟨s.toArray⟩ ⟨#[c]⟩ m w (by rw[hsz];exact hs) hm h1).mono ?_;rintro e w' ⟨rfl,rfl⟩;have hlen:=ed ⟨#[c]⟩ h1 0 _ ⟨s.toArray⟩ rfl;have hdat:=ee ⟨#[c]⟩ 0 (bq ⟨s.toArray⟩ ⟨#[c]⟩) ⟨s.toArray⟩;have hcb:=Lib.countB_le ⟨#[c]⟩ h1 _ ⟨s.toArray⟩ (b9 _);have hd:(b8 ⟨#[c]⟩ 0 (bq ⟨s.toArray⟩ ⟨#[c]⟩) ⟨s.toArray⟩).map (·.data.toList)=parts c s:=by rw[hdat,<-rZ,<-Lib.count_one]
 have hlf:(parts c s).length=bq ⟨s.toArray⟩ ⟨#[c]⟩ +1:=by rw[<-hd,bz,hlen]
 refine⟨[_],parts c s,rfl,rfl,⟨_,rfl,VR.cJ rfl ⟨_,rfl,?_,.inr ⟨w.heap.size,0,bq ⟨s.toArray⟩ ⟨#[c]⟩ +1,by rw[hlf],by rw[hlf];exact b9 _,fun i y hy =>?_⟩⟩⟩,(Vg.Below.refl _ w).alloc (b9 _) _⟩
 ·rw[hlf];have hs:s.length<4294967281:=hs;rw[hsz]at hcb;unfold aN;omega
 ·have hyl:=oJ c s y (ef hy)
  refine⟨[.string ⟨y.toArray⟩],⟨rfl,b4 hyl hl⟩,fun j u hj=>⟨?_,fun hh =>?_⟩⟩
  ·have hj0:j=0:=by
    rcases j with _|j
    ·rfl
    ·simp at hj
   subst hj0;simp at hj;subst hj;rw[<-hd,List.getElem?_map,cz]at hy;obtain⟨q,hq,rfl⟩:=hy;have hh:(w.alloc (.cells ((b8 ⟨#[c]⟩ 0 (bq ⟨s.toArray⟩ ⟨#[c]⟩) ⟨s.toArray⟩).map cn).toArray 9)).heap[w.heap.size]?=some (.cells ((b8 ⟨#[c]⟩ 0 (bq ⟨s.toArray⟩ ⟨#[c]⟩) ⟨s.toArray⟩).map cn).toArray 9 (0,0)):=heap_alloc_new w _;rw[cc hh];simp only[Ty.size,Nat.mul_one,Nat.zero_add,dp,List.getElem?_toArray,List.getElem?_map,hq,eg]
  ·have:=hO _ _ hh
   simp at this
def Tryz.spZ2:Bool×aU:=(true,cD [.int .i64] [.str] (fun _=>True) (fun n=>bp n))
def Tryz.spZ3:Bool×aU:=(true,cD [aC] [.err] (fun _=>True) (fun e=>aJ (bB e)))
def Tryz.IP:List (FuncId×(Bool×aU)):=[(45,Tryz.spZ0),(17,Tryz.spZ1),(84,Tryz.spZ2),(46,Tryz.spZ3)]
def Tryz.NM:bP Tryz.prog Tryz.B Tryz.X Tryz.IP:=
 aQ (aE Tryz.jn) (aQ (aE Tryz.ir) (aQ (aE Tryz.oO) (aQ (aE Tryz.Fi) (bR Tryz.bQ))))
def IQ(e:D aC):dY:=[
 (0,fun st=>{X:=Nat,inv:=fun i=>i<=bb e.2.1,cB:=fun i=>bb e.2.1-i,bK:=fun i=>[(35,sI i),(6,sS (jI e i))],keep:=[1,2,3,5,33,34]}),
 (2,fun st=>{X:=Nat,inv:=fun i=>i<=bb e.2.2.1,cB:=fun i=>bb e.2.2.1-i,bK:=fun i=>[(60,sI i),(6,sS (ju e i))],keep:=[2,3,5,58,59]})]
def Tq(e:D aC)(hw:gU [aC] e):(dM (lU Tryz.B [23,30,47,53,68,74,80]) Tryz.IP Tryz.f90 (IQ e) [aC] [.str,.err] (fun x y=>y=(fun e=>dG e) x) e).holds:=by
 refine holds_of (p:=
  let za:=aJ (bB e)
  let zb:=[(32:UInt8)]
  let zc:=bb zb
  let zd:=e.2.1
  let ze:=bb zd
  let zf:=e.2.2.1
  let zg:=bb zf
  let zh:=bp (↑ze:Int)
  let zi:=e.1++zb++zh
  let zj:=bp (↑zg:Int)
  let zk:=fun(F:Nat)=>zb++(nth aH zd F).1
  let zl:=fun(F:Nat)=>bp (nth aH zd F).2.1
  let zm:=fun(F:Nat)=>zk F++zb++zl F++zb
  let zn:=fun(F:Nat)=>bp (nth aH zd F).2.2.1
  let zo:=fun(F:Nat)=>(↑F:Int)+1
  let zp:=(e.1=e.1/\zd=zd/\zf=zf/\True)/\True
  let zq:=fun(I:Nat)=>zb++bp (nth aR zf I).1
  let zr:=fun(I:Nat)=>zq I++zb++bp (nth aR zf I).2.1
  let zs:=fun(I:Nat)=>bp (nth aR zf I).2.2.1
  True/\((!aL.isNil za)=true->([],za)=dG e)/\((!aL.isNil za)=false->bb e.1+zc<=aN/\(ze<=aN->zg<=aN->True/\bb (e.1++zb)+bb zh<=aN/\bb zi+zc<=aN/\True/\bb (zi++zb)+bb zj<=aN/\(ze<=aN->(∃(x:Nat),x<=ze/\(0=(↑x:Int)/\zi++zb++zj=jI e x/\True)/\True)/\∀F:Nat,F<=ze->((decide ((↑F:Int)<(↑ze:Int)))=true->(0<=(↑F:Int)/\(↑F:Int)<(↑ze:Int))/\zc+bb (nth aH zd F).1<=aN/\bb (zk F)+zc<=aN/\True/\bb (zk F++zb)+bb (zl F)<=aN/\bb (zk F++zb++zl F)+zc<=aN/\True/\bb (zm F)+bb (zn F)<=aN/\bb (jI e F)+bb (zm F++zn F)<=aN/\(aM (↑F:Int)->aM 1->aM (zo F)/\∃(x':Nat),x'<=ze/\ze-x'<ze-F/\(zo F=(↑x':Int)/\jI e F++(zm F++zn F)=jI e x'/\True)/\zp))/\((decide ((↑F:Int)<(↑ze:Int)))=false->zg<=aN->(∃(x:Nat),x<=zg/\(0=(↑x:Int)/\jI e F=ju e x/\True)/\True)/\∀I:Nat,I<=zg->((decide ((↑I:Int)<(↑zg:Int)))=true->(0<=(↑I:Int)/\(↑I:Int)<(↑zg:Int))/\True/\zc+bb (bp (nth aR zf I).1)<=aN/\bb (zq I)+zc<=aN/\True/\bb (zq I++zb)+bb (bp (nth aR zf I).2.1)<=aN/\bb (zr I)+zc<=aN/\True/\bb (zr I++zb)+bb (zs I)<=aN/\bb (ju e I)+bb (zr I++zb++zs I)<=aN/\(aM (↑I:Int)->aM 1->aM (zo I)/\∃(x':Nat),x'<=zg/\zg-x'<zg-I/\(zo I=(↑x':Int)/\ju e I++(zr I++zb++zs I)=ju e x'/\True)/\zp))/\((decide ((↑I:Int)<(↑zg:Int)))=false->bb (ju e I)+bb [(10:UInt8)]<=aN/\(ju e I++[(10:UInt8)],aL.nil)=dG e)))))) (by kernel_rfl) ?_
 dsimp -iota -proj -eta only;refine⟨ba,iB (fun h0=>(Nk (fun e=>by rw[aK.2 e]at h0;cases h0))) (fun h0=>⟨?a,fun h1 h2=>⟨ba,?b,?c,ba,?d,fun h3=>⟨(⟨0,by omega,⟨rfl,(Nb e).symm,ba⟩,ba⟩),fun F q_0=>iL (fun h4=>⟨?e,?f,?g,ba,?h,?i,ba,?j,?k,fun h5 h6=>⟨?l,(⟨F+1,by omega,by omega,⟨by omega,Ni (by omega),ba⟩,(by trivial)⟩)⟩⟩) (fun h4 h5=>⟨(⟨0,by omega,⟨rfl,by rw[Nc,show F=e.2.1.length by omega],ba⟩,ba⟩),fun I q_1=>iL (fun h6=>⟨?m,ba,?n,?o,ba,?p,?q,ba,?r,?s,fun h7 h8=>⟨?t,(⟨I+1,by omega,by omega,⟨by omega,Nj (by omega),ba⟩,(by trivial)⟩)⟩⟩) (fun h6=>⟨(by have a:=(lE (aK.1 h0)).AL I;simp only[bt,bx,b3,aN];omega),(PT (aK.1 h0) (by omega))⟩)⟩)⟩⟩⟩)⟩
 case a|b|c|d=>have a:=(lE (aK.1 h0)).lens;simp only[bt,bx,b3,aN];omega
 case e|m=>omega
 case f|g|h|i|j|k=>have a:=(lE (aK.1 h0)).WR (i:=F) (by omega);simp only[bt,bx,b3,aN];omega
 case l|t=>simp only[aM,aN]at*;omega
 case n|o|p|q|r|s=>have a:=(lE (aK.1 h0)).WS (i:=I) (by omega);simp only[bt,bx,b3,aN];omega
def Tryz.IS:bX Tryz.prog Tryz.B.eT Tryz.X 90 [aC] [.str,.err] (fun _=>True) (fun x y=>y=(fun e=>dG e) x):=
 cG (B:=(lU Tryz.B [23,30,47,53,68,74,80])) (X:=Tryz.X) (bP.hint (l:=[23,30,47,53,68,74,80]) Tryz.NM) Tryz.func90 (by kernel_rfl) (fun x=>IQ x) (fun x hw hp=>Tq x hw)
end Go.Proofs.YtgokjhhcfemnhadGreatDoor

namespace Go.Proofs.YtgokjhhcfemnhadGreatDoor
open Go.RowKit Go.Vg
def Tryz.W7:(Tryz.prog.info? 169).map (·.size)=some 2:=by kernel_rfl
def Tryz.Xl:liesAt Tryz.prog Tryz.prog.depth 169 (2 / Tryz.prog.cellsOf 169) 0 169 1=true:=by kernel_rfl
set_option maxHeartbeats 1000000 in
set_option maxRecDepth 100000 in
def Tryz.NN(b:Nat)(v:Value)(w:World)(hb:w.heap[b]?=some (.cells #[.pointer (some ⟨b,0,none⟩),v] 169 (0,0))) :
  Calls Tryz.prog 108 #[.pointer (some ⟨b,0,none⟩)] w fun e w'=>e=.returned (.tuple #[])/\w'=w:=by
 obtain⟨j,hj,_⟩:=cz.1 Tryz.W7;have h0:w.cell? ⟨b,0,none⟩=some (.pointer (some ⟨b,0,none⟩)):=by rw[cc hb];rfl
 go_enter Tryz.func108,Tryz.ntmps108
 go_wp2
 rw[Lib.run_neq_ptr_same w _ Tryz.underlying167 hj]
 go_wp2
 go_end0
 exact⟨rfl,rfl⟩
set_option maxHeartbeats 1000000 in
set_option maxRecDepth 100000 in
def Tryz.Kg(b:Nat)(v:Value)(w:World)(hb:w.heap[b]?=some (.cells #[.pointer none,v] 169 (0,0))) :
  Calls Tryz.prog 108 #[.pointer (some ⟨b,0,none⟩)] w fun e w'=>e=.returned (.tuple #[])/\w'=w.setCell ⟨b,0,none⟩ (.pointer (some ⟨b,0,none⟩)):=by
 obtain⟨j,hj,hjs⟩:=cz.1 Tryz.W7;have h0:w.cell? ⟨b,0,none⟩=some (.pointer none):=by rw[cc hb];rfl
 have hsh:w.shape? b=some (169,2):=by simp[eh,hb]
 have hfz:w.frozen? ⟨b,0,none⟩=false:=de hb 0
 go_enter Tryz.func108,Tryz.ntmps108
 go_wp2
 rw[Lib.run_to_unsafe w ⟨b,0,none⟩ Tryz.underlying167 Tryz.underlying209 hj (by rw[hjs];decide) hsh (Nat.zero_lt_succ 1)];simp only[dq];rw[dr]
 go_wp2
 rw[run_callFunc_extern Tryz.func125 (by kernel_rfl) (by kernel_rfl) (by kernel_rfl) (e:=fb) (by kernel_rfl)];rw[Lib.run_noEscape];simp only[dq];rw[dr]
 go_wp2
 rw[Lib.run_from_unsafe w ⟨b,0,none⟩ Tryz.underlying209 Tryz.underlying167 hj hsh Tryz.Xl];simp only[dq];rw[dr]
 go_wp2
 go_end0
 exact⟨rfl,rfl⟩
def Tryz.Xm:(Tryz.prog.info? 5).map (fun i=>(i.zero,i.size,i.bytes))=some (some (.int .u8 0),1,1):=by kernel_rfl
def Tryz.Xf:Tryz.prog.cellsOf 5=1:=by kernel_rfl
set_option maxHeartbeats 2000000 in
set_option maxRecDepth 100000 in
def Tryz.QG(b:Nat)(p v:Value)(xs:List Value)(s:ByteArray)(w:World)(hb:w.heap[b]?=some (.cells #[p,v] 169 (0,0)))(hp:p=.pointer none\/p=.pointer (some ⟨b,0,none⟩))
  (hown:w.ownsRow 0 5 1 v xs.length xs)(hne:v.ownBlock≠some b)(hcap:∀a n c,v=.slice (some a) n c->0<c)(hlen:xs.length+s.size<=140737488355328) :
  Calls Tryz.prog 85 #[.pointer (some ⟨b,0,none⟩),.string s] w fun e w'=>e=.returned (.tuple #[.int .i64 s.size,.nilIface])/\
   ∃v',w'.heap[b]?=some (.cells #[.pointer (some ⟨b,0,none⟩),v'] 169 (0,0))/\w'.ownsRow 0 5 1 v' (xs.length+s.size) (xs++Lib.strCells s)/\v'.ownBlock≠some b/\Kept b v w w'/\
    (∀a n c,v'=.slice (some a) n c->0<c)/\(∀g,v'.ownBlock=some g->v.ownBlock=some g\/w.heap.size<=g):=by
 obtain⟨i0,hi,hz0⟩:=cz.1 Tryz.Xm;simp only[Prod.mk.injEq]at hz0;obtain⟨hz0,hz1,hz2⟩:=hz0;have hchk:Calls Tryz.prog 108 #[.pointer (some ⟨b,0,none⟩)] w fun e w1=>e=.returned (.tuple #[])/\w1.heap[b]?=some (.cells #[.pointer (some ⟨b,0,none⟩),v] 169 (0,0))/\
   w1.os=w.os/\w1.output=w.output/\w1.heap.size=w.heap.size/\∀k,k≠b->w1.heap[k]?=w.heap[k]?:=by
  rcases hp with rfl|rfl
  ·refine(Tryz.Kg b v w hb).mono ?_
   rintro e w1 ⟨rfl,rfl⟩;exact⟨rfl,(Sd hb).trans (by simp),rfl,rfl,ds _ _ _,fun k hk=>dt _ _ _ _ hk⟩
  ·refine(Tryz.NN b v w hb).mono ?_
   rintro e w1 ⟨rfl,rfl⟩;exact⟨rfl,hb,rfl,rfl,rfl,fun _ _=>rfl⟩
 go_enter Tryz.func85,Tryz.ntmps85
 go_wp2_with (go_at_call 108;refine hchk.mono ?_)
 rintro e w1 ⟨rfl,hb1,ho1,hu1,hs1,hk1⟩;have hown1:w1.ownsRow 0 5 1 v xs.length xs:=by
  refine⟨hown.1,?_⟩;rcases hown.2 with h|⟨g,cap,cur,h1,h2,h3,h4⟩
  ·exact .inl h
  ·refine .inr ⟨g,cap,cur,h1,h2,?_,h4⟩
   rw[hk1 g (fun e=>hne (by rw[h1,e];rfl))];exact h3
 have c0:w1.cell? ⟨b,0,none⟩=some (.pointer (some ⟨b,0,none⟩)):=by rw[cc hb1];rfl
 have c1:w1.cell? ⟨b,1,none⟩=some v:=by rw[cc hb1];rfl
 obtain⟨v',w2,hrun,hown',hgrow,hcap',hnew⟩:=UN (t:=157) (u:=9) (ty:=157) Tryz.underlying157 Tryz.underlying9 hi hz0 hz1 hz2 hown1 hcap s hlen;have hlt:b<w1.heap.size:=(Array.getElem?_eq_some_iff.1 hb1).1;have hb2:w2.heap[b]?=some (.cells #[.pointer (some ⟨b,0,none⟩),v] 169 (0,0)):=by rw[hgrow.block b hlt (fun e=>hne e.symm)];exact hb1
 have d1:w2.cell? ⟨b,1,none⟩=some v:=by rw[cc hb2];rfl
 have f1:w2.frozen? ⟨b,1,none⟩=false:=de hb2 1;have hne':v'.ownBlock≠some b:=by
  intro e;rcases hown'.2 with⟨h,_⟩|⟨g',cap,cur,h,_,h3,_⟩
  ·rw[h]at e;cases e
  ·rw[h]at e
   cases e;rw[hb2]at h3;cases h3
 have hv1:∃a n c,v'=.slice a n c:=by
  rcases hown'.2 with⟨h,_⟩|⟨g',cap,cur,h,_⟩ <;> exact⟨_,_,_,h⟩
 obtain⟨va,vn,vc,rfl⟩:=hv1;rw[hs1]at hnew
 go_wp2_with (at_builtin;refine yF rfl _ _ 157 9 rfl rfl rfl hrun ?_)
 go_ret2
 refine⟨rfl,.slice va vn vc,(Sd hb2).trans (by simp),⟨hown'.1,?_⟩,hne',⟨hgrow.os.trans ho1,hgrow.output.trans hu1,?_,fun k h1 h2 h3 =>?_⟩,hcap',hnew⟩
 ·rcases hown'.2 with h|⟨g,cap,cur,h1,h2,h3,h4⟩
  ·exact .inl h
  ·refine .inr ⟨g,cap,cur,h1,h2,?_,h4⟩
   rw[dt _ _ _ _ (fun e=>hne' (by rw[h1,show g=b from e];rfl))];exact h3
 ·rw[ds];have:=hgrow.size;omega
 ·rw[dt _ _ _ _ (show k≠b from h2),hgrow.block k (by omega) (fun e=>h3 e.symm),hk1 k h2]
set_option maxHeartbeats 2000000 in
set_option maxRecDepth 100000 in
def Tryz.NO(b:Nat)(p v:Value)(l:List UInt8)(w:World)(hb:w.heap[b]?=some (.cells #[p,v] 169 (0,0)))(hown:w.ownsRow 0 5 1 v l.length (l.map fun c=>Value.int .u8 c.toNat))(hcap:∀a n c,v=.slice (some a) n c->0<c) :
  Calls Tryz.prog 88 #[.pointer (some ⟨b,0,none⟩)] w fun e w'=>e=.returned (.string ⟨l.toArray⟩)/\Mu v w w':=by
 have c1:w.drew.cell? ⟨b,1,none⟩=some v:=by
  have:w.drew.heap[b]?=some (.cells #[p,v] 169 (0,0)):=hb;rw[cc this];rfl
 have mixed:Tryz.prog.follows .mixedOrders=true:=by kernel_rfl
 by_cases h0:l=[]
 ·subst h0
  obtain⟨q,n,c,rfl,hn,hSD⟩:∃q n c,v=.slice q n c/\n=0/\(ei #[157] 192 #[v]).run Tryz.prog w.drew=.ok (.pointer q) w.drew:=by
   rcases hown.2 with⟨rfl,_⟩|⟨g,cap,cur,rfl,_⟩
   ·exact⟨none,0,0,rfl,rfl,Lib.run_unsafeSliceData_nil _ _ _ _ _⟩
   ·exact⟨_,_,_,rfl,rfl,ej _ _ _ _ _ _ (by have:=hcap _ _ _ rfl;omega)⟩
  subst hn;have hUS:(ek #[192,3] 9 #[.pointer q,.int .i64 0]).run Tryz.prog w.drew=.ok (.string .empty) w.drew:=Lib.run_unsafeString_none _ _ _ _ q
  go_enter Tryz.func88,Tryz.ntmps88
  go_wp2
  go_region_o
  all_goals (go_wp2;go_ret;exact⟨rfl,rfl,rfl,rfl,fun _ _=>rfl⟩)
 ·have hl0:l.length≠0:=by simpa using h0
  rcases hown.2 with⟨_,hz⟩|⟨g,cap,cur,rfl,hbg,hg,hnc,hcm,hcs,htake⟩
  ·exact absurd hz hl0
  have hSD:(ei #[157] 192 #[.slice (some ⟨g,0,none⟩) l.length cap]).run Tryz.prog w.drew=.ok (.pointer (some ⟨g,0,none⟩)) w.drew:=ej _ _ _ _ _ _ (by omega);have hUS:(ek #[192,3] 9 #[.pointer (some ⟨g,0,none⟩),.int .i64 l.length]).run Tryz.prog w.drew=.ok (.string ⟨l.toArray⟩) (w.drew.freeze ⟨g,0,none⟩ l.length):=by
   refine Lib.run_unsafeString_row w.drew 192 3 9 5 Tryz.underlying192 Tryz.Xf g cur.size (by have hg':w.drew.heap[g]?=some (.cells cur 5 (0,0)):=hg;simp[eh,hg']) l h0 (by omega) (by unfold maxLen at hcm;omega) ?_;intro j x hx;exact hown.cells (g:=g) rfl j (.int .u8 x.toNat) (by simp[hx])
  go_enter Tryz.func88,Tryz.ntmps88
  go_wp2
  go_region_o
  all_goals (go_wp2;go_ret;exact⟨rfl,JG⟩)
def Tryz.Vm(b:Nat)(p _q:Value)(a:Option Addr)(n c:Nat)(w:World)(hb:w.heap[b]?=some (.cells #[p,.slice a n c] 169 (0,0))) :
  Calls Tryz.prog 87 #[.pointer (some ⟨b,0,none⟩)] w fun r w'=>r=.returned (.int .i64 n)/\w'=w:=by
 have c1:w.cell? ⟨b,1,none⟩=some (.slice a n c):=by rw[cc hb];rfl
 go_enter Tryz.func87,Tryz.ntmps87
 go_wp2
 go_ret
 exact⟨rfl,rfl⟩
def Tryz.z6:bY Tryz.prog Tryz.B.eT Tryz.X 85 false (rU 169 5):=
 BZ ⟨Tryz.f85,Tryz.func85,by kernel_rfl,by kernel_rfl⟩ Tryz.QG
def Tryz.xM:bY Tryz.prog Tryz.B.eT Tryz.X 88 false (qD 169 5):=
 AE ⟨Tryz.f88,Tryz.func88,by kernel_rfl,by kernel_rfl⟩ Tryz.NO
def Tryz.Fj:bY Tryz.prog Tryz.B.eT Tryz.X 87 true (wN 169 5):=
 FY ⟨Tryz.f87,Tryz.func87,by kernel_rfl,by kernel_rfl⟩ Tryz.Vm
end Go.Proofs.YtgokjhhcfemnhadGreatDoor

namespace Go.Proofs.YtgokjhhcfemnhadGreatDoor
open Go.Vg Go.Mrl
@[reducible] def Tryz.bE:List Ob:=[.box 98 [.obj 1,.obj 2,.obj 3,.d (.int .i64),.d .bool],.row true .str,.row true .str,.tok js]
def Vn(s:List UInt8)(hw:gU [.str] s)(hp:(fun s=>s.length<=64) s):(dM Tryz.B [] Tryz.f68 [] [.str] [.str] (fun x y=>y=(fun s=>eI s) x) s).holds:=by
 refine holds_of (p:=
  let za:=bb s
  let zb:=64-(↑za:Int)
  let zc:=ch (bf zb) (bV (Ty.int cd))
  za<=aN->aM 64->aM (↑za:Int)->aM zb/\(0<=zb/\zb=zb/\zb<=1000000000)/\bb zc<=aN/\za+bb (bytesOf zc)<=aN/\s++bytesOf zc=eI s) (by kernel_rfl) ?_
 dsimp -iota -proj -eta only;exact fun h0 h1 h2=>⟨(by simp only[aM,aN]at*;omega),(by omega),(by simp only[cp,Gj];omega),(by simp only[bytesOf,bz,cp,Gj];omega),(by show s++bytesOf (ch _ 0)=_;rw[My,eI,show bf (64-(s.length:Int))=64-s.length by omega])⟩
def Tryz.Ls:bX Tryz.prog Tryz.B.eT Tryz.X 68 [.str] [.str] (fun s=>s.length<=64) (fun x y=>y=(fun s=>eI s) x):=
 cG (X:=Tryz.X) (bR Tryz.bQ) Tryz.func68 (by kernel_rfl) (fun _=>[]) (fun x hw hp=>Vn x hw hp)
def Ts(x:Int)(y:Int)(hw:gU [.int .u64,.int .u64] (x,y))(hp:(fun z=>z.1=1/\0<=z.2/\z.2<=1000000) (x,y)):(dM Tryz.B [] Tryz.f114 [] [.int .u64,.int .u64] [.int .u64,.int .u64] (fun x y=>y=(fun z=>w7 z) x) (x,y)).holds:=by
 refine holds_of (p:=
  let za:=cj bu
  let zb:=ca za (4294967295:Int)
  let zc:=(0:Int)<=(32:Int)
  let zd:=(2:Int)^min 32 za
  let ze:=fun(Q M:Int)=>Q=bk bu M
  ∀F:Int,F=bk bu (↑(cq (ca za x&&&zb)):Int)->zc/\∀I:Int,I=cf x zd->∀G:Int,G=bk bu (↑(cq (ca za y&&&zb)):Int)->zc/\∀K:Int,K=cf y zd->∀M:Int,M=F*G->∀Q:Int,ze Q M->∀U:Int,U=I*G->∀V:Int,ze V U->zc/\∀x_8:Int,x_8=cf Q zd->∀R:Int,R=bk bu (V+x_8)->∀Y:Int,Y=bk bu (↑(cq (ca za R&&&zb)):Int)->zc/\∀x_11:Int,x_11=cf R zd->∀Z:Int,Z=F*K->∀x_13:Int,ze x_13 Z->∀x_14:Int,x_14=bk bu (Y+x_13)->∀x_15:Int,x_15=I*K->∀x_16:Int,ze x_16 x_15->∀x_17:Int,x_17=bk bu (x_16+x_11)->zc/\∀x_18:Int,x_18=cf x_14 zd->∀x_19:Int,x_19=bk bu (x_17+x_18)->∀x_20:Int,x_20=x*y->∀x_21:Int,ze x_21 x_20->(x_19,x_21)=w7 (x,y)) (by kernel_rfl) ?_
 dsimp -iota -proj -eta only;dsimp only at hp;refine fun F q_0=>⟨?a,fun I q_1 G q_2=>⟨?b,fun K q_3 M q_4 Q q_5 U q_6 V q_7=>⟨?c,fun x_8 q_8 R q_9 Y q_10=>⟨?d,fun x_11 q_11 Z q_12 x_13 q_13 x_14 q_14 x_15 q_15 x_16 q_16 x_17 q_17=>⟨?e,fun x_18 q_18 x_19 q_19 x_20 q_20 x_21 q_21 =>?f⟩⟩⟩⟩⟩
 case a|b|c|d|e=>trivial
 case f=>
  have a0:=Sq q_0 (by omega) (by omega);have a1:=Ho q_1 rfl (by omega) (by omega);have a2:=Sq q_2 (by omega) (by omega);have a3:=Ho q_3 rfl (by omega) (by omega);have a4:M=y:=by rw[q_4,a0,a2,hp.1,du]
  have a5:Q=y:=by rw[q_5,a4];exact lz (by omega) (by omega)
  have a6:U=0:=by rw[q_6,a1,Int.zero_mul]
  have a7:V=0:=by rw[q_7,a6];rfl
  have a8:=Ho q_8 rfl (by omega) (by omega);have a9:R=0:=by rw[q_9,a7,a8];rfl
  have a10:Y=0:=by rw[Sq q_10 (by omega) (by omega)];exact a9
  have a11:=Ho q_11 rfl (by omega) (by omega);have a12:Z=0:=by rw[q_12,a3,Int.mul_zero]
  have a13:x_13=0:=by rw[q_13,a12];rfl
  have a14:x_14=0:=by rw[q_14,a10,a13];rfl
  have a15:x_15=0:=by rw[q_15,a1,Int.zero_mul]
  have a16:x_16=0:=by rw[q_16,a15];rfl
  have a17:x_17=0:=by rw[q_17,a16,a11];rfl
  have a18:=Ho q_18 rfl (by omega) (by omega);have a19:x_19=0:=by rw[q_19,a17,a18];rfl
  have a21:x_21=y:=by rw[q_21,q_20,hp.1,du];exact lz (by omega) (by omega)
  rw[a19,a21];simp[w7,hp.1]
def Tryz.Tt:bX Tryz.prog Tryz.B.eT Tryz.X 114 [.int .u64,.int .u64] [.int .u64,.int .u64] (fun z=>z.1=1/\0<=z.2/\z.2<=1000000) (fun x y=>y=(fun z=>w7 z) x):=
 cG (X:=Tryz.X) (bR Tryz.bQ) Tryz.func114 (by kernel_rfl) (fun _=>[]) (fun x hw hp=>Ts x.1 x.2 hw hp)
def Tryz.spZ4:Bool×aU:=(true,cD [.int .u64,.int .u64] [.int .u64,.int .u64] (fun z=>z.1=1/\0<=z.2/\z.2<=1000000) (fun z=>w7 z))
def Tryz.IT:List (FuncId×(Bool×aU)):=[(114,Tryz.spZ4)]
def Tryz.NP:bP Tryz.prog Tryz.B Tryz.X Tryz.IT:=
 aQ (aE Tryz.Tt) (bR Tryz.bQ)
def Wt(x:Int)(y:Int)(hw:gU [.int .u64,.int .u64] (x,y))(hp:(fun z=>z.1=1/\0<=z.2/\z.2<=1000000) (x,y)):(dM Tryz.B Tryz.IT Tryz.f94 [] [.int .u64,.int .u64] [.int .u64,.int .u64] (fun x y=>y=(fun z=>w7 z) x) (x,y)).holds:=by
 refine holds_of (p:=
  (x=1/\0<=y/\y<=1000000)/\(0,x*y)=w7 (x,y)) (by kernel_rfl) ?_
 dsimp only at hp;refine⟨?a,?b⟩
 case a|b=>trivial
def Tryz.Wu:bX Tryz.prog Tryz.B.eT Tryz.X 94 [.int .u64,.int .u64] [.int .u64,.int .u64] (fun z=>z.1=1/\0<=z.2/\z.2<=1000000) (fun x y=>y=(fun z=>w7 z) x):=
 cG (X:=Tryz.X) Tryz.NP Tryz.func94 (by kernel_rfl) (fun _=>[]) (fun x hw hp=>Wt x.1 x.2 hw hp)
def Tryz.QH:List (FuncId×(Bool×aU)):=[(94,Tryz.spZ4)]
def Tryz.Tu:bP Tryz.prog Tryz.B Tryz.X Tryz.QH:=
 aQ (aE Tryz.Wu) (bR Tryz.bQ)
def Fk(x:List (List UInt8))(n:Int):dY:=[(0,fun st=>{X:=Nat,inv:=fun k=>1<=k/\k<=n.toNat,cB:=fun k=>n.toNat-k,bK:=fun k=>[(8,sI k)],aF:=fun k=>[(bF st 7,.aV .str (lZ (nth .str x 0) n.toNat k))],keep:=[4,7],gP:=[bF st 7]})]
def vD:List (Alt [] [.d (.slice .str),.d (.int .i64)]):=[{bN:=[.row false .str],res:=[.obj 0],out:=fun a _=>(ch a.2.1.toNat (nth .str a.1 0),()),ret:=fun _ _=>()}]
def QI(x:List (List UInt8))(n:Int)(hw:gV [.d (.slice .str),.d (.int .i64)] (x,n,()))(hp:(fun a _=>a.1.length=1/\1<=a.2.1/\a.2.1<=1000000) (x,n,()) ()):(cY Tryz.B Tryz.QH Tryz.f67 (Fk x n) [] [.d (.slice .str),.d (.int .i64)] vD (x,n,()) ()).holds:=by
 refine holds_of (p:=
  let za:=bb x
  let zb:=bk bu (↑za:Int)
  let zc:=bk bu n
  let zd:=bk bm (zb*zc)
  let ze:=ch (bf zd) (bV Ty.str)
  let zf:=bb ze
  let zg:=bf n
  let zh:=min za zf
  let zi:=nth Ty.str x 0
  let zj:=fun(F:Nat)=>lZ zi zg F
  let zk:=fun(F:Nat)=>bb (zj F)
  let zl:=fun(F:Nat)=>(↑(zk F):Int)
  let zm:=fun(F:Nat)=>bd (F-0) (bj 0 (zj F))
  let zn:=fun(F:Nat)=>min (bb (zm F)) (zk F-F)
  let zo:=fun(F:Nat)=>(↑F:Int)+(↑(zn F):Int)
  ((decide (n<(0:Int)))=true->False)/\((decide (n<(0:Int)))=false->za<=aN->(zb=(1:Int)/\(0:Int)<=zc/\zc<=(1000000:Int))/\((decide ((0:Int) > (0:Int)))=true->False)/\((decide ((0:Int) > (0:Int)))=false->((decide (zb*zc > (9223372036854775807:Int)))=true->False)/\((decide (zb*zc > (9223372036854775807:Int)))=false->((0:Int)<=zd/\zd=zd/\zd<=(1000000000:Int))/\(True/\0+zf<=zf)/\(∃(I:Nat),(1<=I/\I<=zg)/\((↑zh:Int)=(↑I:Int)/\True)/\bd 0 ze++bd zh x++bj (0+zh) ze=lZ zi zg I/\True)/\∀F:Nat,1<=F/\F<=zg->zk F<=aN->((decide ((↑F:Int)<zl F))=true->((0:Int)<=(↑F:Int)/\(↑F:Int)<=zl F/\zl F<=zl F)/\((0:Int)<=(0:Int)/\(0:Int)<=(↑F:Int)/\(↑F:Int)<=zl F)/\(0+(F-0)<=zk F/\F+(zk F-F)<=zk F)/\(aM (↑F:Int)->aM (↑(zn F):Int)->aM (zo F)/\∃(x':Nat),(1<=x'/\x'<=zg)/\zg-x'<zg-F/\(zo F=(↑x':Int)/\True)/\bd F (zj F)++bd (zn F) (zm F)++bj (F+zn F) (zj F)=lZ zi zg x'/\@bc (List UInt8)=@bc (List UInt8)/\True))/\((decide ((↑F:Int)<zl F))=false->True/\(zj F,())=(ch zg zi,())/\()=()))))) (by kernel_rfl) ?_
 dsimp -iota -proj -eta only;dsimp only at hp;have e1:bk bu n=n:=lz (by omega) (by omega);have e2:bk bu (x.length:Int)=1:=by rw[hp.1];exact lz (by decide) (by decide)
 have e3:bk bm (1*n)=n:=by rw[du];exact lA (by omega) (by omega)
 refine iL (fun h0 =>?a) (fun h0 h1=>⟨(by rw[e1,e2];omega),⟨fun h2=>absurd (show false=true from h2) (by decide),fun h2=>iL (fun h3=>(by rw[e1,e2]at*;omega)) (fun h3=>⟨(by rw[e1,e2,e3];omega),(by simp_all),?b,fun F q_0 h4=>iL (fun h5=>⟨?c,?d,?e,fun h6 h7=>⟨(by simp only[aM,aN]at*;omega),?f⟩⟩) (fun h5=>(by rw[show F=bf n by have hl:=Hp (s:=nth .str x 0) (n:=bf n) (k:=F) (by omega);omega,Pc];exact⟨ba,rfl,rfl⟩))⟩)⟩⟩)
 case a|c|d|e=>omega
 case b=>
  rw[e1,e2,e3];obtain⟨s,rfl⟩:=dn.1 hp.1;refine⟨1,by omega,⟨?_,ba⟩,?_,(by trivial)⟩
  ·simp only[bw,cp];omega
  ·have hm:min (bb [s]) (bb (ch (bf n) (bV Ty.str)))=1:=by simp only[bw,cp];omega
   rw[hm];exact Mz (n:=bf n) (by omega) rfl [s] rfl
 case f=>
  have hl:=Hp (s:=nth .str x 0) (n:=bf n) (k:=F) (by omega);have e6:min (bb (bd (F-0) (bj 0 (lZ (nth .str x 0) (bf n) F)))) (bb (lZ (nth .str x 0) (bf n) F)-F)=min F (bf n-F):=by
   simp only[b5,c6];omega
  rw[e6];refine⟨F+min F (bf n-F),by omega,by omega,⟨by omega,ba⟩,?_,(by trivial)⟩;rw[Nat.sub_zero,c6];exact Pb (by omega) (by omega)
def Tryz.QJ:bY Tryz.prog Tryz.B.eT Tryz.X 67 false (aZ [] [.d (.slice .str),.d (.int .i64)] (fun a _=>a.1.length=1/\1<=a.2.1/\a.2.1<=1000000) vD):=
 bH (X:=Tryz.X) Tryz.Tu Tryz.func67 (by kernel_rfl) (fun(a:CD [.d (.slice .str),.d (.int .i64)]) (x:PD [])=>Fk a.1 a.2.1) (fun(a:CD [.d (.slice .str),.d (.int .i64)]) (x:PD []) hw hp=>QI a.1 a.2.1 hw hp)
def xN:List (Alt [.row true .str] [.obj 0]):=[{bN:=[.row true .str,.row false .str],res:=[.obj 1],ok:=fun _ x=>x.1≠[],out:=fun _ x=>(x.1,x.1,()),ret:=fun _ _=>()}]
def QK(l:List (List UInt8))(hw:gV [.obj 0] ())(hp:(fun _ x=>x.1≠[]/\x.1.length<=1000000) () (l,())):(cY Tryz.B [] Tryz.f69 [] [.row true .str] [.obj 0] xN () (l,())).holds:=by
 refine holds_of (p:=
  ∀F:Bool,(0<bb l->F=false)->(F=true->False)/\(F=false->bb l<=1000000000/\l≠@bc (List UInt8)/\(l,l,())=(l,l,())/\()=())) (by kernel_rfl) ?_
 dsimp only at hp;refine fun F q_0=>⟨fun h0 =>?a,fun h0=>⟨(by omega),?b⟩⟩
 case a|b=>simp_all
def Tryz.QL:bY Tryz.prog Tryz.B.eT Tryz.X 69 false (aZ [.row true .str] [.obj 0] (fun _ x=>x.1≠[]/\x.1.length<=1000000) xN):=
 bH (X:=Tryz.X) (bR Tryz.bQ) Tryz.func69 (by kernel_rfl) (fun(a:CD [.obj 0]) (x:PD [.row true .str])=>[]) (fun(a:CD [.obj 0]) (x:PD [.row true .str]) hw hp=>QK x.1 hw hp)
def Tryz.spZ5:Bool×aU:=(true,cD [.str] [.str] (fun s=>s.length<=64) (fun s=>eI s))
def Tryz.IU:List (FuncId×(Bool×aU)):=[(68,Tryz.spZ5),(67,(false,aZ [] [.d (.slice .str),.d (.int .i64)] (fun a _=>a.1.length=1/\1<=a.2.1/\a.2.1<=1000000) vD)),(69,(false,aZ [.row true .str] [.obj 0] (fun _ x=>x.1≠[]/\x.1.length<=1000000) xN))]
def Tryz.NQ:bP Tryz.prog Tryz.B Tryz.X Tryz.IU:=
 aQ (aE Tryz.Ls) (aQ (Tryz.QJ) (aQ (Tryz.QL) (bR Tryz.bQ)))
def Tryz.A6:List (Alt Tryz.bE [.obj 0]):=[{bN:=Tryz.bE,res:=[.d .err],out:=fun _ x=>(stepOf x).1,ret:=fun _ x=>(aJ (stepOf x).2,())}]
def Vo(d:Dk)(hw:gV [.obj 0] ())(hp:(fun _ x =>-1<=x.1.1) () d):(cY Tryz.B [] Tryz.f95 [] Tryz.bE [.obj 0] Tryz.A6 () d).holds:=by
 refine holds_of (p:=
  let za:=d.2.2.2.1=d.2.2.2.1
  let zb:=(-1:Int)
  let zc:=(stepOf d).1
  let zd:=(aJ (stepOf d).2,())
  let ze:=(aL.no 9,())=zd
  let zf:=zb-1
  let zg:=(aL.nil,())=zd
  let zh:=d.1.1-1
  let zi:=((d.1.2.1)=true->za/\True/\d=zc/\ze)/\((d.1.2.1)=false->aM d.1.1->aM 1->aM zh/\za/\True/\((if zb > zh then zb else zh,d.1.2),d.2)=zc/\zg)
  ((!d.1.2.1)=true->((d.1.1 == 0)=true->(true=true->za/\True/\((zb,true,()),d.2)=zc/\ze)/\(true=false->aM zb->aM 1->aM zf/\za/\True/\((if zb > zf then zb else zf,true,()),d.2)=zc/\zg))/\((d.1.1 == 0)=false->zi))/\((!d.1.2.1)=false->zi)) (by kernel_rfl) ?_
 dsimp -iota -proj -eta only;refine iB (fun h0=>iQ (fun h1=>⟨fun h2=>(by rw[JU (by simp_all) ‹_›];exact⟨rfl,ba,rfl,rfl⟩),fun h2=>absurd (show true=false from h2) (by decide)⟩) (fun h1=>⟨fun h2 =>?a,fun h2 h3 h4=>⟨?b,(by rw[Pf (by simp_all) ‹_› hp];exact⟨rfl,ba,rfl,rfl⟩)⟩⟩)) (fun h0=>⟨fun h1 =>?c,fun h1 h2 h3=>⟨?d,(by simp_all)⟩⟩)
 case a|c=>rw[JT (by simp_all)];exact⟨rfl,ba,rfl,rfl⟩
 case b|d=>simp only[aM]at*;omega
def Tryz.Vp:bY Tryz.prog Tryz.B.eT Tryz.X 95 false (aZ Tryz.bE [.obj 0] (fun _ x =>-1<=x.1.1) Tryz.A6):=
 bH (X:=Tryz.X) (bR Tryz.bQ) Tryz.func95 (by kernel_rfl) (fun(a:CD [.obj 0]) (x:PD Tryz.bE)=>[]) (fun(a:CD [.obj 0]) (x:PD Tryz.bE) hw hp=>Vo x hw hp)
def Tryz.A7:List (FuncId×(Bool×aU)):=[(68,Tryz.spZ5),(95,(false,aZ Tryz.bE [.obj 0] (fun _ x =>-1<=x.1.1) Tryz.A6))]
def Tryz.CK:bP Tryz.prog Tryz.B Tryz.X Tryz.A7:=
 aQ (aE Tryz.Ls) (aQ (Tryz.Vp) (bR Tryz.bQ))
def Tryz.xO:List (Alt Tryz.bE [.obj 0,.d (.int .i64),.d .str]):=[{bN:=Tryz.bE,res:=[.d .err],out:=fun a x=>(bL x a.1 a.2.1).1,ret:=fun a x=>(aJ (bL x a.1 a.2.1).2,())}]
def QM(at_:Int)(s:List UInt8)(d:Dk)(hw:gV [.obj 0,.d (.int .i64),.d .str] (at_,s,()))(hp:(fun _ x =>-1<=x.1.1/\x.2.2.2.1.length<=900000000) (at_,s,()) d):(cY Tryz.B Tryz.A7 Tryz.f70 [] Tryz.bE [.obj 0,.d (.int .i64),.d .str] Tryz.xO (at_,s,()) d).holds:=by
 refine holds_of (p:=
  let za:=d.2.2.2.1=d.2.2.2.1
  let zb:=bL d at_ s
  let zc:=(aJ zb.2,())
  let zd:=za/\True/\d=zb.1/\(aL.no 1,())=zc
  let ze:=bb d.2.2.1
  let zf:=bb s
  let zg:=aJ (stepOf d).2
  let zh:=(stepOf d).1
  let zi:=bb zh.2.2.1
  let zj:=bf at_
  let zk:=c7 zh.2.2.1 zj (eI s)
  let zl:=zh.2.2.2.1
  let zm:=[(at_,nth Ty.str zk zj,())]
  let zn:=zl++zm
  let zo:=(zg,())=zc
  ((decide (at_<0))=true->zd)/\((decide (at_<0))=false->ze<=aN->((decide (at_>=(↑ze:Int)))=true->zd)/\((decide (at_>=(↑ze:Int)))=false->zf<=aN->((decide ((↑zf:Int) > 64))=true->zd)/\((decide ((↑zf:Int) > 64))=false->za/\(-1:Int)<=d.1.1/\(True->((aL.isNil zg)=true->zf<=64/\(0<=at_/\at_<(↑zi:Int))/\zj<zi/\(0<=at_/\at_<(↑(bb zk):Int))/\zj<bb zk/\(zl=zl/\bb zl+bb zm<=1000000000)/\zn=zn/\True/\(zh.1,zh.2.1,zk,zn,())=zb.1/\zo)/\((aL.isNil zg)=false->zl=zl/\True/\zh=zb.1/\zo)))))) (by kernel_rfl) ?_
 dsimp -iota -proj -eta only;refine iL (fun h0 =>?a) (fun h0 h1=>iE (fun h2 =>?b) (fun h2 h3=>iL (fun h4 =>?c) (fun h4=>⟨rfl,?d,fun h5=>⟨fun h6=>⟨?e,?f,?g,?h,?i,?j,?k⟩,fun h6=>(by rw[JS (by omega) (fun h=>by have:=aK.2 h;simp_all)];exact⟨rfl,ba,rfl,rfl⟩)⟩⟩)))
 case a|b|c=>rw[MA (by omega)];exact⟨rfl,ba,rfl,rfl⟩
 case d|e=>omega
 case f|g=>
  have hlen:(stepOf d).fst.snd.snd.fst=d.snd.snd.fst:=congrArg (fun z=>z.2.1) (eW d);have hwt:(stepOf d).fst.snd.snd.snd.fst=d.snd.snd.snd.fst:=congrArg (fun z=>z.2.2.1) (eW d);have hkp:(stepOf d).fst.snd.fst=d.snd.fst:=congrArg (fun z=>z.1) (eW d);rw[hlen];omega
 case h|i=>
  have hlen:(stepOf d).fst.snd.snd.fst=d.snd.snd.fst:=congrArg (fun z=>z.2.1) (eW d);have hwt:(stepOf d).fst.snd.snd.snd.fst=d.snd.snd.snd.fst:=congrArg (fun z=>z.2.2.1) (eW d);have hkp:(stepOf d).fst.snd.fst=d.snd.fst:=congrArg (fun z=>z.1) (eW d);rw[en,hlen];omega
 case j=>
  have hlen:(stepOf d).fst.snd.snd.fst=d.snd.snd.fst:=congrArg (fun z=>z.2.1) (eW d);have hwt:(stepOf d).fst.snd.snd.snd.fst=d.snd.snd.snd.fst:=congrArg (fun z=>z.2.2.1) (eW d);have hkp:(stepOf d).fst.snd.fst=d.snd.fst:=congrArg (fun z=>z.1) (eW d);rw[hwt];simp only[bw,true_and];omega
 case k=>
  have hlen:(stepOf d).fst.snd.snd.fst=d.snd.snd.fst:=congrArg (fun z=>z.2.1) (eW d);have hwt:(stepOf d).fst.snd.snd.snd.fst=d.snd.snd.snd.fst:=congrArg (fun z=>z.2.2.1) (eW d);have hkp:(stepOf d).fst.snd.fst=d.snd.fst:=congrArg (fun z=>z.1) (eW d);rw[Pd (by omega) (aK.1 ‹_›),UT (t:=.str) (by rw[hlen];omega),hlen,hwt,hkp];exact⟨rfl,ba,rfl,by simp[aK.1 ‹(aJ (stepOf d).snd).isNil=true›]⟩
def Tryz.xP:bY Tryz.prog Tryz.B.eT Tryz.X 70 false (aZ Tryz.bE [.obj 0,.d (.int .i64),.d .str] (fun _ x =>-1<=x.1.1/\x.2.2.2.1.length<=900000000) Tryz.xO):=
 bH (X:=Tryz.X) Tryz.CK Tryz.func70 (by kernel_rfl) (fun(a:CD [.obj 0,.d (.int .i64),.d .str]) (x:PD Tryz.bE)=>[]) (fun(a:CD [.obj 0,.d (.int .i64),.d .str]) (x:PD Tryz.bE) hw hp=>QM a.1 a.2.1 x hw hp)
def Tryz.A8:List (Alt Tryz.bE [.obj 0,.d (.int .i64)]):=[{bN:=Tryz.bE,res:=[.d .str,.d .err],out:=fun _ x=>x,ret:=fun a x=>((qk x a.1).1,aJ (qk x a.1).2,())}]
def Tv(at_:Int)(d:Dk)(hw:gV [.obj 0,.d (.int .i64)] (at_,())):(cY Tryz.B [] Tryz.f58 [] Tryz.bE [.obj 0,.d (.int .i64)] Tryz.A8 (at_,()) d).holds:=by
 refine holds_of (p:=
  let za:=d.2.2.2.1=d.2.2.2.1
  let zb:=((qk d at_).1,aJ (qk d at_).2,())
  let zc:=za/\True/\d=d/\([],aL.no 1,())=zb
  let zd:=bb d.2.2.1
  ((d.1.2.1)=true->za/\True/\d=d/\([],aL.no 9,())=zb)/\((d.1.2.1)=false->((decide (at_<0))=true->zc)/\((decide (at_<0))=false->zd<=aN->((decide (at_>=(↑zd:Int)))=true->zc)/\((decide (at_>=(↑zd:Int)))=false->(0<=at_/\at_<(↑zd:Int))/\bf at_<zd/\za/\True/\d=d/\(nth Ty.str d.2.2.1 (bf at_),aL.nil,())=zb)))) (by kernel_rfl) ?_
 dsimp -iota -proj -eta only;refine⟨fun h0=>(by rw[MB ‹_›];exact⟨rfl,ba,rfl,rfl⟩),fun h0=>iL (fun h1 =>?a) (fun h1 h2=>iE (fun h3 =>?b) (fun h3=>⟨(by trivial),(by omega),(by rw[Su ‹_› (by omega)];exact⟨rfl,ba,rfl,rfl⟩)⟩))⟩
 case a|b=>rw[Pg ‹_› (by omega)];exact⟨rfl,ba,rfl,rfl⟩
def Tryz.Tw:bY Tryz.prog Tryz.B.eT Tryz.X 58 false (aZ Tryz.bE [.obj 0,.d (.int .i64)] (fun _ _=>True) Tryz.A8):=
 bH (X:=Tryz.X) (bR Tryz.bQ) Tryz.func58 (by kernel_rfl) (fun(a:CD [.obj 0,.d (.int .i64)]) (x:PD Tryz.bE)=>[]) (fun(a:CD [.obj 0,.d (.int .i64)]) (x:PD Tryz.bE) hw hp=>Tv a.1 x hw)
def Tryz.xQ:List (Alt Tryz.bE [.obj 0]):=[{bN:=Tryz.bE,res:=[.d .err],out:=fun _ x=>(bO x).1,ret:=fun _ x=>(aJ (bO x).2,())}]
def QN(d:Dk)(hw:gV [.obj 0] ())(hp:(fun _ x =>-1<=x.1.1/\x.2.1.length=x.2.2.1.length) () d):(cY Tryz.B Tryz.A7 Tryz.f71 [] Tryz.bE [.obj 0] Tryz.xQ () d).holds:=by
 refine holds_of (p:=
  let za:=aJ (stepOf d).2
  let zb:=(stepOf d).1
  let zc:=bb zb.2.1
  let zd:=zb.2.2.1
  let ze:=min (bb zd) zc
  let zf:=(za,())=(aJ (bO d).2,())
  d.2.2.2.1=d.2.2.2.1/\(-1:Int)<=d.1.1/\(True->((aL.isNil za)=true->(True/\0+zc<=zc)/\(@bc (Int×List UInt8×Unit)=@bc (Int×List UInt8×Unit)/\True/\(zb.1,bd 0 zb.2.1++bd ze zd++bj (0+ze) zb.2.1,zd,[],())=(bO d).1/\zf))/\((aL.isNil za)=false->zb.2.2.2.1=zb.2.2.2.1/\True/\zb=(bO d).1/\zf))) (by kernel_rfl) ?_
 dsimp -iota -proj -eta only;refine⟨rfl,(by omega),fun h0=>⟨fun h1=>⟨(by simp_all),?a⟩,fun h1=>(by rw[y9 (fun h=>by have:=aK.2 h;simp_all)];exact⟨rfl,ba,rfl,rfl⟩)⟩⟩
 case a=>
  have hlen:(stepOf d).fst.snd.snd.fst=d.snd.snd.fst:=congrArg (fun z=>z.2.1) (eW d);have hwt:(stepOf d).fst.snd.snd.snd.fst=d.snd.snd.snd.fst:=congrArg (fun z=>z.2.2.1) (eW d);have hkp:(stepOf d).fst.snd.fst=d.snd.fst:=congrArg (fun z=>z.1) (eW d);have h0:=aK.1 ‹(aJ (stepOf d).snd).isNil=true›;rw[Er h0,hlen,hkp,Hq hp.2,h0];exact⟨rfl,ba,rfl,rfl⟩
def Tryz.xR:bY Tryz.prog Tryz.B.eT Tryz.X 71 false (aZ Tryz.bE [.obj 0] (fun _ x =>-1<=x.1.1/\x.2.1.length=x.2.2.1.length) Tryz.xQ):=
 bH (X:=Tryz.X) Tryz.CK Tryz.func71 (by kernel_rfl) (fun(a:CD [.obj 0]) (x:PD Tryz.bE)=>[]) (fun(a:CD [.obj 0]) (x:PD Tryz.bE) hw hp=>QN x hw hp)
def Tryz.DG:List (Alt Tryz.bE [.obj 0,.d (.int .i64)]):=[{bN:=Tryz.bE,res:=[],out:=fun a x=>Wh x a.1,ret:=fun _ _=>()}]
def Vq(n:Int)(d:Dk)(hw:gV [.obj 0,.d (.int .i64)] (n,())):(cY Tryz.B [] Tryz.f18 [] Tryz.bE [.obj 0,.d (.int .i64)] Tryz.DG (n,()) d).holds:=by
 refine holds_of (p:=
  d.2.2.2.1=d.2.2.2.1/\True/\((if(-1:Int) > n then(-1:Int)else n,d.1.2),d.2)=Wh d n/\()=()) (by kernel_rfl) ?_
 exact⟨rfl,ba,rfl,rfl⟩
def Tryz.Vr:bY Tryz.prog Tryz.B.eT Tryz.X 18 false (aZ Tryz.bE [.obj 0,.d (.int .i64)] (fun _ _=>True) Tryz.DG):=
 bH (X:=Tryz.X) (bR Tryz.bQ) Tryz.func18 (by kernel_rfl) (fun(a:CD [.obj 0,.d (.int .i64)]) (x:PD Tryz.bE)=>[]) (fun(a:CD [.obj 0,.d (.int .i64)]) (x:PD Tryz.bE) hw hp=>Vq a.1 x hw)
def Tryz.A9:List (Alt Tryz.bE [.obj 0]):=[{bN:=Tryz.bE,res:=[.d .bool],out:=fun _ x=>x,ret:=fun _ x=>(x.1.2.1,())}]
def Tx(d:Dk)(hw:gV [.obj 0] ()):(cY Tryz.B [] Tryz.f19 [] Tryz.bE [.obj 0] Tryz.A9 () d).holds:=by
 refine holds_of (p:=
  d.2.2.2.1=d.2.2.2.1/\True/\d=d/\d.1.2=d.1.2) (by kernel_rfl) ?_
 exact(by trivial)
def Tryz.IV:bY Tryz.prog Tryz.B.eT Tryz.X 19 false (aZ Tryz.bE [.obj 0] (fun _ _=>True) Tryz.A9):=
 bH (X:=Tryz.X) (bR Tryz.bQ) Tryz.func19 (by kernel_rfl) (fun(a:CD [.obj 0]) (x:PD Tryz.bE)=>[]) (fun(a:CD [.obj 0]) (x:PD Tryz.bE) hw hp=>Tx x hw)
def Tryz.tu:List (Alt Tryz.bE [.obj 0]):=[{bN:=Tryz.bE,res:=[.d (.int .i64)],out:=fun _ x=>x,ret:=fun _ x=>((x.2.2.1.length:Int),())}]
def Kh(d:Dk)(hw:gV [.obj 0] ()):(cY Tryz.B [] Tryz.f57 [] Tryz.bE [.obj 0] Tryz.tu () d).holds:=by
 refine holds_of (p:=
  let za:=bb d.2.2.1
  let zb:=((↑za:Int),())
  za<=aN->d.2.2.2.1=d.2.2.2.1/\True/\d=d/\zb=zb) (by kernel_rfl) ?_
 dsimp -iota -proj -eta only;exact fun h0=>(by trivial)
def Tryz.tw:bY Tryz.prog Tryz.B.eT Tryz.X 57 false (aZ Tryz.bE [.obj 0] (fun _ _=>True) Tryz.tu):=
 bH (X:=Tryz.X) (bR Tryz.bQ) Tryz.func57 (by kernel_rfl) (fun(a:CD [.obj 0]) (x:PD Tryz.bE)=>[]) (fun(a:CD [.obj 0]) (x:PD Tryz.bE) hw hp=>Kh x hw)
def Tryz.tx:List (Alt Tryz.bE [.obj 0,.d (.int .u64)]):=[{bN:=Tryz.bE,res:=[],out:=fun a x=>Hm x a.1,ret:=fun _ _=>()}]
def CL(k:Int)(d:Dk):dY:=[(0,fun st=>{X:=Nat,inv:=fun i=>i<=d.2.2.2.1.length,cB:=fun i=>d.2.2.2.1.length-i,bK:=fun i=>[(11,sI i)],aF:=fun i=>[(1,.aV .str (kP k d.2.2.2.1 d.2.1 i))],keep:=[0,1,9,10],gP:=[1]})]
def Ki(k:Int)(d:Dk)(hw:gV [.obj 0,.d (.int .u64)] (k,()))(hp:(fun _ x=>x.2.1.length=x.2.2.1.length/\∀i,i<x.2.2.2.1.length->0<=((nth js x.2.2.2.1 i).1:Int)/\((nth js x.2.2.2.1 i).1:Int)<x.2.2.1.length) (k,()) d):(cY Tryz.B [] Tryz.f20 (CL k d) Tryz.bE [.obj 0,.d (.int .u64)] Tryz.tx (k,()) d).holds:=by
 refine holds_of (p:=
  let za:=d.2.2.2.1
  let zb:=bb za
  let zc:=d.2.1
  let zd:=fun(F:Nat)=>(nth js za F).1
  let ze:=fun(F:Nat)=>kP k za zc F
  let zf:=fun(F:Nat)=>(↑F:Int)+(1:Int)
  let zg:=d.2.2.1
  let zh:=(C.aV 1=C.aV 1/\C.aV 2=C.aV 2/\za=za/\d.1.1=d.1.1/\d.1.2.1=d.1.2.1/\True)/\zg=zg/\za=za/\True
  let zi:=bb zg
  zb<=aN->(∃(x:Nat),x<=zb/\((0:Int)=(↑x:Int)/\True)/\zc=kP k za zc x/\True)/\∀F:Nat,F<=zb->((decide ((↑F:Int)<(↑zb:Int)))=true->((0:Int)<=(↑F:Int)/\(↑F:Int)<(↑zb:Int))/\(64:Int)≠(0:Int)/\∀I:Int,I=db (↑F:Int) (64:Int)->(0:Int)<=I/\∀G:Int,G=cf k ((2:Int)^min (bf I) (cj bu))->∀K:Int,K=bk bu (↑(cq (ca (cj bu) G&&&ca (cj bu) (1:Int))):Int)->((K == (1:Int))=true->((0:Int)<=zd F/\zd F<(↑(bb (ze F)):Int))/\bf (zd F)<bb (ze F)/\(aM (↑F:Int)->aM (1:Int)->aM (zf F)/\∃(x':Nat),x'<=zb/\zb-x'<zb-F/\(zf F=(↑x':Int)/\True)/\c7 (ze F) (bf (zd F)) (nth js za F).2.1=kP k za zc x'/\zh))/\((K == (1:Int))=false->aM (↑F:Int)->aM (1:Int)->aM (zf F)/\∃(x':Nat),x'<=zb/\zb-x'<zb-F/\(zf F=(↑x':Int)/\True)/\ze F=kP k za zc x'/\zh))/\((decide ((↑F:Int)<(↑zb:Int)))=false->(True/\0+zi<=zi)/\(@bc (Int×List UInt8×Unit)=@bc (Int×List UInt8×Unit)/\True/\(((-1:Int),false,()),ze F,bd 0 zg++bd (min (bb (ze F)) zi) (ze F)++bj (0+min (bb (ze F)) zi) zg,[],())=Hm d k/\()=()))) (by kernel_rfl) ?_
 dsimp -iota -proj -eta only;refine fun h0=>⟨?a,fun F q_0=>iL (fun h1=>⟨(by omega),(by trivial),fun I q_1=>⟨(by have:=Uf F;rw[Int.tmod_eq_emod_of_nonneg (by omega)]at*;omega),fun G q_2 K q_3=>iQ (fun h2=>⟨?b,?c,fun h3 h4=>⟨?d,?e⟩⟩) (fun h2 h3 h4=>⟨?f,?g⟩)⟩⟩) (fun h1=>⟨(by simp_all),?h⟩)⟩
 case a=>refine⟨0,?_⟩;(repeat' (first|exact trivial|rfl|omega|assumption|apply dv))
 case b|c=>have:=hp.2 F (by omega);rw[w8];(try dsimp only[D]at*);omega
 case d|f=>simp only[aM,aN]at*;omega
 case e|g=>
  have hb:=Sr (k:=k) (i:=F) (x:=G) (y:=K) ‹_› (by rw[‹I=_›];exact Uf F) ‹_›
  first|exact⟨F+1,by omega,by omega,⟨by omega,ba⟩,Ss (hb.1 ‹_›),(by trivial)⟩|exact⟨F+1,by omega,by omega,⟨by omega,ba⟩,Pe ((not_congr hb).1 ‹_›),(by trivial)⟩
 case h=>
  obtain rfl:F=d.2.2.2.1.length:=by omega
  rw[Hq (by rw[w8];exact hp.1.symm)];exact⟨rfl,ba,rfl,rfl⟩
def Tryz.Kj:bY Tryz.prog Tryz.B.eT Tryz.X 20 false (aZ Tryz.bE [.obj 0,.d (.int .u64)] (fun _ x=>x.2.1.length=x.2.2.1.length/\∀i,i<x.2.2.2.1.length->0<=((nth js x.2.2.2.1 i).1:Int)/\((nth js x.2.2.2.1 i).1:Int)<x.2.2.1.length) Tryz.tx):=
 bH (X:=Tryz.X) (bR Tryz.bQ) Tryz.func20 (by kernel_rfl) (fun(a:CD [.obj 0,.d (.int .u64)]) (x:PD Tryz.bE)=>CL a.1 x) (fun(a:CD [.obj 0,.d (.int .u64)]) (x:PD Tryz.bE) hw hp=>Ki a.1 x hw hp)
def Tryz.Ba:List (Alt [] [.d (.int .i64)]):=[
 {bN:=[],res:=[.gX,.d .err],ok:=fun a _=>a.1<1\/120<a.1,out:=fun _ _=>(),ret:=fun _ _=>(aL.no 1,())},
 {bN:=Tryz.bE,res:=[.obj 0,.d .err],ok:=fun a _=>1<=a.1/\a.1<=120,out:=fun a _=>qT a.1,ret:=fun _ _=>(aL.nil,())}]
def Vs(n:Int)(hw:gV [.d (.int .i64)] (n,())):(cY Tryz.B Tryz.IU Tryz.f43 [] [] [.d (.int .i64)] Tryz.Ba (n,()) ()).holds:=by
 refine holds_of (p:=
  let za:=(aL.no 1,())
  let zb:=(n<1\/120<n)/\()=()/\za=za
  let zc:=[eI (@bc UInt8)]
  let zd:=ch (bf n) (nth Ty.str zc 0)
  let ze:=zd≠@bc (List UInt8)
  ((decide (n<1))=true->zb)/\((decide (n<1))=false->((decide (n > 120))=true->zb)/\((decide (n > 120))=false->bb (@bc UInt8)<=64/\(bb zc=1/\1<=n/\n<=1000000)/\(True->(ze/\bb zd<=1000000)/\(ze->(@bc (Int×List UInt8×Unit)=@bc (Int×List UInt8×Unit)/\(1<=n/\n<=120)/\(((-1:Int),false,()),zd,zd,[],())=qT n/\(aL.nil,())=(aL.nil,()))))))) (by kernel_rfl) ?_
 dsimp -iota -proj -eta only;refine iL (fun h0 =>?a) (fun h0=>iL (fun h1 =>?b) (fun h1=>⟨(by trivial),⟨rfl,by omega,by omega⟩,fun h2=>⟨?c,fun h3=>⟨rfl,by omega,rfl,rfl⟩⟩⟩))
 case a|b=>exact⟨by omega,rfl,rfl⟩
 case c=>
  refine⟨fun h =>?_,by simp only[cp];omega⟩;have:=congrArg bb h;simp only[cp,b3]at this;omega
def Tryz.Vt:bY Tryz.prog Tryz.B.eT Tryz.X 43 false (aZ [] [.d (.int .i64)] (fun _ _=>True) Tryz.Ba):=
 bH (X:=Tryz.X) Tryz.NQ Tryz.func43 (by kernel_rfl) (fun(a:CD [.d (.int .i64)]) (x:PD [])=>[]) (fun(a:CD [.d (.int .i64)]) (x:PD []) hw hp=>Vs a.1 hw)
def Vu(n:Int)(hw:gU [.int .i64] n):(dM Tryz.B [] Tryz.f96 [] [.int .i64] [.str] (fun x y=>y=(fun n=>jU n) x) n).holds:=by
 refine holds_of (p:=
  (0:Int)<=(8:Int)/\∀F:Int,F=cf n ((2:Int)^min 8 (cj bm))->(0:Int)<=(16:Int)/\∀I:Int,I=cf n ((2:Int)^min 16 (cj bm))->(0:Int)<=(24:Int)/\∀G:Int,G=cf n ((2:Int)^min 24 (cj bm))->bb [bk cd n,bk cd F,bk cd I,bk cd G]<=aN/\bytesOf [bk cd n,bk cd F,bk cd I,bk cd G]=jU n) (by kernel_rfl) ?_
 refine⟨?a,fun F q_0=>⟨?b,fun I q_1=>⟨?c,fun G q_2=>⟨((by decide:4<=aN)),(by subst q_0;subst q_1;subst q_2;rfl)⟩⟩⟩⟩
 case a|b|c=>trivial
def Tryz.Vv:bX Tryz.prog Tryz.B.eT Tryz.X 96 [.int .i64] [.str] (fun _=>True) (fun x y=>y=(fun n=>jU n) x):=
 cG (X:=Tryz.X) (bR Tryz.bQ) Tryz.func96 (by kernel_rfl) (fun _=>[]) (fun x hw hp=>Vu x hw)
def Tryz.Lt:List (FuncId×(Bool×aU)):=[(96,(true,cD [.int .i64] [.str] (fun _=>True) (fun n=>jU n)))]
def Tryz.QO:bP Tryz.prog Tryz.B Tryz.X Tryz.Lt:=
 aQ (aE Tryz.Vv) (bR Tryz.bQ)
def Tz(a:Int)(b:Int)(hw:gU [.int .i64,.int .i64] (a,b)):(dM Tryz.B Tryz.Lt Tryz.f72 [] [.int .i64,.int .i64] [.str] (fun x y=>y=(fun x=>fI x.1 x.2) x) (a,b)).holds:=by
 refine holds_of (p:=
  let za:=[(83:UInt8)]++jU a
  True/\bb [(83:UInt8)]+bb (jU a)<=aN/\True/\bb za+bb (jU b)<=aN/\za++jU b=fI a b) (by kernel_rfl) ?_
 dsimp -iota -proj -eta only;exact⟨ba,(by rw[sP];exact(by decide:1+4<=aN)),ba,(by rw[bt,sP,sP];exact(by decide:1+4+4<=aN)),(by trivial)⟩
def Tryz.IW:bX Tryz.prog Tryz.B.eT Tryz.X 72 [.int .i64,.int .i64] [.str] (fun _=>True) (fun x y=>y=(fun x=>fI x.1 x.2) x):=
 cG (X:=Tryz.X) Tryz.QO Tryz.func72 (by kernel_rfl) (fun _=>[]) (fun x hw hp=>Tz x.1 x.2 hw)
def QP(s:List UInt8)(hw:gU [.str] s)(hp:(fun s=>4<=s.length) s):(dM Tryz.B [] Tryz.f59 [] [.str] [.int .i64] (fun s y=>(y:Int)=iS s) s).holds:=by
 refine holds_of (p:=
  let za:=(↑(bb s):Int)
  let zb:=cj bm
  let zc:=fun(K I G:Int)=>K=bk bm (↑(cq (ca zb I ||| ca zb G)):Int)
  ((0:Int)<=(0:Int)/\(0:Int)<za)/\((0:Int)<=(1:Int)/\(1:Int)<za)/\(0:Int)<=(8:Int)/\∀F:Int,F=bk bm ((↑(b6 (dQ s 1)):Int)*(2:Int)^min 8 zb)->∀I:Int,I=bk bm (↑(cq (ca zb (↑(b6 (dQ s 0)):Int) ||| ca zb F)):Int)->((0:Int)<=(2:Int)/\(2:Int)<za)/\(0:Int)<=(16:Int)/\∀G:Int,G=bk bm ((↑(b6 (dQ s 2)):Int)*(2:Int)^min 16 zb)->∀K:Int,zc K I G->((0:Int)<=(3:Int)/\(3:Int)<za)/\(0:Int)<=(24:Int)/\∀M:Int,M=bk bm ((↑(b6 (dQ s 3)):Int)*(2:Int)^min 24 zb)->∀Q:Int,zc Q K M->Q=iS s) (by kernel_rfl) ?_
 dsimp -iota -proj -eta only;refine⟨?a,?b,?c,fun F q_0 I q_1=>⟨?d,?e,fun G q_2 K q_3=>⟨?f,?g,fun M q_4 Q q_5=>(by subst_vars;rfl)⟩⟩⟩
 case a|b|d|f=>omega
 case c|e|g=>trivial
def Tryz.QQ:bX Tryz.prog Tryz.B.eT Tryz.X 59 [.str] [.int .i64] (fun s=>4<=s.length) (fun s y=>(y:Int)=iS s):=
 cG (X:=Tryz.X) (bR Tryz.bQ) Tryz.func59 (by kernel_rfl) (fun _=>[]) (fun x hw hp=>QP x hw hp)
def Tryz.spZ6:Bool×aU:=(true,cD [aC] [.str,.err] (fun _=>True) (fun e=>dG e))
def Tryz.Fl:List (FuncId×(Bool×aU)):=[(85,(false,rU 169 5)),(88,(false,qD 169 5)),(87,(true,wN 169 5)),(90,Tryz.spZ6)]
def Tryz.Kk:bP Tryz.prog Tryz.B Tryz.X Tryz.Fl:=
 aQ (Tryz.z6) (aQ (Tryz.xM) (aQ (Tryz.Fj) (aQ (aE Tryz.IS) (bR Tryz.bQ))))
def Fm(l:List (D aC)):dY:=[
 (0,fun st=>{X:=Nat,inv:=fun i=>i<=l.length/\∀j,j<i->bB (nth aC l j)=0,cB:=fun i=>l.length-i,bK:=fun i=>[(11,sI i)],keep:=[4,9,10],aF:=fun i=>[(bF st 4,.ext 2 kv (bJ (fJ (l.take i)),(169:Int),(5:Int),()))],gP:=[bF st 4]})]
def TA(l:List (D aC))(hw:gU [.slice aC] l)(hp:(fun l=>l.length<=100) l):(dM (lU Tryz.B [17]) Tryz.Fl Tryz.f77 (Fm l) [.slice aC] [.str,.err] (fun x y=>y=(fun l=>dN l) x) l).holds:=by
 refine holds_of (p:=
  let za:=bb l
  let zb:=(↑(169:Nat):Int)
  let zc:=fun(b:UInt8)=>(↑(b6 b):Int)
  let zd:=((169:Int),(5:Int),())
  let ze:=(↑(5:Nat):Int)
  let zf:=fun(F:Nat)=>bo zc (fJ (bd F l))
  za<=aN->(∃(x:Nat),(x<=za/\∀(j:Nat),j<x->bB (nth aC l j)=(0:Int))/\((0:Int)=(↑x:Int)/\True)/\([],zb,(↑(5:TypeId):Int),())=(bo zc (fJ (bd x l)),zd)/\True)/\∀F:Nat,(F<=za/\∀(j:Nat),j<F->bB (nth aC l j)=(0:Int))->((decide ((↑F:Int)<(↑za:Int)))=true->((0:Int)<=(↑F:Int)/\(↑F:Int)<(↑za:Int))/\True/\((!aL.isNil (dG (nth aC l F)).2)=true->([],(dG (nth aC l F)).2)=dN l)/\((!aL.isNil (dG (nth aC l F)).2)=false->((169:Int)=zb/\(5:Int)=ze/\bb (zf F)+bb (dG (nth aC l F)).1<=(140737488355328:Nat))/\(aM (↑F:Int)->aM (1:Int)->aM ((↑F:Int)+(1:Int))/\∃(x':Nat),(x'<=za/\∀(j:Nat),j<x'->bB (nth aC l j)=(0:Int))/\za-x'<za-F/\((↑F:Int)+(1:Int)=(↑x':Int)/\True)/\(zf F++bo zc (dG (nth aC l F)).1,zb,ze,())=(bo zc (fJ (bd x' l)),zd)/\True)))/\((decide ((↑F:Int)<(↑za:Int)))=false->((169:Int)=zb/\(5:Int)=ze)/\(bytesOf (zf F),aL.nil)=dN l)) (by kernel_rfl) ?_
 dsimp -iota -proj -eta only;refine fun h0=>⟨(⟨0,⟨b7 _,fun j hj=>absurd hj (cu _)⟩,⟨rfl,ba⟩,rfl,ba⟩),fun F q_0=>iL (fun h1=>⟨(by omega),ba,iB (fun h2=>(Qf q_0.2 (by omega) h2)) (fun h2=>⟨?a,fun h3 h4=>⟨(by simp only[aM,aN]at*;omega),(⟨F+1,⟨by omega,lV q_0.2 (vm h2).1⟩,by omega,⟨by omega,ba⟩,oL (Qg (by omega) h2),ba⟩)⟩⟩)⟩) (fun h1=>⟨(by trivial),(by rw[show bytesOf (bo _ (fJ (bd F l)))=_ from uX _];exact SY q_0.2 (by omega))⟩)⟩
 case a=>refine⟨rfl,rfl,?_⟩;rw[bz];have h1:=Qh hp (i:=F) (by omega) q_0.2;have h2:=Nq h2;omega
def Tryz.TB:bX Tryz.prog Tryz.B.eT Tryz.X 77 [.slice aC] [.str,.err] (fun l=>l.length<=100) (fun x y=>y=(fun l=>dN l) x):=
 cG (B:=(lU Tryz.B [17])) (X:=Tryz.X) (bP.hint (l:=[17]) Tryz.Kk) Tryz.func77 (by kernel_rfl) (fun x=>Fm x) (fun x hw hp=>TA x hw hp)
end Go.Proofs.YtgokjhhcfemnhadGreatDoor

namespace Go.Proofs.YtgokjhhcfemnhadGreatDoor
open Go.Vg Go.Shelf Go.RowKit
attribute [local go_sem] Oper.semAt_some
def CM(p j k:Nat):Prop:=p=j*k
def Wv{n k m:Nat}(h:min k n=m):(if n<k then((n:Nat):Int)else(k:Int))=(m:Int):=by split <;> omega
def Tryz.Xn(b1 b2:Nat)(a:Option Addr)(len cap k:Nat)(w0:World)(h1k:1<=k)(hk9:k<=1000000000)(hl9:len<=1000000000)(hlc:len<=cap)(hsome:0<len->∃b o,a=some ⟨b,o,none⟩)
  (l:Nat)(J Jx:List Nat->World->Prop)(hJd:∀s W,J s W->J s W.drew)
  (hY:∀pre x W1,J pre W1->pre.length<fK len k->YieldAt Fence.wide 1 Tryz.prog l #[kr a len k x] W1 fun e W'=>
   (e=.returned (.bool true)/\J (pre++[x]) W'/\(W'.cell? ⟨b1,0,none⟩=W1.cell? ⟨b1,0,none⟩/\W'.cell? ⟨b2,0,none⟩=W1.cell? ⟨b2,0,none⟩))\/(e=.returned (.bool false)/\Jx (pre++[x]) W'))
  (W:World)(hc1:W.cell? ⟨b1,0,none⟩=some (.slice a len cap))(hc2:W.cell? ⟨b2,0,none⟩=some (.int .i64 k))(h0:J [] W) :
  CallsIn Fence.wide 2 Tryz.prog 97 #[.func (.yield l) #[] #[],.pointer (some ⟨b1,0,none⟩),.pointer (some ⟨b2,0,none⟩)] W fun e W'=>(∃v,e=.returned v)/\((∃xs,xs=cr (fK len k)/\J xs W')\/(∃pre,(∃j,pre=cr j)/\Jx pre W')):=by
 refine callsIn_of_wp Tryz.func97 rfl trivial ?_ rfl;have hn:Tryz.f97.ntmps=31:=rfl;simp only[hn,List.size_toArray,bx,b3,Nat.reduceAdd,Nat.reduceSub,Array.replicate_succ,Array.replicate_zero,List.push_toArray,List.append_toArray,List.nil_append,List.cons_append]
 gi_wp2
 gi_loopw [4] (fun i wr=>∃j p:Nat,CM p j k/\j<=fK len k/\i=.int .i64 (p:Int)/\J (cr j) wr/\wr.cell? ⟨b1,0,none⟩=some (.slice a len cap)/\wr.cell? ⟨b2,0,none⟩=some (.int .i64 k))
  (fun i _=>len+k-(intOf i).toNat)
 case atStart=>exact⟨0,0,(Nat.zero_mul k).symm,b7 _,rfl,h0,hc1,hc2⟩
 case round=>
  obtain⟨j,p,hp,hj,rfl,hJs,hw1,hw2⟩:=hrel;by_cases hlt:p<len
  ·have hlt':(p:Int)<(len:Int):=Int.ofNat_lt.2 hlt
   obtain⟨b,o,rfl⟩:=hsome (by omega);obtain⟨m,hm⟩:∃m:Nat,m=min k (len-p):=⟨_,rfl⟩
   have hm0:0<m:=by omega
   have hm00:¬m=0:=by omega
   have hm2:p+m<=len:=by omega
   have hb1:(((p:Nat):Int)+(m:Int))<=1000000000:=by omega
   have hb0:(0:Int)<=((p:Nat):Int)+(m:Int):=by omega
   have hjN:j<fK len k:=by
    unfold fK;rw[eo (by omega)];unfold CM at hp;omega
   obtain⟨fn,tmps,assign,body,hy,hR⟩:=hY (cr j) j wr.drew (hJd _ _ hJs) (by rw[List.length_range];exact hjN);rw[show kr (some ⟨b,o,none⟩) len k j=.slice (some ⟨b,o+p,none⟩) m m by unfold CM at hp;subst hp;subst hm;rfl]at hy
   gi_wp2
   gi_region
   try rw[Wv (show min k (len-p)=m from hm.symm)]
   try rw[show min ((k:Nat):Int) ((len-p:Nat):Int)=(m:Int) by omega]
   try rw[<-hm]
   clear hm
   gi_wp2
   refine hR.mono ?_;rintro e W3 (⟨rfl,hJ3,hk3⟩|⟨rfl,hJx3⟩)
   ·have hw3:=hk3.1.trans hw1
    have hw4:=hk3.2.trans hw2;have hs1:(0:Int)<=(p:Int)+(k:Int):=by omega
    have hs2:(p:Int)+(k:Int)<=2000000000:=by omega
    gi_wp2
    go_roundw
    case rel=>exact⟨j+1,p+k,by unfold CM at*;rw[hp,Nat.add_mul,Nat.one_mul],hjN,by simp,by rw[ep];exact hJ3,hw3,hw4⟩
    case measure=>simp[intOf];omega
   ·gi_wp2
    refine bodyPost_ret (results_none rfl _ _ _) rfl ?_;exact⟨⟨_,rfl⟩,.inr ⟨_,⟨j+1,ep.symm⟩,hJx3⟩⟩
  ·have hjN:j=fK len k:=by
    refine Nat.le_antisymm hj (Nat.le_of_not_lt fun hc=>hlt ?_);unfold fK at hc;rw[eo (by omega)]at hc;unfold CM at hp;omega
   gi_wp2
   go_end0
   exact⟨⟨_,rfl⟩,.inl ⟨_,rfl,by rw[<-hjN];exact hJs⟩⟩
def Tryz.Vw:ue Tryz.prog 97:=fun b1 b2 a len cap k w h1k hk9 hl9 hlc hsome hb1 hb2 hc1 hc2 l J Jx W hW hJ _ hY h0=>
 Tryz.Xn b1 b2 a len cap k w h1k hk9 hl9 hlc hsome l J Jx (fun s W hs=>hJ s W W.drew none hs ⟨rfl,rfl,rfl,b9 _,fun _ _ _=>rfl⟩ (fun r e=>by cases e)) hY W
  ((hW.cell (p:=⟨b1,0,none⟩) hb1).trans hc1) ((hW.cell (p:=⟨b2,0,none⟩) hb2).trans hc2) h0
end Go.Proofs.YtgokjhhcfemnhadGreatDoor

namespace Go.Proofs.YtgokjhhcfemnhadGreatDoor
open Go.Vg Go.Mrl
@[reducible] def Tryz.cE:List Ob:=[.box 117 [.obj 1,.d (.int .i64),.d (.slice aC)],.box 98 [.obj 2,.obj 3,.obj 4,.d (.int .i64),.d .bool],.row true .str,.row true .str,.tok js]
@[reducible] def Tryz.Vx:List Ob:=[.box 66 [.obj 1],.box 117 [.obj 2,.d (.int .i64),.d (.slice aC)],.box 98 [.obj 3,.obj 4,.obj 5,.d (.int .i64),.d .bool],.row true .str,.row true .str,.tok js,.box 31 [.d .err],.box 31 [.d .err],.box 3 [.d (.int .i64)]]
def Tryz.spZ7:Bool×aU:=(true,cD [.int .i64,.int .i64] [.str] (fun _=>True) (fun x=>fI x.1 x.2))
def Tryz.spZ8:Bool×aU:=(false,aZ Tryz.bE [.obj 0,.d (.int .i64),.d .str] (fun _ x =>-1<=x.1.1/\x.2.2.2.1.length<=900000000) Tryz.xO)
def Tryz.spZ9:Bool×aU:=(false,aZ Tryz.bE [.obj 0] (fun _ x =>-1<=x.1.1/\x.2.1.length=x.2.2.1.length) Tryz.xQ)
def Tryz.Lu:List (FuncId×(Bool×aU)):=[(77,(true,cD [.slice aC] [.str,.err] (fun l=>l.length<=100) (fun l=>dN l))),(72,Tryz.spZ7),(78,(false,gy Tryz.B [] Tryz.f78 [])),(70,Tryz.spZ8),(71,Tryz.spZ9)]
def Tryz.QS:bP Tryz.prog Tryz.B Tryz.X Tryz.Lu:=
 aQ (aE Tryz.TB) (aQ (aE Tryz.IW) (aQ (eR (bR Tryz.bQ) Tryz.func78 (by kernel_rfl) []) (aQ (Tryz.xP) (aQ (Tryz.xR) (bR Tryz.bQ)))))
def Tryz.IX(l:List (D aC))(r:Int)(o:List (D aC))(d:Dk):List (Nat×(St->lF)):=[
 (0,fun st=>{inv:=fun pre=>(im l r d pre).2=0,keep:=[1,2,4,5,6,7,8,29],aO:=Tryz.Vx,refs:=[(2,0),(4,6),(6,7),(8,8)],pd:=fun pre=>((),(r,o,()),(im l r d pre).1.1,(im l r d pre).1.2.1,(im l r d pre).1.2.2.1,(im l r d pre).1.2.2.2.1,(aL.nil,()),(aL.nil,()),((2+(r+1).tmod 2*55+(pre.length:Int):Int),()),())})]
def Tryz.Bb:List (Alt Tryz.cE [.obj 0,.d (.slice aC)]):=[{bN:=Tryz.cE,res:=[.d .err],out:=fun a x=>(if(eJ x.2 x.1.1 a.1).2=0 then(x.1.1+1,a.1,())else x.1,(eJ x.2 x.1.1 a.1).1),ret:=fun a x=>(aJ (eJ x.2 x.1.1 a.1).2,())}]
def Vy(l:List (D aC))(r:Int)(o:List (D aC))(d:Dk)(hw:gV [.obj 0,.d (.slice aC)] (l,()))(hp:(fun a x=>a.1.length<=100/\0<=(x.1.1:Int)/\(x.1.1:Int)<=1000000000/\dC x.2 1000000) (l,()) ((r,o,()),d)):(Dx Tryz.B Tryz.Lu 97 Tryz.f50 (Tryz.IX l r o d) Tryz.cE [.obj 0,.d (.slice aC)] Tryz.Bb (l,()) ((r,o,()),d)).holds:=by
 refine holds_of (p:=
  let za:=d.2.2.2.1
  let zb:=(r,o,())
  let zc:=eJ d r l
  let zd:=r+(1:Int)
  let ze:=(zd,l,())
  let zf:=(if zc.2=(0:Int)then ze else zb,zc.1)
  let zg:=((dN l).2,())
  let zh:=(aJ zc.2,())
  let zi:=(2:Int)≠(0:Int)
  let zj:=db zd (2:Int)
  let zk:=bo (fun(b:UInt8)=>(↑(b6 b):Int)) (dN l).1
  let zl:=(aL.nil,())
  let zm:=(2:Int)+zj*(55:Int)
  let zn:=(bb zk+(64:Nat)-(1:Nat)) / (64:Nat)
  let zo:=fun(K:Nat)=>bd (64:Nat) (bj (K*(64:Nat)) zk)
  let zp:=fun(G:List Nat)=>(im l r d G).1
  let zq:=(-1:Int)
  let zr:=fun(G:List Nat)=>zm+(↑(bb G):Int)
  let zs:=fun(G:List Nat) (K:Nat)=>aJ (bL (zp G) (zr G) (bytesOf (zo K))).2
  let zt:=fun(G:List Nat) (K:Nat)=>(bL (zp G) (zr G) (bytesOf (zo K))).1
  let zu:=fun(K:Nat) (G:List Nat)=>(bb (zo K)<=aN)/\((zp G).2.2.2.1=(zp G).2.2.2.1)/\(zq<=(zp G).1.1/\bb (zp G).2.2.2.1<=(900000000:Nat))/\((True)->(((!aL.isNil (zs G K))=true->((G=cr K)->((zt G K).2.2.2.1=(zt G K).2.2.2.1/\True/\(zb,zt G K)=zf/\(zs G K,())=zh)))/\((!aL.isNil (zs G K))=false->((aM (zr G))->((aM (1:Int))->(aM (zr G+(1:Int)))/\((zt G K).2.2.2.1=(zt G K).2.2.2.1/\∃(x':List Nat),(im l r d x').2=(0:Int)/\x'=G++[K]/\True/\True/\true=true/\((),zb,(zt G K).1,(zt G K).2.1,(zt G K).2.2.1,(zt G K).2.2.2.1,zl,(zs G K,()),(zr G+(1:Int),()),())=((),zb,(im l r d x').1.1,(im l r d x').1.2.1,(im l r d x').1.2.2.1,(im l r d x').1.2.2.2.1,zl,zl,(zm+(↑(bb x'):Int),()),())))))))
  let zv:=im l r d (cr zn)
  let zw:=zv.1.2.2.2.1
  let zx:=aJ (bO zv.1).2
  let zy:=aL.isNil zx
  let zz:=bb (dN l).1
  let zaa:=(bO zv.1).1
  let zab:=zaa.2.2.2.1
  let zac:=zab=zab
  let zad:=zq<=zaa.1.1
  let zae:=fun(G:Int)=>bL zaa G (fI zd (↑zz:Int))
  let zaf:=fun(G:Int)=>(zae G).1.2.2.2.1=(zae G).1.2.2.2.1
  let zag:=fun(G:Int)=>(bO (zae G).1).1
  let zah:=fun(G:Int)=>(zag G).2.2.2.1=(zag G).2.2.2.1
  let zai:=fun(G:Int)=>(aJ (bO (zae G).1).2,())=zh
  let zaj:=fun(G:Int)=>(aJ (zae G).2,())=zh
  let zak:=aJ (bO zaa).2
  let zal:=(bO zaa).1
  let zam:=zal.2.2.2.1=zal.2.2.2.1
  let zan:=(zak,())=zh
  let zao:=(zx,())=zh
  (bb l<=(100:Nat))/\(((!aL.isNil (dN l).2)=true->(za=za/\True/\(zb,d)=zf/\zg=zh))/\((!aL.isNil (dN l).2)=false->((aM r)->((aM (1:Int))->(aM zd)/\(zi)/\(∀F:Int,((F=zj)->(∀I:Int,((I=F*(55:Int))->((aM F)->((aM (55:Int))->(aM I)/\((aM (2:Int))->((aM I)->(aM ((2:Int)+I))/\(((decide ((64:Int)<(1:Int)))=true->(False))/\((decide ((64:Int)<(1:Int)))=false->((((1:Int)<=(64:Int)/\(64:Int)<=(1000000000:Int)/\bb zk<=(1000000000:Nat)))/\((za=za/\∃(x':List Nat),(im l r d x').2=(0:Int)/\x'=@bc Nat/\True/\True/\true=true/\((),zb,d.1,d.2.1,d.2.2.1,za,zl,zg,((2:Int)+I,()),())=((),zb,(im l r d x').1.1,(im l r d x').1.2.1,(im l r d x').1.2.2.1,(im l r d x').1.2.2.2.1,zl,zl,(zm+(↑(bb x'):Int),()),())))/\((∀G:List Nat,(((im l r d G).2=(0:Int))->(∀K:Nat,((bb G<zn)->((((fun a0 a1:Prop=>a0/\a0/\a1) (((fun a0:Prop=>a0/\a0) ((zu K G)))) ((zu K G))))/\(((((fun a0:Prop=>a0/\a0) ((zu K G))))/\((zu K G))))/\((zu K G))))))))/\(((zv.2=(0:Int))->(zw=zw)/\(zq<=zv.1.1.1/\bb zv.1.2.1=bb zv.1.2.2.1)/\((True)->(((zy)=true->(zi)/\(∀G:Int,((G=zj)->((zz<=aN)->(True)/\(zac)/\(zad/\bb zab<=(900000000:Nat))/\((True)->(((aL.isNil (aJ (zae G).2))=true->(zaf G)/\(zq<=(zae G).1.1.1/\bb (zae G).1.2.1=bb (zae G).1.2.2.1)/\((True)->(((aL.isNil (aJ (bO (zae G).1).2))=true->((fun a0:Prop=>a0/\a0) ((zah G/\True/\(ze,zag G)=zf/\zai G))))/\((aL.isNil (aJ (bO (zae G).1).2))=false->(zah G/\True/\(zb,zag G)=zf/\zai G)))))/\((aL.isNil (aJ (zae G).2))=false->(((aL.isNil (aJ (zae G).2))=true->((fun a0:Prop=>a0/\a0) ((zaf G/\True/\(ze,(zae G).1)=zf/\zaj G))))/\((aL.isNil (aJ (zae G).2))=false->(zaf G/\True/\(zb,(zae G).1)=zf/\zaj G))))))))))/\((zy)=false->(((zy)=true->(zac)/\(zad/\bb zaa.2.1=bb zaa.2.2.1)/\((True)->(((aL.isNil zak)=true->((fun a0:Prop=>a0/\a0) ((zam/\True/\(ze,zal)=zf/\zan))))/\((aL.isNil zak)=false->(zam/\True/\(zb,zal)=zf/\zan)))))/\((zy)=false->(((zy)=true->((fun a0:Prop=>a0/\a0) ((zac/\True/\(ze,zaa)=zf/\zao))))/\((zy)=false->(zac/\True/\(zb,zaa)=zf/\zao)))))))))))))))))))))))))) (by kernel_rfl) ?_
 dsimp -iota -proj -eta only;dsimp only at hp;refine⟨hp.1,iB (fun h0 =>?a) (fun h0 h1 h2=>⟨(by have hr:=hp.2.1;have hr2:=hp.2.2.1;simp only[aM]at*;dsimp only[D]at*;omega),?b,fun F q_0 I q_1 h3 h4=>⟨?c,fun h5 h6=>⟨?d,⟨fun h7=>absurd (show false=true from h7) (by decide),fun h7=>⟨?e,?f,fun G q_2 K q_3=>⟨(show ∀{a0 a1:Prop},a0->a1->a0/\a0/\a1 from fun g0 g1=>⟨g0,g0,g1⟩) ((show ∀{a0:Prop},a0->a0/\a0 from fun g0=>⟨g0,g0⟩) (⟨?g,rfl,?h,fun h8=>iB (fun h9 h10 =>?i) (fun h9 h10 h11=>⟨?j,?k⟩)⟩)) (⟨?l,rfl,?m,fun h8=>iB (fun h9 h10 =>?n) (fun h9 h10 h11=>⟨?o,?p⟩)⟩),⟨(show ∀{a0:Prop},a0->a0/\a0 from fun g0=>⟨g0,g0⟩) (⟨?q,rfl,?r,fun h8=>iB (fun h9 h10 =>?s) (fun h9 h10 h11=>⟨?t,?u⟩)⟩),⟨?v,rfl,?w,fun h8=>iB (fun h9 h10 =>?x) (fun h9 h10 h11=>⟨?y,?z⟩)⟩⟩,⟨?a0,rfl,?a1,fun h8=>iB (fun h9 h10 =>?a2) (fun h9 h10 h11=>⟨?a3,?a4⟩)⟩⟩,fun h8=>⟨rfl,(by have hf:=AZ (r:=r) hp.1 hp.2.2.2;exact⟨hf.ma,hf.len⟩),fun h9=>⟨fun h10=>⟨?a5,fun G q_2 h11=>⟨ba,rfl,(by have hf:=rl (AZ (r:=r) hp.1 hp.2.2.2);exact⟨hf.ma,b4 hf.mo (by decide)⟩),fun h12=>⟨fun h13=>⟨rfl,(by have hf:=mb (rl (AZ (r:=r) hp.1 hp.2.2.2)) G (fI (r+1) (dN l).1.length);exact⟨hf.ma,hf.len⟩),fun h14=>⟨fun h15=>(show ∀{a0:Prop},a0->a0/\a0 from fun g0=>⟨g0,g0⟩) ((by subst q_2;exact⟨rfl,ba,Qj (E2 h0 h8 (aK.1 h10) (aK.1 h13)) (aK.1 h15)⟩)),fun h15=>(by subst q_2;exact⟨rfl,ba,sb (E2 h0 h8 (aK.1 h10) (aK.1 h13)) (dU h15)⟩)⟩⟩,fun h13=>⟨fun h14=>(show ∀{a0:Prop},a0->a0/\a0 from fun g0=>⟨g0,g0⟩) ((ct (h13.symm.trans h14))),fun h14=>(by subst q_2;exact⟨rfl,ba,sb (U6 h0 h8 (aK.1 h10) (dU h13)) (dU h13)⟩)⟩⟩⟩⟩,fun h10=>⟨fun h11=>⟨rfl,?a6,fun h12=>⟨fun h13=>(show ∀{a0:Prop},a0->a0/\a0 from fun g0=>⟨g0,g0⟩) (?a7),fun h13 =>?a8⟩⟩,fun h11=>⟨fun h12=>(show ∀{a0:Prop},a0->a0/\a0 from fun g0=>⟨g0,g0⟩) ((ct (h10.symm.trans h12))),fun h12=>⟨rfl,ba,sb (U5 h0 h8 (dU h10)) (dU h10)⟩⟩⟩⟩⟩⟩⟩⟩⟩⟩)⟩
 case a=>
  obtain⟨e1,e2,e3⟩:=Qi d r h0;rw[e3];exact⟨rfl,ba,sb (z:=(d,lG l)) e1 e2⟩
 case b|a5=>trivial
 case c|d=>have ht:=Uo (r:=r) hp.2.1;simp only[aM]at*;dsimp only[D]at*;omega
 case e=>refine⟨by decide,by decide,?_⟩;rw[bz];have:=E1 hp.1;omega
 case f=>
  refine⟨rfl,[],rfl,rfl,ba,ba,rfl,?_⟩;rw[(qL h0).1,q_1,q_0];simp[im,mu]
 case g|l|q|v|a0=>rw[b5];exact b4 (Nat.min_le_left _ _) (by decide)
 case h|m|r|w|a1=>
  have hf:=Ip (l:=l) (r:=r) hp.2.2.2 G;have h5000:=vr hp.1;exact⟨hf.ma,b4 hf.mo (by have:G.length<fK (bJ (dN l).1).length 64:=q_3;omega)⟩
 case i|n|s|x|a2=>exact⟨rfl,ba,sb (Nv h0 q_2 h10 q_3 (dU h9)) (dU h9)⟩
 case j|o|t|y|a3=>
  have ht:=Uo (r:=r) hp.2.1;have h5000:=vr hp.1;have:G.length<fK (bJ (dN l).1).length 64:=q_3;simp only[aM]at*;dsimp only[D]at*;omega
 case k|p|u|z|a4=>
  have hz:=aK.1 h9;refine⟨rfl,G++[K],?_,rfl,ba,ba,rfl,?_⟩
  ·rw[Ir K q_2];exact hz
  ·rw[Ir K q_2,bt]
   refine congrArg (fun z=>((),(r,o,()),z)) ?_;rw[show aJ _=aL.nil from congrArg aJ hz];simp only[bw,Int.natCast_add,Int.natCast_one,Int.add_assoc];rfl
 case a6|a7|a8=>exact ct (h10.symm.trans h11)
def Tryz.Lv:bY Tryz.prog Tryz.B.eT Tryz.X 50 false (aZ Tryz.cE [.obj 0,.d (.slice aC)] (fun a x=>a.1.length<=100/\0<=(x.1.1:Int)/\(x.1.1:Int)<=1000000000/\dC x.2 1000000) Tryz.Bb):=
 Dy (X:=Tryz.X) Tryz.QS Tryz.Vw Tryz.func97 (by kernel_rfl) Tryz.func50 (by kernel_rfl) (fun(a:CD [.obj 0,.d (.slice aC)]) (x:PD Tryz.cE)=>Tryz.IX a.1 x.1.1 x.1.2.1 x.2) (fun(a:CD [.obj 0,.d (.slice aC)]) (x:PD Tryz.cE) hw hp=>Vy a.1 x.1.1 x.1.2.1 x.2 hw hp)
def Tryz.CN:List (FuncId×(Bool×aU)):=[(74,(false,gy Tryz.B [] Tryz.f74 []))]
def Tryz.IY:bP Tryz.prog Tryz.B Tryz.X Tryz.CN:=
 aQ (eR (bR Tryz.bQ) Tryz.func74 (by kernel_rfl) []) (bR Tryz.bQ)
def Fo:dY:=[(0,fun st=>{X:=Nat,inv:=fun i=>i<=(cO (.slice aC) st 0).length/\∀j,j<i->(nth aC (cO (.slice aC) st 0) j).1≠Sb .str st (Mt st 1 0),cB:=fun i=>(cO (.slice aC) st 0).length-i,bK:=fun i=>[(8,sI i)],keep:=[0,1,7]})]
def Tryz.Lw:List (FuncId×(Bool×aU)):=[(73,(false,gy Tryz.B Tryz.CN Tryz.f73 Fo))]
def Tryz.QT:bP Tryz.prog Tryz.B Tryz.X Tryz.Lw:=
 aQ (eR Tryz.IY Tryz.func73 (by kernel_rfl) Fo) (bR Tryz.bQ)
def Tryz.Bc:List (Alt Tryz.cE [.obj 0,.d .str]):=[{bN:=Tryz.cE,res:=[.d (.int .i64)],out:=fun _ x=>x,ret:=fun a x=>(dV x.1.2.1 a.1,())}]
def Vz(s:List UInt8)(r:Int)(o:List (D aC))(d:Dk)(hw:gV [.obj 0,.d .str] (s,())):(cY Tryz.B Tryz.Lw Tryz.f48 [] Tryz.cE [.obj 0,.d .str] Tryz.Bc (s,()) ((r,o,()),d)).holds:=by
 refine holds_of (p:=
  let za:=bb o
  let zb:=d.2.2.2.1=d.2.2.2.1
  let zc:=((r,o,()),d)
  let zd:=(dV o s,())
  let ze:=C.ref 1 0
  za<=aN->(∃(x:Nat),(x<=za/\∀(j:Nat),j<x->(nth aC o j).1≠s)/\(0=(↑x:Int)/\True)/\True)/\∀F:Nat,(F<=za/\∀(j:Nat),j<F->(nth aC o j).1≠s)->((decide ((↑F:Int)<(↑za:Int)))=true->(0<=(↑F:Int)/\(↑F:Int)<(↑za:Int))/\(((nth aC o F).1 == s)=true->zb/\True/\zc=zc/\((↑F:Int),())=zd)/\(((nth aC o F).1 == s)=false->aM (↑F:Int)->aM 1->aM ((↑F:Int)+1)/\∃(x':Nat),(x'<=za/\∀(j:Nat),j<x'->(nth aC o j).1≠s)/\za-x'<za-F/\((↑F:Int)+1=(↑x':Int)/\True)/\(s=s/\True)/\(ze=ze/\r=r/\o=o/\True)/\(C.aV 2=C.aV 2/\C.aV 3=C.aV 3/\zb/\d.1.1=d.1.1/\d.1.2.1=d.1.2.1/\True)/\d.2.1=d.2.1/\d.2.2.1=d.2.2.1/\zb/\True))/\((decide ((↑F:Int)<(↑za:Int)))=false->zb/\True/\zc=zc/\((-1:Int),())=zd)) (by kernel_rfl) ?_
 dsimp -iota -proj -eta only;exact fun h0=>⟨(⟨0,⟨b7 _,fun j hj=>absurd hj (cu _)⟩,⟨rfl,ba⟩,ba⟩),fun F q_0=>iL (fun h1=>⟨(by omega),iQ (fun h2=>⟨rfl,ba,rfl,by rw[sa (by omega) q_0.2 h2]⟩) (fun h2 h3 h4=>⟨(by simp only[aM,aN]at*;omega),(⟨F+1,⟨by omega,lV q_0.2 h2⟩,by omega,⟨by omega,ba⟩,(by trivial)⟩)⟩)⟩) (fun h1=>⟨rfl,ba,rfl,by rw[rk fun j hj=>q_0.2 j (by omega)]⟩)⟩
def Tryz.DH:bY Tryz.prog Tryz.B.eT Tryz.X 48 false (aZ Tryz.cE [.obj 0,.d .str] (fun _ _=>True) Tryz.Bc):=
 bH (X:=Tryz.X) Tryz.QT Tryz.func48 (by kernel_rfl) (fun(a:CD [.obj 0,.d .str]) (x:PD Tryz.cE)=>[]) (fun(a:CD [.obj 0,.d .str]) (x:PD Tryz.cE) hw hp=>Vz a.1 x.1.1 x.1.2.1 x.2 hw)
def NR(l:List (D aH))(hw:gU [.slice aH] l)(hp:(fun l=>l.length<=1000000) l):(dM Tryz.B [] Tryz.f75 [] [.slice aH] [.slice aH] (fun x y=>y=(fun l=>l) x) l).holds:=by
 refine holds_of (p:=
  ∀F:Bool,(0<bb l->F=false)->(F=true->(@bc (List UInt8×Int×Int×Unit)=l))/\(F=false->bb l<=1000000000/\l=l)) (by kernel_rfl) ?_
 exact fun F q_0=>⟨fun h0=>(by simp_all),fun h0=>⟨(by omega),rfl⟩⟩
def Tryz.NS:bX Tryz.prog Tryz.B.eT Tryz.X 75 [.slice aH] [.slice aH] (fun l=>l.length<=1000000) (fun x y=>y=(fun l=>l) x):=
 cG (X:=Tryz.X) (bR Tryz.bQ) Tryz.func75 (by kernel_rfl) (fun _=>[]) (fun x hw hp=>NR x hw hp)
def NT(l:List (D aR))(hw:gU [.slice aR] l)(hp:(fun l=>l.length<=1000000) l):(dM Tryz.B [] Tryz.f76 [] [.slice aR] [.slice aR] (fun x y=>y=(fun l=>l) x) l).holds:=by
 refine holds_of (p:=
  ∀F:Bool,(0<bb l->F=false)->(F=true->(@bc (Int×Int×Int×Unit)=l))/\(F=false->bb l<=1000000000/\l=l)) (by kernel_rfl) ?_
 exact fun F q_0=>⟨fun h0=>(by simp_all),fun h0=>⟨(by omega),rfl⟩⟩
def Tryz.NU:bX Tryz.prog Tryz.B.eT Tryz.X 76 [.slice aR] [.slice aR] (fun l=>l.length<=1000000) (fun x y=>y=(fun l=>l) x):=
 cG (X:=Tryz.X) (bR Tryz.bQ) Tryz.func76 (by kernel_rfl) (fun _=>[]) (fun x hw hp=>NT x hw hp)
def Tryz.Fp:List (FuncId×(Bool×aU)):=[(75,(true,cD [.slice aH] [.slice aH] (fun l=>l.length<=1000000) (fun l=>l))),(76,(true,cD [.slice aR] [.slice aR] (fun l=>l.length<=1000000) (fun l=>l)))]
def Tryz.Kl:bP Tryz.prog Tryz.B Tryz.X Tryz.Fp:=
 aQ (aE Tryz.NS) (aQ (aE Tryz.NU) (bR Tryz.bQ))
def QU(e:D aC)(hw:gU [aC] e)(hp:(fun e=>e.2.1.length<=1000000/\e.2.2.1.length<=1000000) e):(dM Tryz.B Tryz.Fp Tryz.f49 [] [aC] [aC] (fun x y=>y=(fun e=>e) x) e).holds:=by
 refine holds_of (p:=
  bb e.2.1<=1000000/\bb e.2.2.1<=1000000/\e=e) (by kernel_rfl) ?_
 refine⟨?a,?b,rfl⟩
 case a|b=>omega
def Tryz.Fq:bX Tryz.prog Tryz.B.eT Tryz.X 49 [aC] [aC] (fun e=>e.2.1.length<=1000000/\e.2.2.1.length<=1000000) (fun x y=>y=(fun e=>e) x):=
 cG (X:=Tryz.X) Tryz.Kl Tryz.func49 (by kernel_rfl) (fun _=>[]) (fun x hw hp=>QU x hw hp)
def Tryz.spZ10:Bool×aU:=(false,gy Tryz.B [] Tryz.f47 [])
def Tryz.spZ11:Bool×aU:=(false,aZ Tryz.cE [.obj 0,.d .str] (fun _ _=>True) Tryz.Bc)
def Tryz.spZ12:Bool×aU:=(true,cD [aC] [aC] (fun e=>e.2.1.length<=1000000/\e.2.2.1.length<=1000000) (fun e=>e))
def Tryz.spZ13:Bool×aU:=(false,aZ Tryz.cE [.obj 0,.d (.slice aC)] (fun a x=>a.1.length<=100/\0<=(x.1.1:Int)/\(x.1.1:Int)<=1000000000/\dC x.2 1000000) Tryz.Bb)
def Tryz.IZ:List (FuncId×(Bool×aU)):=[(46,Tryz.spZ3),(47,Tryz.spZ10),(48,Tryz.spZ11),(49,Tryz.spZ12),(50,Tryz.spZ13)]
def Tryz.NV:bP Tryz.prog Tryz.B Tryz.X Tryz.IZ:=
 aQ (aE Tryz.Fi) (aQ (eR (bR Tryz.bQ) Tryz.func47 (by kernel_rfl) []) (aQ (Tryz.DH) (aQ (aE Tryz.Fq) (aQ (Tryz.Lv) (bR Tryz.bQ)))))
def Tryz.DI:List (Alt Tryz.cE [.obj 0,.d aC]):=[{bN:=Tryz.cE,res:=[.d .err],out:=fun a x=>(ku x a.1).1,ret:=fun a x=>(aJ (ku x a.1).2,())}]
def TC(e:D aC)(r:Int)(o:List (D aC))(d:Dk)(hw:gV [.obj 0,.d aC] (e,()))(hp:(fun a x=>(a.1.2.1.length<=1000000/\a.1.2.2.1.length<=1000000)/\x.1.2.1.length<=99/\0<=(x.1.1:Int)/\(x.1.1:Int)<=1000000000/\dC x.2 1000000) (e,()) ((r,o,()),d)):(cY Tryz.B Tryz.IZ Tryz.f31 [] Tryz.cE [.obj 0,.d aC] Tryz.DI (e,()) ((r,o,()),d)).holds:=by
 refine holds_of (p:=
  let za:=aJ (bB e)
  let zb:=d.2.2.2.1=d.2.2.2.1
  let zc:=(r,o,())
  let zd:=ku (zc,d) e
  let ze:=(zc,d)=zd.1
  let zf:=(aJ zd.2,())
  let zg:=bb o
  let zh:=dV o e.1
  let zi:=decide (zh>=0)
  let zj:=bb e.2.1<=1000000/\bb e.2.2.1<=1000000
  let zk:=0<=zh
  let zl:=bb (@bc (List UInt8×List (List UInt8×Int×Int×Unit)×List (Int×Int×Int×Unit)×Unit))
  let zm:=zb/\True/\ze/\(aL.no 2,())=zf
  let zn:=@bc (List UInt8×List (List UInt8×Int×Int×Unit)×List (Int×Int×Int×Unit)×Unit)++[e]
  let zo:=0<=r/\r<=1000000000/\dC d 1000000
  let zp:=eJ d r zn
  let zq:=zp.1.2.2.2.1
  let zr:=r+1
  let zs:=c7 o (bf zh) e
  let zt:=eJ d r zs
  let zu:=zt.1.2.2.2.1
  let zv:=o++[e]
  let zw:=eJ d r zv
  let zx:=zw.1.2.2.2.1
  True/\((!aL.isNil za)=true->zb/\True/\ze/\(za,())=zf)/\((!aL.isNil za)=false->∀F:Bool,(0<zg->F=false)->(F=true->zb/\True/\(True->(zi=true->zj/\(zk/\zh<(↑zl:Int))/\False)/\(zi=false->zl<=aN->(((↑zl:Int) == 3)=true->zm)/\(((↑zl:Int) == 3)=false->zj/\(@bc (List UInt8×List (List UInt8×Int×Int×Unit)×List (Int×Int×Int×Unit)×Unit)=@bc (List UInt8×List (List UInt8×Int×Int×Unit)×List (Int×Int×Int×Unit)×Unit)/\zl+bb [e]<=1000000000)/\zb/\(bb zn<=100/\zo)/\(True->zq=zq/\True/\(if zp.2=0 then(zr,zn,())else zc,zp.1)=zd.1/\(aJ zp.2,())=zf)))))/\(F=false->zg<=1000000000/\zb/\True/\(True->(zi=true->zj/\(zk/\zh<(↑zg:Int))/\bf zh<zg/\zb/\(bb zs<=100/\zo)/\(True->zu=zu/\True/\(if zt.2=0 then(zr,zs,())else zc,zt.1)=zd.1/\(aJ zt.2,())=zf))/\(zi=false->zg<=aN->(((↑zg:Int) == 3)=true->zm)/\(((↑zg:Int) == 3)=false->zj/\(o=o/\zg+bb [e]<=1000000000)/\zb/\(bb zv<=100/\zo)/\(True->zx=zx/\True/\(if zw.2=0 then(zr,zv,())else zc,zw.1)=zd.1/\(aJ zw.2,())=zf))))))) (by kernel_rfl) ?_
 dsimp -iota -proj -eta only;dsimp only at hp;refine⟨ba,iB (fun h0=>(by rw[E3 (dU h0)];exact⟨rfl,ba,rfl,rfl⟩)) (fun h0 F q_0=>⟨fun h1=>⟨rfl,ba,fun h2=>iE (fun h3=>⟨?a,(by exfalso;have:=xE q_0 h1;subst this;exact oW _ h3),(by have:=xE q_0 h1;subst this;exact oW _ h3)⟩) (fun h3 h4=>⟨fun h5=>absurd (show false=true from h5) (by decide),fun h5=>⟨?b,?c,rfl,?d,fun h6 =>?e⟩⟩)⟩,fun h1=>⟨?f,rfl,ba,fun h2=>iE (fun h3=>⟨?g,⟨by omega,(p3 o e.1).1⟩,(by have:=(p3 o e.1).1;omega),rfl,?h,fun h4=>(by rw[Ll (x:=((r,o,()),d)) (aK.1 h0) (by omega)];exact⟨rfl,ba,rfl,rfl⟩)⟩) (fun h3 h4=>iQ (fun h5=>(by rw[Is (x:=((r,o,()),d)) (aK.1 h0) (show ¬0<=dV o e.1 by omega) h5];exact⟨rfl,ba,rfl,rfl⟩)) (fun h5=>⟨?i,(by have h99:o.length<=99:=hp.2.1;exact⟨rfl,by rw[bw];omega⟩),rfl,?j,fun h6=>(by rw[Dz (x:=((r,o,()),d)) (aK.1 h0) (show ¬0<=dV o e.1 by omega) h5];exact⟨rfl,ba,rfl,rfl⟩)⟩))⟩⟩)⟩
 case a|b|f|g|i=>omega
 case c|d|j=>simp_all
 case e=>
  have ho:=xE q_0 h1;subst ho;rw[Dz (x:=((r,[],()),d)) (aK.1 h0) (oW _) (show ¬((([]:List (D aC)).length:Int)=3)from by decide)];exact⟨rfl,ba,rfl,rfl⟩
 case h=>refine⟨?_,hp.2.2.1,hp.2.2.2.1,hp.2.2.2.2⟩;rw[en];exact b4 hp.2.1 (by decide)
def Tryz.TD:bY Tryz.prog Tryz.B.eT Tryz.X 31 false (aZ Tryz.cE [.obj 0,.d aC] (fun a x=>(a.1.2.1.length<=1000000/\a.1.2.2.1.length<=1000000)/\x.1.2.1.length<=99/\0<=(x.1.1:Int)/\(x.1.1:Int)<=1000000000/\dC x.2 1000000) Tryz.DI):=
 bH (X:=Tryz.X) Tryz.NV Tryz.func31 (by kernel_rfl) (fun(a:CD [.obj 0,.d aC]) (x:PD Tryz.cE)=>[]) (fun(a:CD [.obj 0,.d aC]) (x:PD Tryz.cE) hw hp=>TC a.1 x.1.1 x.1.2.1 x.2 hw hp)
def Tryz.QV:List (FuncId×(Bool×aU)):=[(48,Tryz.spZ11),(49,Tryz.spZ12)]
def Tryz.TE:bP Tryz.prog Tryz.B Tryz.X Tryz.QV:=
 aQ (Tryz.DH) (aQ (aE Tryz.Fq) (bR Tryz.bQ))
def Tryz.DJ:List (Alt Tryz.cE [.obj 0,.d .str]):=[{bN:=Tryz.cE,res:=[.d aC,.d .bool],out:=fun _ x=>x,ret:=fun a x=>((eK x.1.2.1 a.1).1,(eK x.1.2.1 a.1).2,())}]
def Ww(s:List UInt8)(r:Int)(o:List (D aC))(d:Dk)(hw:gV [.obj 0,.d .str] (s,()))(hp:(fun _ x=>∀i,i<x.1.2.1.length->(nth aC x.1.2.1 i).2.1.length<=1000000/\(nth aC x.1.2.1 i).2.2.1.length<=1000000) (s,()) ((r,o,()),d)):(cY Tryz.B Tryz.QV Tryz.f32 [] Tryz.cE [.obj 0,.d .str] Tryz.DJ (s,()) ((r,o,()),d)).holds:=by
 refine holds_of (p:=
  let za:=d.2.2.2.1=d.2.2.2.1
  let zb:=dV o s
  let zc:=((r,o,()),d)
  let zd:=((eK o s).1,(eK o s).2,())
  let ze:=nth aC o (bf zb)
  za/\True/\(True->((decide (zb<0))=true->za/\True/\zc=zc/\(([],[],[],()),false,())=zd)/\((decide (zb<0))=false->(0<=zb/\zb<(↑(bb o):Int))/\(bb ze.2.1<=1000000/\bb ze.2.2.1<=1000000)/\za/\True/\zc=zc/\(ze,true,())=zd))) (by kernel_rfl) ?_
 dsimp -iota -proj -eta only;dsimp only at hp;exact⟨rfl,ba,fun h0=>iL (fun h1=>(by rw[It (by omega)];exact⟨rfl,ba,rfl,rfl⟩)) (fun h1=>⟨⟨by omega,(p3 o s).1⟩,(hp _ (by have:=(p3 o s).1;omega)),(by rw[yA (by omega)];exact⟨rfl,ba,rfl,rfl⟩)⟩)⟩
def Tryz.Wx:bY Tryz.prog Tryz.B.eT Tryz.X 32 false (aZ Tryz.cE [.obj 0,.d .str] (fun _ x=>∀i,i<x.1.2.1.length->(nth aC x.1.2.1 i).2.1.length<=1000000/\(nth aC x.1.2.1 i).2.2.1.length<=1000000) Tryz.DJ):=
 bH (X:=Tryz.X) Tryz.TE Tryz.func32 (by kernel_rfl) (fun(a:CD [.obj 0,.d .str]) (x:PD Tryz.cE)=>[]) (fun(a:CD [.obj 0,.d .str]) (x:PD Tryz.cE) hw hp=>Ww a.1 x.1.1 x.1.2.1 x.2 hw hp)
def Tryz.spZ14:Bool×aU:=(true,cD [.str] [.int .i64,.err] (fun s=>s.length<=281474976710656) (fun s=>dZ s))
def Tryz.spZ15:Bool×aU:=(true,cD [.str,.str] [.str,.bool] (fun _=>True) (fun x=>(cb x.1 x.2,cy x.1 x.2)))
def Tryz.spZ16:Bool×aU:=(true,cD [.str,.str] [.str] (fun _=>True) (fun x=>br x.1 x.2))
def Tryz.spZ17:Bool×aU:=(true,cD [.str,.str] [.slice .str] (fun x=>x.1.length<4294967281/\x.2.length=1) (fun x=>parts (Hx x.2) x.1))
def Tryz.CO:List (FuncId×(Bool×aU)):=[(84,Tryz.spZ2),(103,Tryz.spZ14),(81,Tryz.spZ15),(52,Tryz.spZ16),(51,Tryz.spZ17)]
def Tryz.I0:bP Tryz.prog Tryz.B Tryz.X Tryz.CO:=
 aQ (aE Tryz.oO) (aQ (aE Tryz.se) (aQ (aE Tryz.nu) (aQ (aE Tryz.my) (aQ (aE Tryz.sf) (bR Tryz.bQ)))))
def CP(l:List (List UInt8)):dY:=[
 (0,fun st=>{X:=Nat,inv:=fun i=>i<=l.length/\∀j,j<i->(cT (nth .str l j)).isNone=false,cB:=fun i=>l.length-i,bK:=fun i=>[(11,sI i),(4,.s (.one (.app (.int .i64) (l8 (l.take i)) (bF st 4))))],aF:=fun i=>[(bF st 4,.tok (.int .i64) (l8 (l.take i)))],keep:=[9,10],gP:=[bF st 4]})]
def Km(l:List (List UInt8))(hw:gU [.slice .str] l)(hp:(fun l=>l.length<=1000000/\∀i,(nth .str l i).length<=1000000) l):(dM Tryz.B Tryz.CO Tryz.f89 (CP l) [.slice .str] [.slice (.int .i64),.bool] (fun x y=>y=(fun l=>bS l) x) l).holds:=by
 refine holds_of (p:=
  let za:=bb l
  let zb:=([],false)=bS l
  let zc:=fun(F:Nat)=>l8 (bd F l)
  let zd:=fun(F:Nat)=>zc F++[(dZ (nth Ty.str l F)).1]
  za<=aN->(∃(x:Nat),(x<=za/\∀(j:Nat),j<x->ck (cT (nth Ty.str l j))=false)/\(0=(↑x:Int)/\@bc Int=l8 (bd x l)/\True)/\@bc Int=l8 (bd x l)/\True)/\∀F:Nat,(F<=za/\∀(j:Nat),j<F->ck (cT (nth Ty.str l j))=false)->((decide ((↑F:Int)<(↑za:Int)))=true->(0<=(↑F:Int)/\(↑F:Int)<(↑za:Int))/\bb (nth Ty.str l F)<=281474976710656/\((!aL.isNil (dZ (nth Ty.str l F)).2)=true->zb)/\((!aL.isNil (dZ (nth Ty.str l F)).2)=false->True/\((!bp (dZ (nth Ty.str l F)).1 == nth Ty.str l F)=true->zb)/\((!bp (dZ (nth Ty.str l F)).1 == nth Ty.str l F)=false->(zc F=zc F/\bb (zc F)+bb [(dZ (nth Ty.str l F)).1]<=1000000000)/\(aM (↑F:Int)->aM 1->aM ((↑F:Int)+1)/\∃(x':Nat),(x'<=za/\∀(j:Nat),j<x'->ck (cT (nth Ty.str l j))=false)/\za-x'<za-F/\((↑F:Int)+1=(↑x':Int)/\zd F=l8 (bd x' l)/\True)/\zd F=l8 (bd x' l)/\@bc Int=@bc Int/\True))))/\((decide ((↑F:Int)<(↑za:Int)))=false->(zc F,true)=bS l)) (by kernel_rfl) ?_
 dsimp -iota -proj -eta only;refine fun h0=>⟨(⟨0,⟨b7 _,fun j hj=>absurd hj (cu _)⟩,⟨rfl,rfl,ba⟩,rfl,ba⟩),fun F q_0=>iL (fun h1=>⟨(by omega),(b4 (hp.2 _) (by decide)),iB (fun h2=>(zS (i:=F) (by omega) (by rw[qE,h2];rfl))) (fun h2=>⟨ba,⟨fun h3 =>?a,fun h3=>⟨?b,fun h4 h5=>⟨?c,?d⟩⟩⟩⟩)⟩) (fun h1=>(Nn (i:=F) (by omega) (fun j hj _=>q_0.2 j hj)))⟩
 case a=>
  simp only[bl,reduceCtorEq]at h3;exact zS (i:=F) (by omega) (by rw[qE,decide_eq_false h3];simp)
 case b=>
  simp only[bl,reduceCtorEq]at h3;exact⟨rfl,by unfold l8;simp only[bz,b5,bw];omega⟩
 case c=>
  simp only[bl,reduceCtorEq]at h3;simp only[aM,aN]at*;omega
 case d=>
  simp only[bl,reduceCtorEq]at h3;exact⟨F+1,⟨by omega,lV q_0.2 (by rw[qE,h2,decide_eq_true h3];rfl)⟩,by omega,⟨by omega,(Cr (by omega)).symm,ba⟩,(Cr (by omega)).symm,(by trivial)⟩
def Tryz.Kn:bX Tryz.prog Tryz.B.eT Tryz.X 89 [.slice .str] [.slice (.int .i64),.bool] (fun l=>l.length<=1000000/\∀i,(nth .str l i).length<=1000000) (fun x y=>y=(fun l=>bS l) x):=
 cG (X:=Tryz.X) Tryz.I0 Tryz.func89 (by kernel_rfl) (fun x=>CP x) (fun x hw hp=>Km x hw hp)
def Tryz.Fs:List (FuncId×(Bool×aU)):=[(84,Tryz.spZ2),(103,Tryz.spZ14),(81,Tryz.spZ15),(52,Tryz.spZ16),(51,Tryz.spZ17),(89,(true,cD [.slice .str] [.slice (.int .i64),.bool] (fun l=>l.length<=1000000/\∀i,(nth .str l i).length<=1000000) (fun l=>bS l))),(90,Tryz.spZ6)]
def Tryz.Ko:bP Tryz.prog Tryz.B Tryz.X Tryz.Fs:=
 aQ (aE Tryz.oO) (aQ (aE Tryz.se) (aQ (aE Tryz.nu) (aQ (aE Tryz.my) (aQ (aE Tryz.sf) (aQ (aE Tryz.Kn) (aQ (aE Tryz.IS) (bR Tryz.bQ)))))))
def Tryz.Ft(s:List UInt8):dY:=[
 (300004,fun st=>{X:=List Int×Bool,inv:=fun y=>qY (parts 32 (br s [10])) y,cB:=fun _=>0,bK:=fun y=>[(5,sD (.slice (.int .i64)) y.1),(6,sB y.2)],keep:=[0,2,3,4]}),
 (300005,fun st=>{X:=Bool,inv:=fun c=>c=false↔pY (parts 32 (br s [10])),cB:=fun _=>0,bK:=fun c=>[(69,sB c)],keep:=[0,2,3,4,5]}),
 (300011,fun st=>{X:=List (List UInt8),inv:=fun x=>lh (parts 32 (br s [10])) x (bf (cO (.int .i64) st 8)),cB:=fun _=>0,bK:=fun x=>[(9,sD (.slice .str) x)],keep:=[0,2,3,4,5,7,8,82,83,84,85]}),
 (0,fun st=>{X:=Nat,inv:=fun i=>i<=(bf (nth (.int .i64) (cO (.slice (.int .i64)) st 5) 0))+(bf (nth (.int .i64) (cO (.slice (.int .i64)) st 5) 1)),cB:=fun i=>(bf (nth (.int .i64) (cO (.slice (.int .i64)) st 5) 0))+(bf (nth (.int .i64) (cO (.slice (.int .i64)) st 5) 1))-i,bK:=fun i=>[(83,sI i)],aF:=fun i=>[(bF st 7,.cells 53 [.d .str (nth .str (parts 32 (br s [10])) 0),.app aH (dX dD (parts 32 (br s [10])) (cg i (bf (nth (.int .i64) (cO (.slice (.int .i64)) st 5) 0)))) (lf st (bF st 7) 1),.app aR (cU dD (parts 32 (br s [10])) (bf (nth (.int .i64) (cO (.slice (.int .i64)) st 5) 0)) (i-(bf (nth (.int .i64) (cO (.slice (.int .i64)) st 5) 0)))) (lf st (bF st 7) 2)]),(lf st (bF st 7) 1,.tok aH (dX dD (parts 32 (br s [10])) (cg i (bf (nth (.int .i64) (cO (.slice (.int .i64)) st 5) 0))))),(lf st (bF st 7) 2,.tok aR (cU dD (parts 32 (br s [10])) (bf (nth (.int .i64) (cO (.slice (.int .i64)) st 5) 0)) (i-(bf (nth (.int .i64) (cO (.slice (.int .i64)) st 5) 0)))))],keep:=[0,2,4,5,7,82],gP:=[bF st 7,lf st (bF st 7) 1,lf st (bF st 7) 2]})]
def QW(s:List UInt8)(hw:gU [.str] s)(hp:(fun s=>s.length<=100000) s):(dM Tryz.B Tryz.Fs Tryz.f61 (Tryz.Ft s) [.str] [aC,.err] (fun x y=>y=(fun s=>gW s) x) s).holds:=by
 refine holds_of (p:=
  let za:=br s [(10:UInt8)]
  let zb:=parts (32:UInt8) za
  let zc:=bb zb<=aN
  let zd:=(↑(bb zb):Int)
  let ze:=(([],[],[],()),aL.no (4:Int))=gW s
  let zf:=(0:Int)<=(1:Int)
  let zg:=bj 1 (bd 3 zb)
  let zh:=@bc (List UInt8×Int×Int×Unit)=@bc (List UInt8×Int×Int×Unit)
  let zi:=@bc (Int×Int×Int×Unit)=@bc (Int×Int×Int×Unit)
  let zj:=(@bc UInt8=@bc UInt8/\zh/\zi/\True)/\zi/\zh/\True
  let zk:=pY zb
  let zl:=∃(x':Bool),(x'=false↔zk)/\(true=x'/\True)/\zj
  let zm:=(0:Int)<=(0:Int)
  let zn:=fun(F:List Int×Bool)=>zm/\(0:Int)<(↑(bb F.1):Int)
  let zo:=Ty.int bm
  let zp:=fun(F:List Int×Bool)=>nth zo F.1 0
  let zq:=fun(F:List Int×Bool)=>zf/\(1:Int)<(↑(bb F.1):Int)
  let zr:=fun(F:List Int×Bool)=>nth zo F.1 1
  let zs:=fun(F:List Int×Bool)=>aM (zp F+zr F)
  let zt:=aM (3:Int)
  let zu:=fun(I:Int)=>(3:Int)+I
  let zv:=fun(F:List Int×Bool)=>bf (zp F)
  let zw:=fun(F:List Int×Bool)=>zv F+bf (zr F)
  let zx:=nth Ty.str zb 0
  let zy:=zx=zx
  let zz:=fun(G:Nat)=>aM (↑G:Int)
  let zaa:=fun(G:Nat) (F:List Int×Bool)=>dX dD zb (cg G (zv F))
  let zab:=fun(F:List Int×Bool) (G:Nat)=>cU dD zb (zv F) (G-zv F)
  let zac:=zi/\zh/\zj
  let zad:=fun(K:List (List UInt8))=>(↑(bb K):Int)
  let zae:=fun(K:List (List UInt8))=>bj 1 (bd (bb K) K)
  let zaf:=fun(K:List (List UInt8))=>(bS (zae K)).1
  let zag:=fun(K:List (List UInt8))=>[(nth Ty.str K 0,nth zo (zaf K) 0,nth zo (zaf K) 1,())]
  let zah:=fun(G:Nat)=>(↑G:Int)+(1:Int)
  let zai:=fun(K:List (List UInt8))=>(bS K).1
  let zaj:=fun(K:List (List UInt8))=>(↑(bb (zai K)):Int)
  let zak:=fun(K:List (List UInt8))=>[(nth zo (zai K) 0,nth zo (zai K) 1,nth zo (zai K) 2,())]
  True/\(bb za<4294967281/\bb [(32:UInt8)]=1)/\(zc->((decide (zd<(3:Int)))=true->ze)/\((decide (zd<(3:Int)))=false->((zf/\(1:Int)<=(3:Int)/\(3:Int)<=zd)/\(bb zg<=1000000/\∀(i:Nat),bb (nth Ty.str zg i)<=1000000)/\∃(x':List Int×Bool),qY zb x'/\((bS zg).1=x'.1/\(bS zg).2=x'.2/\True)/\zj)/\∀F:List Int×Bool,qY zb F->(((!F.2)=true->zl)/\((!F.2)=false->zn F/\((decide (zp F<(0:Int)))=true->zl)/\((decide (zp F<(0:Int)))=false->zn F/\((decide (zp F > (6:Int)))=true->zl)/\((decide (zp F > (6:Int)))=false->zq F/\((decide (zr F<(0:Int)))=true->zl)/\((decide (zr F<(0:Int)))=false->zq F/\((decide (zr F > (36:Int)))=true->zl)/\((decide (zr F > (36:Int)))=false->zc->zn F/\zq F/\(aM (zp F)->aM (zr F)->zs F/\∀I:Int,I=(3:Int)*(zp F+zr F)->zt->zs F->aM I/\(zt->aM I->aM (zu I)/\∃(x':Bool),(x'=false↔zk)/\((zd != zu I)=x'/\True)/\zj))))))))/\∀I:Bool,(I=false↔zk)->(I=true->ze)/\(I=false->(zm/\(0:Int)<zd)/\zn F/\zq F/\(aM (zp F)->aM (zr F)->zs F/\(∃(x:Nat),x<=zw F/\((0:Int)=(↑x:Int)/\True)/\(zy/\@bc (List UInt8×Int×Int×Unit)=dX dD zb (cg x (zv F))/\@bc (Int×Int×Int×Unit)=cU dD zb (zv F) (x-zv F)/\True)/\@bc (List UInt8×Int×Int×Unit)=dX dD zb (cg x (zv F))/\@bc (Int×Int×Int×Unit)=cU dD zb (zv F) (x-zv F)/\True)/\∀G:Nat,G<=zw F->((decide ((↑G:Int)<zp F+zr F))=true->(∀K:Int,K=(3:Int)*(↑G:Int)->zt->zz G->aM K/\(zt->aM K->aM (zu K)/\∀M:Int,M=(3:Int)*(↑G:Int)->zt->zz G->aM M/\(aM (6:Int)->aM M->aM ((6:Int)+M)/\((0:Int)<=zu K/\zu K<=(6:Int)+M/\(6:Int)+M<=zd)/\∃(x':List (List UInt8)),lh zb x' G/\(bj (bf (zu K)) (bd (bf ((6:Int)+M)) zb)=x'/\True)/\(zy/\zaa G F=zaa G F/\zab F G=zab F G/\True)/\zaa G F=zaa G F/\zab F G=zab F G/\zac)))/\∀K:List (List UInt8),lh zb K G->zn F/\((decide ((↑G:Int)<zp F))=true->(zf/\(1:Int)<=zad K/\zad K<=zad K)/\(bb (zae K)<=1000000/\∀(i:Nat),bb (nth Ty.str (zae K) i)<=1000000)/\((!(bS (zae K)).2)=true->ze)/\((!(bS (zae K)).2)=false->(zm/\(0:Int)<zad K)/\(zm/\(0:Int)<(↑(bb (zaf K)):Int))/\(zf/\(1:Int)<(↑(bb (zaf K)):Int))/\(zaa G F=zaa G F/\bb (zaa G F)+bb (zag K)<=1000000000)/\(zz G->aM (1:Int)->aM (zah G)/\∃(x':Nat),x'<=zw F/\zw F-x'<zw F-G/\(zah G=(↑x':Int)/\True)/\(zy/\zaa G F++zag K=dX dD zb (cg x' (zv F))/\zab F G=cU dD zb (zv F) (x'-zv F)/\True)/\zaa G F++zag K=dX dD zb (cg x' (zv F))/\zab F G=cU dD zb (zv F) (x'-zv F)/\zac)))/\((decide ((↑G:Int)<zp F))=false->(bb K<=1000000/\∀(i:Nat),bb (nth Ty.str K i)<=1000000)/\((!(bS K).2)=true->ze)/\((!(bS K).2)=false->(zm/\(0:Int)<zaj K)/\(zf/\(1:Int)<zaj K)/\((0:Int)<=(2:Int)/\(2:Int)<zaj K)/\(zab F G=zab F G/\bb (zab F G)+bb (zak K)<=1000000000)/\(zz G->aM (1:Int)->aM (zah G)/\∃(x':Nat),x'<=zw F/\zw F-x'<zw F-G/\(zah G=(↑x':Int)/\True)/\(zy/\zaa G F=dX dD zb (cg x' (zv F))/\zab F G++zak K=cU dD zb (zv F) (x'-zv F)/\True)/\zaa G F=dX dD zb (cg x' (zv F))/\zab F G++zak K=cU dD zb (zv F) (x'-zv F)/\zac))))/\((decide ((↑G:Int)<zp F+zr F))=false->True/\((!aL.isNil (dG (zx,zaa G F,zab F G,())).2)=true->ze)/\((!aL.isNil (dG (zx,zaa G F,zab F G,())).2)=false->((!(dG (zx,zaa G F,zab F G,())).1 == s)=true->ze)/\((!(dG (zx,zaa G F,zab F G,())).1 == s)=false->((zx,zaa G F,zab F G,()),aL.nil)=gW s)))))))) (by kernel_rfl) ?_
 dsimp -iota -proj -eta only;refine⟨ba,(by have:=yw s [10];exact⟨by omega,rfl⟩),fun h0=>iL (fun h1=>(H7 (by omega))) (fun h1=>⟨⟨(by trivial),(U1 hp 1 3),(⟨_,U3 (by omega),⟨rfl,rfl,ba⟩,(by trivial)⟩)⟩,fun F q_0=>⟨iB (fun h2=>(⟨_,H6 (q_0.2 h2),⟨rfl,ba⟩,(by trivial)⟩)) (fun h2=>⟨?a,iL (fun h3=>(⟨_,H6 (fun hd=>by have k0:=q_0.k0 hd;have:=hd.a0;omega),⟨rfl,ba⟩,(by trivial)⟩)) (fun h3=>⟨?b,iL (fun h4=>(⟨_,H6 (fun hd=>by have k0:=q_0.k0 hd;have:=hd.a6;omega),⟨rfl,ba⟩,(by trivial)⟩)) (fun h4=>⟨?c,iL (fun h5=>(⟨_,H6 (fun hd=>by have k1:=q_0.k1 hd;have:=hd.b0;omega),⟨rfl,ba⟩,(by trivial)⟩)) (fun h5=>⟨?d,iL (fun h6=>(⟨_,H6 (fun hd=>by have k1:=q_0.k1 hd;have:=hd.fF;omega),⟨rfl,ba⟩,(by trivial)⟩)) (fun h6 h7=>⟨?e,?f,fun h8 h9=>⟨?g,fun I q_1 h10 h11=>⟨?h,fun h12 h13=>⟨?i,(⟨_,Wm (q_0.1 h2).2.1 (q_0.1 h2).2.2 (q_0.l0 h2) (q_0.l1 h2) (by omega) (by omega) (by omega) (by omega) q_1,⟨rfl,ba⟩,(by trivial)⟩)⟩⟩⟩⟩)⟩)⟩)⟩)⟩),fun I q_1=>⟨fun h2=>(J6 (fun hd=>by rw[q_1.2 hd]at h2;cases h2)),fun h2=>⟨(by omega),?j,?k,fun h3 h4=>⟨?l,(⟨0,b7 _,⟨rfl,ba⟩,⟨rfl,P1 _ _ _,Uj _ _ _,ba⟩,P1 _ _ _,Uj _ _ _,(by trivial)⟩),fun G q_2=>iL (fun h5=>⟨fun K q_3 h6 h7=>⟨?m,fun h8 h9=>⟨?n,fun M q_4 h10 h11=>⟨?o,fun h12 h13=>⟨?p,(by have hd:=(q_1.1 h2);have k0:=q_0.k0 hd;have k1:=q_0.k1 hd;have a0:=hd.a0;have a6:=hd.a6;have b0:=hd.b0;have fF:=hd.fF;have hl:=hd.len;omega),(⟨_,PY q_3 q_4 (by have hd:=(q_1.1 h2);have k0:=q_0.k0 hd;have k1:=q_0.k1 hd;have a0:=hd.a0;have a6:=hd.a6;have b0:=hd.b0;have fF:=hd.fF;have hl:=hd.len;omega),⟨rfl,ba⟩,(by trivial)⟩)⟩⟩⟩⟩,fun K q_3=>⟨?q,iL (fun h6=>⟨?r,(No q_3 (tp hp)),iB (fun h7=>(J7 q_3 (by have hd:=(q_1.1 h2);have k0:=q_0.k0 hd;have k1:=q_0.k1 hd;have a0:=hd.a0;have a6:=hd.a6;have b0:=hd.b0;have fF:=hd.fF;have hl:=hd.len;omega) h7)) (fun h7=>⟨?s,?t,?u,⟨rfl,J8 (by have hd:=(q_1.1 h2);have k0:=q_0.k0 hd;have k1:=q_0.k1 hd;have a0:=hd.a0;have a6:=hd.a6;have b0:=hd.b0;have fF:=hd.fF;have hl:=hd.len;omega)⟩,fun h8 h9=>⟨?v,(by exact⟨G+1,by have hd:=(q_1.1 h2);have k0:=q_0.k0 hd;have k1:=q_0.k1 hd;have a0:=hd.a0;have a6:=hd.a6;have b0:=hd.b0;have fF:=hd.fF;have hl:=hd.len;omega,by have hd:=(q_1.1 h2);have k0:=q_0.k0 hd;have k1:=q_0.k1 hd;have a0:=hd.a0;have a6:=hd.a6;have b0:=hd.b0;have fF:=hd.fF;have hl:=hd.len;omega,⟨by omega,ba⟩,⟨rfl,EV q_3 h7 (by have hd:=(q_1.1 h2);have k0:=q_0.k0 hd;have k1:=q_0.k1 hd;have a0:=hd.a0;have a6:=hd.a6;have b0:=hd.b0;have fF:=hd.fF;have hl:=hd.len;omega),EW (by have hd:=(q_1.1 h2);have k0:=q_0.k0 hd;have k1:=q_0.k1 hd;have a0:=hd.a0;have a6:=hd.a6;have b0:=hd.b0;have fF:=hd.fF;have hl:=hd.len;omega),ba⟩,EV q_3 h7 (by have hd:=(q_1.1 h2);have k0:=q_0.k0 hd;have k1:=q_0.k1 hd;have a0:=hd.a0;have a6:=hd.a6;have b0:=hd.b0;have fF:=hd.fF;have hl:=hd.len;omega),EW (by have hd:=(q_1.1 h2);have k0:=q_0.k0 hd;have k1:=q_0.k1 hd;have a0:=hd.a0;have a6:=hd.a6;have b0:=hd.b0;have fF:=hd.fF;have hl:=hd.len;omega),(by trivial)⟩)⟩⟩)⟩) (fun h6=>⟨(PZ q_3 (tp hp)),iB (fun h7=>(Ia q_3 (by have hd:=(q_1.1 h2);have k0:=q_0.k0 hd;have k1:=q_0.k1 hd;have a0:=hd.a0;have a6:=hd.a6;have b0:=hd.b0;have fF:=hd.fF;have hl:=hd.len;omega) (by have hd:=(q_1.1 h2);have k0:=q_0.k0 hd;have k1:=q_0.k1 hd;have a0:=hd.a0;have a6:=hd.a6;have b0:=hd.b0;have fF:=hd.fF;have hl:=hd.len;omega) h7)) (fun h7=>⟨?w,?x,?y,⟨rfl,P3 (by have hd:=(q_1.1 h2);have k0:=q_0.k0 hd;have k1:=q_0.k1 hd;have a0:=hd.a0;have a6:=hd.a6;have b0:=hd.b0;have fF:=hd.fF;have hl:=hd.len;omega)⟩,fun h8 h9=>⟨?z,(by exact⟨G+1,by have hd:=(q_1.1 h2);have k0:=q_0.k0 hd;have k1:=q_0.k1 hd;have a0:=hd.a0;have a6:=hd.a6;have b0:=hd.b0;have fF:=hd.fF;have hl:=hd.len;omega,by have hd:=(q_1.1 h2);have k0:=q_0.k0 hd;have k1:=q_0.k1 hd;have a0:=hd.a0;have a6:=hd.a6;have b0:=hd.b0;have fF:=hd.fF;have hl:=hd.len;omega,⟨by omega,ba⟩,⟨rfl,Cu (by have hd:=(q_1.1 h2);have k0:=q_0.k0 hd;have k1:=q_0.k1 hd;have a0:=hd.a0;have a6:=hd.a6;have b0:=hd.b0;have fF:=hd.fF;have hl:=hd.len;omega),Ic q_3 h7 (by have hd:=(q_1.1 h2);have k0:=q_0.k0 hd;have k1:=q_0.k1 hd;have a0:=hd.a0;have a6:=hd.a6;have b0:=hd.b0;have fF:=hd.fF;have hl:=hd.len;omega),ba⟩,Cu (by have hd:=(q_1.1 h2);have k0:=q_0.k0 hd;have k1:=q_0.k1 hd;have a0:=hd.a0;have a6:=hd.a6;have b0:=hd.b0;have fF:=hd.fF;have hl:=hd.len;omega),Ic q_3 h7 (by have hd:=(q_1.1 h2);have k0:=q_0.k0 hd;have k1:=q_0.k1 hd;have a0:=hd.a0;have a6:=hd.a6;have b0:=hd.b0;have fF:=hd.fF;have hl:=hd.len;omega),(by trivial)⟩)⟩⟩)⟩)⟩⟩) (fun h5=>⟨ba,iB (fun h6 =>?a0) (fun h6=>⟨fun h7 =>?a1,fun h7 =>?a2⟩)⟩)⟩⟩⟩⟩⟩)⟩
 case a|b|c|d|e|f=>rw[(q_0.1 h2).1];simp
 case g|h|i|v=>simp only[aM,aN]at*;omega
 case j|k|q=>rw[q_0.get (q_1.1 h2)];simp
 case l|m|n|o|p|z=>have hd:=(q_1.1 h2);have k0:=q_0.k0 hd;have k1:=q_0.k1 hd;have a0:=hd.a0;have a6:=hd.a6;have b0:=hd.b0;have fF:=hd.fF;have hl:=hd.len;simp only[aM]at*;omega
 case r|s=>rw[q_3.len];simp
 case t|u=>rw[EU q_3 h7];simp
 case w|x|y=>rw[H9 q_3 h7];simp
 case a0=>
  rw[Ie (a:=bf (nth (.int .i64) F.1 0)) (b:=bf (nth (.int .i64) F.1 1)) (by have hd:=(q_1.1 h2);have k0:=q_0.k0 hd;have k1:=q_0.k1 hd;have a0:=hd.a0;have a6:=hd.a6;have b0:=hd.b0;have fF:=hd.fF;have hl:=hd.len;omega)]at h6;exact zV (by have hd:=(q_1.1 h2);have k0:=q_0.k0 hd;have k1:=q_0.k1 hd;have a0:=hd.a0;have a6:=hd.a6;have b0:=hd.b0;have fF:=hd.fF;have hl:=hd.len;omega) (by have hd:=(q_1.1 h2);have k0:=q_0.k0 hd;have k1:=q_0.k1 hd;have a0:=hd.a0;have a6:=hd.a6;have b0:=hd.b0;have fF:=hd.fF;have hl:=hd.len;omega) (.inl h6)
 case a1=>
  simp only[bl,reduceCtorEq]at h7;rw[Ie (a:=bf (nth (.int .i64) F.1 0)) (b:=bf (nth (.int .i64) F.1 1)) (by have hd:=(q_1.1 h2);have k0:=q_0.k0 hd;have k1:=q_0.k1 hd;have a0:=hd.a0;have a6:=hd.a6;have b0:=hd.b0;have fF:=hd.fF;have hl:=hd.len;omega)]at h7;exact zV (by have hd:=(q_1.1 h2);have k0:=q_0.k0 hd;have k1:=q_0.k1 hd;have a0:=hd.a0;have a6:=hd.a6;have b0:=hd.b0;have fF:=hd.fF;have hl:=hd.len;omega) (by have hd:=(q_1.1 h2);have k0:=q_0.k0 hd;have k1:=q_0.k1 hd;have a0:=hd.a0;have a6:=hd.a6;have b0:=hd.b0;have fF:=hd.fF;have hl:=hd.len;omega) (.inr h7)
 case a2=>
  simp only[bl,reduceCtorEq]at h7;exact PV h6 h7
def Tryz.QX:bX Tryz.prog Tryz.B.eT Tryz.X 61 [.str] [aC,.err] (fun s=>s.length<=100000) (fun x y=>y=(fun s=>gW s) x):=
 cG (X:=Tryz.X) Tryz.Ko Tryz.func61 (by kernel_rfl) (fun x=>Tryz.Ft x) (fun x hw hp=>QW x hw hp)
def Tryz.VA:bX Tryz.prog Tryz.B.eT Tryz.X 79 [.str,.str,.int .i64,.int .i64] [.slice .str] (fun x=>x.1.length<4294967281/\x.2.1.length=1/\x.2.2.1=(1:Int)/\x.2.2.2=(-1:Int)) (fun x y=>y=dL (Hx x.2.1) x.1):=by
 refine⟨⟨Tryz.f79,Tryz.func79,by kernel_rfl,by kernel_rfl⟩,fun O w x vs hG hO ha hp =>?_⟩;obtain⟨s,p,sv,n⟩:=x;obtain⟨hs,hp,hsv,hn⟩:=hp;obtain⟨c,rfl⟩:∃c,p=[c]:=dn.1 hp
 obtain⟨v,vs',rfl,hv,u,vs2,rfl,hu,t,vs3,rfl,ht,z,hz⟩:=ha;obtain⟨rfl,hz⟩:=hz;obtain⟨rfl,hl⟩:=nN hv;obtain⟨rfl,_⟩:=nN hu;have et:t=.int .i64 1:=by obtain⟨e,_⟩:=ht.one rfl;simp at e;rw[e,show sv=(1:Int)from hsv]
 have ez:z=.int .i64 (-1):=by obtain⟨e,_⟩:=hz.one rfl;simp at e;rw[e,show n=(-1:Int)from hn]
 subst et;subst ez;obtain⟨m,hm⟩:=hG.max;have hsz:(⟨s.toArray⟩:ByteArray).size=s.length:=by simp[dd]
 have h1:1<=(⟨#[c]⟩:ByteArray).size:=b9 1;have hlen:=ed ⟨#[c]⟩ h1 1 _ ⟨s.toArray⟩ rfl;have hdat:=ee ⟨#[c]⟩ 1 (bq ⟨s.toArray⟩ ⟨#[c]⟩) ⟨s.toArray⟩;have hcb:=Lib.countB_le ⟨#[c]⟩ h1 _ ⟨s.toArray⟩ (b9 _);have hcall:Calls Tryz.prog 79 #[.string ⟨s.toArray⟩,.string ⟨#[c]⟩,.int .i64 1,.int .i64 (-1)] w fun e w'=>
   e=.returned (.slice (some ⟨w.heap.size,0,none⟩) (b8 ⟨#[c]⟩ 1 (bq ⟨s.toArray⟩ ⟨#[c]⟩ +1-1) ⟨s.toArray⟩).length (bq ⟨s.toArray⟩ ⟨#[c]⟩ +1))/\w'=w.alloc (.cells (Lib.cellsOf (b8 ⟨#[c]⟩ 1 (bq ⟨s.toArray⟩ ⟨#[c]⟩ +1-1) ⟨s.toArray⟩) (bq ⟨s.toArray⟩ ⟨#[c]⟩ +1)) 9):=Any.strings_genSplit {Tryz.Lr with} (by kernel_rfl) ⟨s.toArray⟩ ⟨#[c]⟩ 1 (-1) (bq ⟨s.toArray⟩ ⟨#[c]⟩ +1) m w (by rw[hsz];exact hs) hm h1 (b9 1) (by decide) (by decide) (by rw[if_pos (by decide)];omega)
 rw[Nat.add_sub_cancel,hlen]at hcall;have e2:Lib.cellsOf (b8 ⟨#[c]⟩ 1 (bq ⟨s.toArray⟩ ⟨#[c]⟩) ⟨s.toArray⟩) (bq ⟨s.toArray⟩ ⟨#[c]⟩ +1)=((b8 ⟨#[c]⟩ 1 (bq ⟨s.toArray⟩ ⟨#[c]⟩) ⟨s.toArray⟩).map cn).toArray:=by rw[<-hlen];exact Lib.cellsOf_full _
 rw[e2]at hcall;refine hcall.mono ?_;rintro e w' ⟨rfl,rfl⟩;have hd:(b8 ⟨#[c]⟩ 1 (bq ⟨s.toArray⟩ ⟨#[c]⟩) ⟨s.toArray⟩).map (·.data.toList)=dL c s:=hdat;have hlf:(dL c s).length=bq ⟨s.toArray⟩ ⟨#[c]⟩ +1:=by rw[<-hd,bz,hlen]
 refine⟨[_],dL c s,rfl,rfl,⟨_,rfl,VR.cJ rfl ⟨_,rfl,?_,.inr ⟨w.heap.size,0,bq ⟨s.toArray⟩ ⟨#[c]⟩ +1,by rw[hlf],by rw[hlf];exact b9 _,fun i y hy =>?_⟩⟩⟩,(Vg.Below.refl _ w).alloc (b9 _) _⟩
 ·rw[hlf];have hs:s.length<4294967281:=hs;rw[hsz]at hcb;unfold aN;omega
 ·have hyl:=E6 c s y (ef hy)
  refine⟨[.string ⟨y.toArray⟩],⟨rfl,b4 hyl hl⟩,fun j u hj=>⟨?_,fun hh =>?_⟩⟩
  ·have hj0:j=0:=by
    rcases j with _|j
    ·rfl
    ·simp at hj
   subst hj0;simp at hj;subst hj;rw[<-hd,List.getElem?_map,cz]at hy;obtain⟨q,hq,rfl⟩:=hy;have hh:(w.alloc (.cells ((b8 ⟨#[c]⟩ 1 (bq ⟨s.toArray⟩ ⟨#[c]⟩) ⟨s.toArray⟩).map cn).toArray 9)).heap[w.heap.size]?=some (.cells ((b8 ⟨#[c]⟩ 1 (bq ⟨s.toArray⟩ ⟨#[c]⟩) ⟨s.toArray⟩).map cn).toArray 9 (0,0)):=heap_alloc_new w _;rw[cc hh];simp only[Ty.size,Nat.mul_one,Nat.zero_add,dp,List.getElem?_toArray,List.getElem?_map,hq,eg]
  ·have:=hO _ _ hh
   simp at this
def Tryz.vT:List (FuncId×(Bool×aU)):=[(79,(true,cD [.str,.str,.int .i64,.int .i64] [.slice .str] (fun x=>x.1.length<4294967281/\x.2.1.length=1/\x.2.2.1=(1:Int)/\x.2.2.2=(-1:Int)) (fun x=>dL (Hx x.2.1) x.1)))]
def Tryz.CQ:bP Tryz.prog Tryz.B Tryz.X Tryz.vT:=
 aQ (aE Tryz.VA) (bR Tryz.bQ)
def DK(s:List UInt8)(p:List UInt8)(hw:gU [.str,.str] (s,p))(hp:(fun x=>x.1.length<4294967281/\x.2.length=1) (s,p)):(dM Tryz.B Tryz.vT Tryz.f60 [] [.str,.str] [.slice .str] (fun x y=>y=(fun x=>dL (Hx x.2) x.1) x) (s,p)).holds:=by
 refine holds_of (p:=
  let za:=bb p
  let zb:=dL (List.rec 0 (fun(head:UInt8) (tail:List UInt8) (tail_ih:UInt8)=>head) p) s
  za<=aN->(bb s<4294967281/\za=1/\(↑za:Int)=1/\(-1:Int)=(-1:Int))/\zb=zb) (by kernel_rfl) ?_
 dsimp -iota -proj -eta only;dsimp only at hp;exact fun h0=>⟨(by omega),rfl⟩
def Tryz.DL:bX Tryz.prog Tryz.B.eT Tryz.X 60 [.str,.str] [.slice .str] (fun x=>x.1.length<4294967281/\x.2.length=1) (fun x y=>y=(fun x=>dL (Hx x.2) x.1) x):=
 cG (X:=Tryz.X) Tryz.CQ Tryz.func60 (by kernel_rfl) (fun _=>[]) (fun x hw hp=>DK x.1 x.2 hw hp)
def Tryz.spZ18:Bool×aU:=(false,aZ Tryz.bE [.obj 0] (fun _ _=>True) Tryz.tu)
def Tryz.Fu:List (FuncId×(Bool×aU)):=[(57,Tryz.spZ18),(70,Tryz.spZ8),(71,Tryz.spZ9),(72,Tryz.spZ7)]
def Tryz.Kp:bP Tryz.prog Tryz.B Tryz.X Tryz.Fu:=
 aQ (Tryz.tw) (aQ (Tryz.xP) (aQ (Tryz.xR) (aQ (aE Tryz.IW) (bR Tryz.bQ))))
def Tryz.vE:List (Alt Tryz.bE [.obj 0]):=[{bN:=Tryz.bE,res:=[.d .err],out:=fun _ x=>(iT x).1,ret:=fun _ x=>(aJ (iT x).2,())}]
def QY(d:Dk)(hw:gV [.obj 0] ())(hp:(fun _ x=>dC x 1000000) () d):(cY Tryz.B Tryz.Fu Tryz.f44 [] Tryz.bE [.obj 0] Tryz.vE () d).holds:=by
 refine holds_of (p:=
  let za:=d.2.2.2.1
  let zb:=za=za
  let zc:=(iT d).1
  let zd:=(aJ (iT d).2,())
  let ze:=(-1:Int)
  let zf:=bL d 1 (@bc UInt8)
  let zg:=aL.isNil (aJ zf.2)
  let zh:=zf.1.2.2.2.1
  let zi:=zh=zh
  let zj:=ze<=zf.1.1.1
  let zk:=zj/\bb zf.1.2.1=bb zf.1.2.2.1
  let zl:=aJ (bO zf.1).2
  let zm:=(bO zf.1).1
  let zn:=zm.2.2.2.1
  let zo:=zn=zn
  let zp:=ze<=zm.1.1
  let zq:=fI 2 0
  let zr:=bL zm 0 zq
  let zs:=zr.1.2.2.2.1
  let zt:=(bO zr.1).1
  let zu:=(bO zm).1.2.2.2.1
  let zv:=zo/\True/\zm=zc/\(zl,())=zd
  let zw:=bL zf.1 0 zq
  let zx:=zw.1.2.2.2.1
  let zy:=(bO zw.1).1
  zb/\True/\(True->((decide ((↑(bb d.2.2.1):Int)<112))=true->zb/\True/\d=zc/\(aL.no 8,())=zd)/\((decide ((↑(bb d.2.2.1):Int)<112))=false->zb/\(ze<=d.1.1/\bb za<=900000000)/\(True->(zg=true->zi/\zk/\(True->((aL.isNil zl)=true->True/\zo/\(zp/\bb zn<=900000000)/\(True->((aL.isNil (aJ zr.2))=true->zs=zs/\(ze<=zr.1.1.1/\bb zr.1.2.1=bb zr.1.2.2.1)/\(True->zt.2.2.2.1=zt.2.2.2.1/\True/\zt=zc/\(aJ (bO zr.1).2,())=zd))/\((aL.isNil (aJ zr.2))=false->zs=zs/\True/\zr.1=zc/\(aJ zr.2,())=zd)))/\((aL.isNil zl)=false->((aL.isNil zl)=true->zo/\(zp/\bb zm.2.1=bb zm.2.2.1)/\(True->zu=zu/\True/\(bO zm).1=zc/\(aJ (bO zm).2,())=zd))/\((aL.isNil zl)=false->zv))))/\(zg=false->(zg=true->True/\zi/\(zj/\bb zh<=900000000)/\(True->((aL.isNil (aJ zw.2))=true->zx=zx/\(ze<=zw.1.1.1/\bb zw.1.2.1=bb zw.1.2.2.1)/\(True->zy.2.2.2.1=zy.2.2.2.1/\True/\zy=zc/\(aJ (bO zw.1).2,())=zd))/\((aL.isNil (aJ zw.2))=false->zx=zx/\True/\zw.1=zc/\(aJ zw.2,())=zd)))/\(zg=false->(zg=true->zi/\zk/\(True->zv))/\(zg=false->zi/\True/\zf.1=zc/\(aJ zf.2,())=zd))))))) (by kernel_rfl) ?_
 dsimp -iota -proj -eta only;refine⟨rfl,ba,fun h0=>iL (fun h1=>(by rw[mc,U7 h1];exact⟨rfl,ba,rfl,rfl⟩)) (fun h1=>⟨rfl,⟨hp.ma,b4 hp.mo (by decide)⟩,fun h2=>⟨fun h3=>⟨rfl,(by have f:=mb hp 1 [];exact⟨f.ma,f.len⟩),fun h4=>⟨fun h5=>⟨ba,rfl,(by have f:=rl (mb hp 1 []);exact⟨f.ma,b4 f.mo (by decide)⟩),fun h6=>⟨fun h7=>⟨rfl,(by have f:=mb (rl (mb hp 1 [])) 0 (fI 2 0);exact⟨f.ma,f.len⟩),fun h8=>(by rw[mc,WW (by omega) (aK.1 h3) (aK.1 h5) (aK.1 h7)];exact⟨rfl,ba,rfl,rfl⟩)⟩,fun h7=>(by rw[mc,WV (by omega) (aK.1 h3) (aK.1 h5) (dU h7)];exact⟨rfl,ba,rfl,rfl⟩)⟩⟩,fun h5=>⟨fun h6=>⟨rfl,?a,fun h7 =>?b⟩,fun h6=>(by rw[mc,WU (by omega) (aK.1 h3) (dU h5)];exact⟨rfl,ba,rfl,rfl⟩)⟩⟩⟩,fun h3=>⟨fun h4=>⟨ba,rfl,?c,fun h5=>⟨fun h6=>⟨rfl,?d,fun h7 =>?e⟩,fun h6 =>?f⟩⟩,fun h4=>⟨fun h5=>⟨rfl,?g,fun h6 =>?h⟩,fun h5=>(by rw[mc,WT (by omega) (dU h3)];exact⟨rfl,ba,rfl,rfl⟩)⟩⟩⟩⟩)⟩
 case a|b|c|d|e|f|g|h=>simp_all
def Tryz.QZ:bY Tryz.prog Tryz.B.eT Tryz.X 44 false (aZ Tryz.bE [.obj 0] (fun _ x=>dC x 1000000) Tryz.vE):=
 bH (X:=Tryz.X) Tryz.Kp Tryz.func44 (by kernel_rfl) (fun(a:CD [.obj 0]) (x:PD Tryz.bE)=>[]) (fun(a:CD [.obj 0]) (x:PD Tryz.bE) hw hp=>QY x hw hp)
def Tryz.spZ19:Bool×aU:=(false,aZ Tryz.bE [.obj 0] (fun _ _=>True) Tryz.A9)
def Tryz.Lx:List (FuncId×(Bool×aU)):=[(19,Tryz.spZ19),(57,Tryz.spZ18),(58,(false,gy Tryz.B [] Tryz.f58 [])),(59,(true,rR [.str] [.int .i64] (fun s=>4<=s.length) (fun s y=>(y:Int)=iS s))),(60,(true,cD [.str,.str] [.slice .str] (fun x=>x.1.length<4294967281/\x.2.length=1) (fun x=>dL (Hx x.2) x.1))),(61,(true,cD [.str] [aC,.err] (fun s=>s.length<=100000) (fun s=>gW s)))]
def Tryz.Q0:bP Tryz.prog Tryz.B Tryz.X Tryz.Lx:=
 aQ (Tryz.IV) (aQ (Tryz.tw) (aQ (eR (bR Tryz.bQ) Tryz.func58 (by kernel_rfl) []) (aQ (ji Tryz.QQ) (aQ (aE Tryz.DL) (aQ (aE Tryz.QX) (bR Tryz.bQ))))))
def Tryz.Ly(d:Dk):dY:=[
 (0,fun st=>{X:=Nat,inv:=fun i=>i<=2,cB:=fun i=>2-i,bK:=fun i=>[(29,sI i),(5,sI (eH d i).2)],aF:=fun i=>[(bF st 4,.cells 117 [.ref 0 0,.d (.int .i64) (eH d i).1,.app aC [] (lf st (bF st 4) 2)])],keep:=[0,4],gP:=[bF st 4]}),
 (2,fun st=>{X:=Nat,inv:=fun i=>i<=55,cB:=fun i=>55-i,bK:=fun i=>[(74,sI i),(11,sS (jq d (kR d) i))],keep:=[0,4,5]}),
 (4,fun st=>{X:=Nat,inv:=fun i=>i<=bb (dK d)/\∀j,j<i->nth .str (dK d) j=[]\/(gW (nth .str (dK d) j)).2.isNil=true,cB:=fun i=>bb (dK d)-i,bK:=fun i=>[(103,sI i)],aF:=fun i=>[(bF st 4,.cells 117 [.ref 0 0,.d (.int .i64) (eH d 2).1,.app aC (kg ((dK d).take i)) (lf st (bF st 4) 2)]),(lf st (bF st 4) 2,.tok aC (kg ((dK d).take i)))],keep:=[4,101,102],gP:=[bF st 4,lf st (bF st 4) 2]})]
def Tryz.Bd:List (Alt Tryz.bE [.obj 0]):=[
 {bN:=Tryz.bE,res:=[.gX,.d .err],ok:=fun _ x=>(dO x).2≠0,out:=fun _ x=>x,ret:=fun _ x=>(aJ (dO x).2,())},
 {bN:=Tryz.bE++[.box 117 [.obj 0,.d (.int .i64),.d (.slice aC)]],res:=[.obj 4,.d .err],ok:=fun _ x=>(dO x).2=0,out:=fun _ x=>(x.1,x.2.1,x.2.2.1,x.2.2.2.1,((dO x).1.1,(dO x).1.2,()),()),ret:=fun _ _=>(aL.nil,())}]
def VB(d:Dk)(hw:gV [.obj 0] ())(hp:(fun _ x=>dC x 1000000/\∀i,i<x.2.2.1.length->(nth .str x.2.2.1 i).length=64) () d):(cY Tryz.B Tryz.Lx Tryz.f39 (Tryz.Ly d) Tryz.bE [.obj 0] Tryz.Bd () d).holds:=by
 refine holds_of (p:=
  let za:=d.2.2.2.1
  let zb:=za=za
  let zc:=d.1.2.1
  let zd:=(dO d).2
  let ze:=zd≠(0:Int)
  let zf:=d=d
  let zg:=(aJ zd,())
  let zh:=zb/\ze/\zf/\(aL.no (9:Int),())=zg
  let zi:=d.2.2.1
  let zj:=bb zi
  let zk:=(↑zj:Int)
  let zl:=zb/\ze/\zf/\(aL.no (4:Int),())=zg
  let zm:=C.ref 0 0
  let zn:=zm=zm
  let zo:=@bc (List UInt8×List (List UInt8×Int×Int×Unit)×List (Int×Int×Int×Unit)×Unit)=@bc (List UInt8×List (List UInt8×Int×Int×Unit)×List (Int×Int×Int×Unit)×Unit)
  let zp:=zo/\True
  let zq:=fun(F:Nat)=>(↑F:Int)
  let zr:=!aL.isNil (aL.no (9:Int))
  let zs:=(0:Int)<=(1:Int)
  let zt:=(1:Int)<=(5:Int)
  let zu:=bb (@bc UInt8)
  let zv:=(↑zu:Int)
  let zw:=(0:Int)<=(5:Int)
  let zx:=(5:Int)<=(9:Int)
  let zy:=bj 1 (bd 5 (@bc UInt8))
  let zz:=bj 5 (bd 9 (@bc UInt8))
  let zaa:=(0:Int)<=(0:Int)
  let zab:=fun(F:Nat)=>(eH d F).1
  let zac:=fun(F:Nat)=>aM (zq F)
  let zad:=aM (1:Int)
  let zae:=fun(F:Nat)=>zq F+(1:Int)
  let zaf:=fun(F:Nat)=>aM (zae F)
  let zag:=d.2.1
  let zah:=(C.aV 1=C.aV 1/\C.aV 2=C.aV 2/\zb/\d.1.1=d.1.1/\zc=zc/\True)/\zag=zag/\zi=zi/\zb/\True
  let zai:=zo/\zah
  let zaj:=fun(F:Nat)=>zac F->zad->zaf F/\∃(x':Nat),x'<=2/\2-x'<2-F/\(zae F=(↑x':Int)/\(eH d F).2=(eH d x').2/\True)/\(zn/\zab F=(eH d x').1/\zp)/\zai
  let zak:=fun(I:Int) (F:Nat) (G:Int)=>((decide (I > zab F))=true->((decide (G<=(3520:Int)))=true->zac F->zad->zaf F/\∃(x':Nat),x'<=2/\2-x'<2-F/\(zae F=(↑x':Int)/\G=(eH d x').2/\True)/\(zn/\I=(eH d x').1/\zp)/\zai)/\((decide (G<=(3520:Int)))=false->zaj F))/\((decide (I > zab F))=false->zaj F)
  let zal:=fun(F:Nat)=>(zs/\zt/\(5:Int)<=zv)/\(zw/\zx/\(9:Int)<=zv)/\4<=bb zy/\∀I:Int,I=iS zy->4<=bb zz/\∀G:Int,G=iS zz->(zaa/\(0:Int)<zv)/\(((↑(b6 (dQ (@bc UInt8) 0)):Int) == (83:Int))=true->zak I F G)/\(((↑(b6 (dQ (@bc UInt8) 0)):Int) == (83:Int))=false->zaj F)
  let zam:=!aL.isNil (aL.no (1:Int))
  let zan:=zb/\ze/\zf/\(aL.no (1:Int),())=zg
  let zao:=fun(F:Nat)=>(zam=true->zan)/\(zam=false->zal F)
  let zap:=!aL.isNil aL.nil
  let zaq:=zb/\ze/\zf/\(aL.nil,())=zg
  let zar:=fun(F:Nat)=>nth Ty.str zi F
  let zas:=fun(F:Nat)=>(↑(bb (zar F)):Int)
  let zat:=fun(F:Nat)=>bj 1 (bd 5 (zar F))
  let zau:=fun(F:Nat)=>bj 5 (bd 9 (zar F))
  let zav:=kR d
  let zaw:=fun(K:Int) (I:Nat)=>(2:Int)+K+zq I
  let zax:=fun(I:Nat)=>jq d zav I
  let zay:=fun(F:Nat)=>(zn/\zab F=zab F/\zp)/\zai
  let zaz:=fun(I:Nat) (F:Nat)=>bb (zax I)+zu<=aN/\(zac I->zad->zaf I/\∃(x':Nat),x'<=55/\55-x'<55-I/\(zae I=(↑x':Int)/\zax I++ @bc UInt8=jq d zav x'/\True)/\zay F)
  let zba:=fun(I:Nat) (F:Nat)=>(zam=true->zan)/\(zam=false->zaz I F)
  let zbb:=fun(F I:Nat)=>bj 0 (bd (bf (eH d F).2) (zax I))
  let zbc:=dK d
  let zbd:=bb zbc
  let zbe:=(eH d 2).1
  let zbf:=fun(F I G:Nat)=>nth Ty.str (dL (10:UInt8) (zbb F I)) G
  let zbg:=fun(G:Nat)=>kg (bd G zbc)
  zb/\True/\(True->(zc=true->zh)/\(zc=false->zb/\True/\(True->((decide (zk<(112:Int)))=true->zl)/\((decide (zk<(112:Int)))=false->(∃(x:Nat),x<=2/\((0:Int)=(↑x:Int)/\(0:Int)=(eH d x).2/\True)/\(zn/\(0:Int)=(eH d x).1/\zp)/\True)/\∀F:Nat,F<=2->((decide (zq F<(2:Int)))=true->(zc=true->(zr=true->zh)/\(zr=false->zal F))/\(zc=false->((decide (zq F<(0:Int)))=true->zao F)/\((decide (zq F<(0:Int)))=false->zj<=aN->((decide (zq F>=zk))=true->zao F)/\((decide (zq F>=zk))=false->((0:Int)<=zq F/\zq F<zk)/\F<zj/\(zap=true->zaq)/\(zap=false->(zs/\zt/\(5:Int)<=zas F)/\(zw/\zx/\(9:Int)<=zas F)/\4<=bb (zat F)/\∀I:Int,I=iS (zat F)->4<=bb (zau F)/\∀G:Int,G=iS (zau F)->(zaa/\(0:Int)<zas F)/\(((↑(b6 (dQ (zar F) 0)):Int) == (83:Int))=true->zak I F G)/\(((↑(b6 (dQ (zar F) 0)):Int) == (83:Int))=false->zaj F))))))/\((decide (zq F<(2:Int)))=false->((zab F == (0:Int))=true->zl)/\((zab F == (0:Int))=false->(∃(x:Nat),x<=55/\((0:Int)=(↑x:Int)/\@bc UInt8=jq d zav x/\True)/\True)/\∀I:Nat,I<=55->((decide (zq I<(55:Int)))=true->(2:Int)≠(0:Int)/\∀G:Int,G=db (zab F) (2:Int)->∀K:Int,K=G*(55:Int)->aM G->aM (55:Int)->aM K/\(aM (2:Int)->aM K->aM ((2:Int)+K)/\(aM ((2:Int)+K)->zac I->aM (zaw K I)/\(zc=true->(zr=true->zh)/\(zr=false->zaz I F))/\(zc=false->((decide (zaw K I<(0:Int)))=true->zba I F)/\((decide (zaw K I<(0:Int)))=false->zj<=aN->((decide (zaw K I>=zk))=true->zba I F)/\((decide (zaw K I>=zk))=false->((0:Int)<=zaw K I/\zaw K I<zk)/\bf (zaw K I)<zj/\(zap=true->zaq)/\(zap=false->bb (zax I)+bb (nth Ty.str zi (bf (zaw K I)))<=aN/\(zac I->zad->zaf I/\∃(x':Nat),x'<=55/\55-x'<55-I/\(zae I=(↑x':Int)/\zax I++nth Ty.str zi (bf (zaw K I))=jq d zav x'/\True)/\zay F))))))))/\((decide (zq I<(55:Int)))=false->(zaa/\(0:Int)<=(eH d F).2/\(eH d F).2<=(↑(bb (zax I)):Int))/\(bb (zbb F I)<4294967281/\bb [(10:UInt8)]=1)/\(bb (dL (10:UInt8) (zbb F I))<=aN->(∃(x:Nat),(x<=zbd/\∀(j:Nat),j<x->nth Ty.str zbc j=@bc UInt8\/aL.isNil (aJ (oN (nth Ty.str zbc j)).2)=true)/\((0:Int)=(↑x:Int)/\True)/\(zn/\zab F=zbe/\@bc (List UInt8×List (List UInt8×Int×Int×Unit)×List (Int×Int×Int×Unit)×Unit)=kg (bd x zbc)/\True)/\@bc (List UInt8×List (List UInt8×Int×Int×Unit)×List (Int×Int×Int×Unit)×Unit)=kg (bd x zbc)/\True)/\∀G:Nat,(G<=zbd/\∀(j:Nat),j<G->nth Ty.str zbc j=@bc UInt8\/aL.isNil (aJ (oN (nth Ty.str zbc j)).2)=true)->((decide (zq G<(↑(bb (dL (10:UInt8) (zbb F I))):Int)))=true->((0:Int)<=zq G/\zq G<(↑(bb (dL (10:UInt8) (zbb F I))):Int))/\((zbf F I G == @bc UInt8)=true->zac G->zad->zaf G/\∃(x':Nat),(x'<=zbd/\∀(j:Nat),j<x'->nth Ty.str zbc j=@bc UInt8\/aL.isNil (aJ (oN (nth Ty.str zbc j)).2)=true)/\zbd-x'<zbd-G/\(zae G=(↑x':Int)/\True)/\(zn/\zbe=zbe/\zbg G=kg (bd x' zbc)/\True)/\zbg G=kg (bd x' zbc)/\zah)/\((zbf F I G == @bc UInt8)=false->bb (zbf F I G)<=100000/\((!aL.isNil (aJ (oN (zbf F I G)).2))=true->zl)/\((!aL.isNil (aJ (oN (zbf F I G)).2))=false->(zbg G=zbg G/\bb (zbg G)+bb [(oN (zbf F I G)).1]<=1000000000)/\(zac G->zad->zaf G/\∃(x':Nat),(x'<=zbd/\∀(j:Nat),j<x'->nth Ty.str zbc j=@bc UInt8\/aL.isNil (aJ (oN (nth Ty.str zbc j)).2)=true)/\zbd-x'<zbd-G/\(zae G=(↑x':Int)/\True)/\(zn/\zbe=zbe/\zbg G++[(oN (zbf F I G)).1]=kg (bd x' zbc)/\True)/\zbg G++[(oN (zbf F I G)).1]=kg (bd x' zbc)/\zah))))/\((decide (zq G<(↑(bb (dL (10:UInt8) (zbb F I))):Int)))=false->zb/\zd=(0:Int)/\(d.1,zag,zi,za,(zbe,zbg G,()),())=(d.1,zag,zi,za,((dO d).1.1,(dO d).1.2,()),())/\(aL.nil,())=(aL.nil,()))))))))))) (by kernel_rfl) ?_
 dsimp -iota -proj -eta only;refine⟨rfl,ba,fun h0=>⟨fun h1=>(by rw[Qk h1];exact⟨rfl,by decide,rfl,rfl⟩),fun h1=>⟨rfl,ba,fun h2=>iL (fun h3=>(by rw[S3 h1 h3];exact⟨rfl,by decide,rfl,rfl⟩)) (fun h3=>⟨(⟨0,b7 _,⟨rfl,by rw[CB],ba⟩,⟨rfl,by rw[CB],rfl,ba⟩,(by trivial)⟩),fun F q_0=>iL (fun h4=>⟨fun h5=>⟨fun h6=>(ct (h1.symm.trans h5)),fun h6=>absurd (show true=false from h6) (by decide)⟩,fun h5=>⟨fun h6=>absurd (show false=true from h6) (by decide),fun h6 h7=>iE (fun h8=>⟨fun h9=>(by exfalso;omega),fun h9=>absurd (show true=false from h9) (by decide)⟩) (fun h8=>⟨?a,?b,⟨fun h9=>absurd (show false=true from h9) (by decide),fun h9=>⟨?c,?d,?e,fun I q_1=>⟨?f,fun G q_2=>⟨?g,iQ (fun h10=>iL (fun h11=>iE (fun h12 h13 h14=>⟨?h,?i⟩) (fun h12 h13 h14=>⟨?j,?k⟩)) (fun h11 h12 h13=>⟨?l,?m⟩)) (fun h10 h11 h12=>⟨?n,?o⟩)⟩⟩⟩⟩⟩)⟩⟩) (fun h4=>iQ (fun h5 =>?p) (fun h5=>⟨(⟨0,b7 _,⟨rfl,by rw[Uq],ba⟩,(by trivial)⟩),fun I q_1=>iL (fun h6=>⟨(by trivial),fun G q_2 K q_3 h7 h8=>⟨?q,fun h9 h10=>⟨?r,fun h11 h12=>⟨?s,⟨fun h13=>⟨fun h14=>(ct (h1.symm.trans h13)),fun h14=>absurd (show true=false from h14) (by decide)⟩,fun h13=>iL (fun h14=>⟨fun h15 =>?t,fun h15=>absurd (show true=false from h15) (by decide)⟩) (fun h14 h15=>iE (fun h16=>⟨fun h17 =>?u,fun h17=>absurd (show true=false from h17) (by decide)⟩) (fun h16=>⟨?v,?w,⟨fun h17=>absurd (show false=true from h17) (by decide),fun h17=>⟨?x,fun h18 h19=>⟨?y,?z⟩⟩⟩⟩))⟩⟩⟩⟩⟩) (fun h6=>⟨?a0,?a1,fun h7=>⟨?a2,fun G q_2=>iL (fun h8=>⟨?a3,iQ (fun h9 h10 h11=>⟨?a4,?a5⟩) (fun h9=>⟨?a6,iB (fun h10 =>?a7) (fun h10=>⟨?a8,fun h11 h12=>⟨?a9,?aa⟩⟩)⟩)⟩) (fun h8 =>?ab)⟩⟩)⟩))⟩)⟩⟩⟩
 case a|b|a3=>omega
 case c|d|g=>
  have h64:(nth .str d.2.2.1 F).length=64:=hp.2 _ (by omega);rw[h64];decide
 case e|f=>
  have h64:(nth .str d.2.2.1 F).length=64:=hp.2 _ (by omega);rw[dw,b5,h64];decide
 case h|j|l|n|y|a4|a9=>simp only[aM,aN]at*;omega
 case i=>
  have e1:I=pH d F:=q_1.trans (p4 d F).symm;have e2:G=qK d F:=q_2.trans (rB d F).symm;subst e1;subst e2;exact⟨F+1,by omega,by omega,⟨by omega,by rw[ug h10 (by omega) h12],ba⟩,⟨rfl,by rw[ug h10 (by omega) h12],rfl,ba⟩,(by trivial)⟩
 case k=>
  have e1:I=pH d F:=q_1.trans (p4 d F).symm;have e2:G=qK d F:=q_2.trans (rB d F).symm;subst e1;subst e2;have hn:eH d (F+1)=eH d F:=yB fun z=>by have:=z.2.2;omega
  exact⟨F+1,by omega,by omega,⟨by omega,by rw[hn],ba⟩,⟨rfl,by rw[hn],rfl,ba⟩,(by trivial)⟩
 case m=>
  have e1:I=pH d F:=q_1.trans (p4 d F).symm;have e2:G=qK d F:=q_2.trans (rB d F).symm;subst e1;subst e2;have hn:eH d (F+1)=eH d F:=yB fun z=>by have:=z.2.1;omega
  exact⟨F+1,by omega,by omega,⟨by omega,by rw[hn],ba⟩,⟨rfl,by rw[hn],rfl,ba⟩,(by trivial)⟩
 case o=>
  have hn:eH d (F+1)=eH d F:=yB fun z=>h10 z.1
  exact⟨F+1,by omega,by omega,⟨by omega,by rw[hn],ba⟩,⟨rfl,by rw[hn],rfl,ba⟩,(by trivial)⟩
 case p=>
  have hx0:F=2:=by omega
  subst hx0;rw[Ql h1 (by omega) h5];exact⟨rfl,by decide,rfl,rfl⟩
 case q|r|s=>have hr:=gJ d F;have ht:=sR hr.1.1;simp only[aM]at*;omega
 case t|u=>exfalso;have hr:=gJ d F;have ht:=sR hr.1.1;omega
 case v|w=>have hr:=gJ d F;have ht:=sR hr.1.1;omega
 case x=>
  have hx0:F=2:=(by omega);subst hx0;have hr:=gJ d 2;have ht:=sR hr.1.1;have hb:kR d=2+K:=(by rw[kA,q_3,q_2]);have h64:(nth .str d.2.2.1 (bf (2+K+(I:Int)))).length=64:=hp.2 _ (by omega);have hl:=kB hp.2 (b:=kR d) (by omega) I (by omega);rw[h64,hl];have:aN=9223372036854775807:=rfl;omega
 case z=>
  have hx0:F=2:=(by omega);subst hx0;have hr:=gJ d 2;have ht:=sR hr.1.1;have hb:kR d=2+K:=(by rw[kA,q_3,q_2]);exact⟨I+1,by omega,by omega,⟨by omega,by rw[Nw,hb];rfl,ba⟩,(by trivial)⟩
 case a0=>
  have hx0:F=2:=(by omega);subst hx0;have hx1:I=55:=(by omega);subst hx1;have hr:=gJ d 2;have ht:=sR hr.1.1;have hbb:=kA d;have hll:(jq d (kR d) 55).length=64*55:=kB hp.2 (by omega) 55 (by omega);have hLL:dL 10 (bj 0 (bd (bf (eH d 2).2) (jq d (kR d) 55)))=dK d:=(by rw[gK];rfl);rw[hll];exact⟨by decide,hr.2.1,by omega⟩
 case a1=>
  have hx0:F=2:=(by omega);subst hx0;have hx1:I=55:=(by omega);subst hx1;have hr:=gJ d 2;have ht:=sR hr.1.1;have hbb:=kA d;have hll:(jq d (kR d) 55).length=64*55:=kB hp.2 (by omega) 55 (by omega);have hLL:dL 10 (bj 0 (bd (bf (eH d 2).2) (jq d (kR d) 55)))=dK d:=(by rw[gK];rfl);refine⟨?_,rfl⟩;rw[c6,b5,hll];omega
 case a2=>
  have hx0:F=2:=(by omega);subst hx0;have hx1:I=55:=(by omega);subst hx1;have hr:=gJ d 2;have ht:=sR hr.1.1;have hbb:=kA d;have hll:(jq d (kR d) 55).length=64*55:=kB hp.2 (by omega) 55 (by omega);have hLL:dL 10 (bj 0 (bd (bf (eH d 2).2) (jq d (kR d) 55)))=dK d:=(by rw[gK];rfl);exact⟨0,⟨b7 _,fun j hj=>absurd hj (cu _)⟩,⟨rfl,ba⟩,⟨rfl,rfl,by rw[er,Qo],ba⟩,by rw[er,Qo],ba⟩
 case a5=>
  have hx0:F=2:=(by omega);subst hx0;have hx1:I=55:=(by omega);subst hx1;have hr:=gJ d 2;have ht:=sR hr.1.1;have hbb:=kA d;have hll:(jq d (kR d) 55).length=64*55:=kB hp.2 (by omega) 55 (by omega);have hLL:dL 10 (bj 0 (bd (bf (eH d 2).2) (jq d (kR d) 55)))=dK d:=(by rw[gK];rfl)
  (try rw[hLL]at h8);(try rw[hLL]at h9);(try rw[hLL]at h10);(try rw[hLL])
  have e:=Qm (L:=dK d) (i:=G) (by omega) h9;exact⟨G+1,⟨by omega,lV q_2.2 (.inl h9)⟩,by omega,⟨by omega,ba⟩,⟨rfl,rfl,e.symm,ba⟩,e.symm,(by trivial)⟩
 case a6=>
  have hx0:F=2:=(by omega);subst hx0;have hx1:I=55:=(by omega);subst hx1;have hr:=gJ d 2;have ht:=sR hr.1.1;have hbb:=kA d;have hll:(jq d (kR d) 55).length=64*55:=kB hp.2 (by omega) 55 (by omega);have hLL:dL 10 (bj 0 (bd (bf (eH d 2).2) (jq d (kR d) 55)))=dK d:=(by rw[gK];rfl)
  (try rw[hLL]at h8);(try rw[hLL]at h9);(try rw[hLL]at h10);(try rw[hLL])
  have hm:nth .str (dK d) G∈dK d:=dJ (t:=.str) (by omega);have hm2:nth .str (dK d) G∈dL 10 (bd (eH d 2).2.toNat (jq d (kR d) 55)):=by rw[<-gK];exact hm
  refine b4 (E6 10 _ _ hm2) ?_;rw[b5,hll];omega
 case a7=>
  have hx0:F=2:=(by omega);subst hx0;have hx1:I=55:=(by omega);subst hx1;have hr:=gJ d 2;have ht:=sR hr.1.1;have hbb:=kA d;have hll:(jq d (kR d) 55).length=64*55:=kB hp.2 (by omega) 55 (by omega);have hLL:dL 10 (bj 0 (bd (bf (eH d 2).2) (jq d (kR d) 55)))=dK d:=(by rw[gK];rfl)
  (try rw[hLL]at h8);(try rw[hLL]at h9);(try rw[hLL]at h10);(try rw[hLL])
  rw[S4 h1 (by omega) h5 ⟨G,by omega,h9,h10⟩];exact⟨rfl,by decide,rfl,rfl⟩
 case a8=>
  have hx0:F=2:=(by omega);subst hx0;have hx1:I=55:=(by omega);subst hx1;have hr:=gJ d 2;have ht:=sR hr.1.1;have hbb:=kA d;have hll:(jq d (kR d) 55).length=64*55:=kB hp.2 (by omega) 55 (by omega);have hLL:dL 10 (bj 0 (bd (bf (eH d 2).2) (jq d (kR d) 55)))=dK d:=(by rw[gK];rfl);refine⟨rfl,?_⟩;have h1:=S5 (bd G (dK d));have h2:=Nx 10 (bd (eH d 2).2.toNat (jq d (kR d) 55));rw[<-gK,b5,hll]at h2;rw[b5]at h1;rw[bw];omega
 case aa=>
  have hx0:F=2:=(by omega);subst hx0;have hx1:I=55:=(by omega);subst hx1;have hr:=gJ d 2;have ht:=sR hr.1.1;have hbb:=kA d;have hll:(jq d (kR d) 55).length=64*55:=kB hp.2 (by omega) 55 (by omega);have hLL:dL 10 (bj 0 (bd (bf (eH d 2).2) (jq d (kR d) 55)))=dK d:=(by rw[gK];rfl)
  (try rw[hLL]at h8);(try rw[hLL]at h9);(try rw[hLL]at h10);(try rw[hLL])
  have e:=Qn (L:=dK d) (i:=G) (by omega) h9;exact⟨G+1,⟨by omega,lV q_2.2 (.inr h10)⟩,by omega,⟨by omega,ba⟩,⟨rfl,rfl,e.symm,ba⟩,e.symm,(by trivial)⟩
 case ab=>
  have hx0:F=2:=(by omega);subst hx0;have hx1:I=55:=(by omega);subst hx1;have hr:=gJ d 2;have ht:=sR hr.1.1;have hbb:=kA d;have hll:(jq d (kR d) 55).length=64*55:=kB hp.2 (by omega) 55 (by omega);have hLL:dL 10 (bj 0 (bd (bf (eH d 2).2) (jq d (kR d) 55)))=dK d:=(by rw[gK];rfl)
  (try rw[hLL]at h8);(try rw[hLL]at h9);(try rw[hLL]at h10);(try rw[hLL])
  rw[Lm h1 (by omega) h5 (U8 (i:=G) (by omega) q_2.2),c8 (by omega)];exact⟨rfl,rfl,rfl,rfl⟩
def Tryz.Lz:bY Tryz.prog Tryz.B.eT Tryz.X 39 false (aZ Tryz.bE [.obj 0] (fun _ x=>dC x 1000000/\∀i,i<x.2.2.1.length->(nth .str x.2.2.1 i).length=64) Tryz.Bd):=
 bH (X:=Tryz.X) Tryz.Q0 Tryz.func39 (by kernel_rfl) (fun(a:CD [.obj 0]) (x:PD Tryz.bE)=>Tryz.Ly x) (fun(a:CD [.obj 0]) (x:PD Tryz.bE) hw hp=>VB x hw hp)
end Go.Proofs.YtgokjhhcfemnhadGreatDoor

namespace Go.Proofs.YtgokjhhcfemnhadGreatDoor
open Go.Vg Go.Shelf Go.RowKit
def CS{P:Program}(w:World)(t e ty:TypeId)(z:Value)(ht:P.underlying t=some (.slice e))(hv:∀w,(zeroValue e).run P w=.ok z w)(h1:∀u∈z.cells,u.oneCell'=true)(b o n c:Nat)(hn:0<n)
  (hc:∀j,j<n*z.cells.size->(w.cell? ⟨b,o+j,none⟩).isSome=true)(hf:∀j,j<n*z.cells.size->w.frozen? ⟨b,o+j,none⟩=false) :
  (dx #[t] ty #[.slice (some ⟨b,o,none⟩) n c]).run P w=.ok (.tuple #[]) (w.setCells b o (cm z.cells n).toList):=by
 have hl:(cm z.cells n).toList.length=n*z.cells.size:=by rw[df,size_zeroCells]
 have hst:=run_storeCells_cells (P:=P) b o (cm z.cells n).toList 0 w (by simpa[hl]using hc) (by simpa[hl]using hf) (by
  intro v hv';simp[cm]at hv';obtain⟨k,hk,rfl⟩:=hv';by_cases h:k % z.cells.size<z.cells.size
  ·rw[getElem!_pos z.cells _ h];exact h1 _ (Array.getElem_mem h)
  ·have:z.cells.size=0:=by
    by_cases h0:z.cells.size=0
    ·exact h0
    ·exact absurd (Nat.mod_lt _ (by omega)) h
   rw[this]at hk;omega)
 simp only[dp]at hst;obtain⟨m,rfl⟩:∃m,n=m+1:=⟨n-1,by omega⟩
 simp[dx,run_underlying ht,hv,hst]
def jY(b:Nat):∀(vs:List Value) (o:Nat) (w:World),(w.setCells b o vs).heap.size=w.heap.size
 |[],_,_=>rfl
 |v :: r,o,w=>(jY b r (o+1) _).trans (ds _ _ _)
def vU{b:Nat}{T:TypeId}:∀(news:List Value) (o:Nat) (w:World) (vs:Array Value),w.heap[b]?=some (.cells vs T (0,0))->o+news.length<=vs.size->
  ∃vs',(w.setCells b o news).heap[b]?=some (.cells vs' T (0,0))/\vs'.size=vs.size/\∀k,vs'[k]?=if k<o then vs[k]? else if k<o+news.length then news[k-o]? else vs[k]?:=by
 intro news;induction news with
 |nil=>intro o w vs hb _;exact⟨vs,hb,rfl,fun k=>by simp only[b3];split <;> (try rfl);rw[if_neg (by omega)]⟩
 |cons x r ih=>
  intro o w vs hb hle;simp only[bx]at hle;obtain⟨vs',h1,h2,h3⟩:=ih (o+1) (w.setCell ⟨b,o,none⟩ x) _ (Sd hb) (by simp;omega);refine⟨vs',h1,by simpa using h2,fun k =>?_⟩;rw[h3,bx];by_cases c1:k<o
  ·rw[if_pos (by omega),if_pos c1,Array.getElem?_setIfInBounds_ne (by omega)]
  ·by_cases c2:k=o
   ·subst c2
    rw[if_pos (by omega),if_neg c1,if_pos (by omega),Array.getElem?_setIfInBounds_self_of_lt (by omega)];simp
   ·rw[if_neg (by omega),if_neg c1]
    by_cases c3:k<o+1+r.length
    ·rw[if_pos c3,if_pos (by omega),show k-o=(k-(o+1))+1 by omega,List.getElem?_cons_succ]
    ·rw[if_neg c3,if_neg (by omega),Array.getElem?_setIfInBounds_ne (by omega)]
set_option maxHeartbeats 4000000 in
set_option maxRecDepth 1000000 in
def Tryz.Wy:Qp Tryz.prog 56 3:=by
 intro b i j n cap vs T w hb hsz hij hj hcap hbig h1;obtain⟨te,ti,td,hu,hf⟩:=hH (t:=114) (e:=aC) Tryz.bQ (by kernel_rfl);obtain⟨z,hz,hzr⟩:=hf.zero;have hu':=hu;rw[Tryz.underlying114]at hu';cases hu';obtain⟨news,hnews⟩:∃news,news=(vs.toList.drop (j*3)).take ((n-j)*3):=⟨_,rfl⟩
 have hle:n*3<=vs.size:=by omega
 have hlen:news.length=(n-j)*3:=by rw[hnews,b5,dw,df];omega
 have hget:∀(t:Nat) u,news[t]?=some u->vs[j*3+t]?=some u:=by
  intro t u ht;rw[hnews,List.getElem?_take]at ht;split at ht
  ·rw[List.getElem?_drop,Array.getElem?_toList]at ht;exact ht
  ·cases ht
 obtain⟨A,hA,hsrc⟩:∃A:Addr,(if cap=j then some (⟨b,0,none⟩:Addr)else some ⟨b,j*3,none⟩)=some A/\Hid (∀(t:Nat) u,news[t]?=some u->w.drew.cell? (A.add t)=some u):=by
  by_cases h:cap=j
  ·refine⟨⟨b,0,none⟩,by simp[h],fun t u hu =>?_⟩
   have h0:news.length=0:=by rw[hlen];omega
   rw[dk.1 h0]at hu;simp at hu
  ·refine⟨⟨b,j*3,none⟩,by simp[h],fun t u hu =>?_⟩
   rw[Addr.add_lit,cell_of_row w.drew b _ vs T (0,0) hb];exact hget t u hu
 have mixed:Tryz.prog.follows .mixedOrders=true:=by kernel_rfl
 have hs3:ti.size=3:=hf.size;have s1:Hid (news.length=(n-j)*3):=hlen;have s2:Hid (∀u∈news,u.oneCell'=true):=by
  intro u hu;obtain⟨t,ht⟩:=List.getElem?_of_mem hu;have:=bG ht;exact h1 (j*3+t) u (by omega) (hget t u ht)
 have s3:Hid (∀t,t<news.length->(w.drew.cell? ⟨b,0+i*3+t,none⟩).isSome=true/\w.drew.frozen? ⟨b,0+i*3+t,none⟩=false):=by
  intro t ht;rw[hlen]at ht;refine⟨?_,de (w:=w.drew) hb _⟩;rw[cell_of_row w.drew b _ vs T (0,0) hb,Array.getElem?_eq_getElem (by omega)];rfl
 obtain⟨W1,hW1⟩:∃W1,W1=w.drew.setCells b (0+i*3) news:=⟨_,rfl⟩
 have hW:Hid (W1=w.drew.setCells b (0+i*3) news):=hW1;have hic:i<=cap:=by omega
 have hjc:j<=cap:=by omega
 have hne:¬((i:Int)=(j:Int)):=by omega
 have hzv:∀w,(zeroValue 53).run Tryz.prog w=.ok z w:=fun w=>by simp[zeroValue,typeInfo,hf.info,hz]
 have hz0:=kV (S:=aA (fun _ _=>False) ⟨[],[],0⟩ (fun _=>⟨.nilIface,[]⟩) w) (cx:=Tryz.B) hzr;have hzs:z.cells.size=3:=by
  rw[<-df];exact hz0.length.symm.trans (iU aC)
 obtain⟨vs1,v1,v2,v3⟩:=vU (b:=b) (T:=T) news (0+i*3) w.drew vs hb (by omega);rw[<-hW1]at v1;have fT:=CS (P:=Tryz.prog) W1 114 53 0 z Tryz.underlying114 hzv (fun u hu=>(Bx (eT:=Tryz.B.eT) (A:=fun _ _=>False) (w:=w) hzr (by kernel_rfl)).lj u (by simpa using hu)) b ((i+(n-j))*3) (n-(i+(n-j))) (cap-(i+(n-j))) (by omega)
  (fun t ht=>by rw[hzs]at ht;rw[cell_of_row W1 b _ vs1 T (0,0) v1,Array.getElem?_eq_getElem (by omega)];rfl) (fun t ht=>de v1 _)
 obtain⟨W2,hW2⟩:∃W2,W2=W1.setCells b ((i+(n-j))*3) (cm z.cells (n-(i+(n-j)))).toList:=⟨_,rfl⟩
 rw[<-hW2]at fT;have hzl:(cm z.cells (n-(i+(n-j)))).toList.length=(n-(i+(n-j)))*3:=by rw[df,size_zeroCells,hzs]
 obtain⟨vs2,u1,u2,u3⟩:=vU (b:=b) (T:=T) (cm z.cells (n-(i+(n-j)))).toList ((i+(n-j))*3) W1 vs1 v1 (by omega);rw[<-hW2]at u1;have hfin:Hid (W2.os=w.os/\W2.output=w.output/\W2.heap.size=w.heap.size/\(∀k,k≠b->W2.heap[k]?=w.heap[k]?)/\
       ∃vs',W2.heap[b]?=some (Obj.cells vs' T (0,0))/\vs'.size=vs.size/\∀k,k<(i+(n-j))*3->vs'[k]?=vs[if k<i*3 then k else k+(j-i)*3]?):=by
  refine⟨by rw[hW2,hW1,eu,eu];rfl,by rw[hW2,hW1,ew,ew];rfl,by rw[hW2,hW1,jY,jY];rfl,fun k hk =>?_,vs2,u1,by omega,fun k hk =>?_⟩
  ·by_cases hlt:k<w.heap.size
   ·rw[hW2,ey _ _ _ _ (by rw[hW1,jY];exact hlt) hk,hW1,ey w.drew _ _ _ (show k<w.drew.heap.size from hlt) hk];rfl
   ·rw[Array.getElem?_eq_none (by rw[hW2,hW1,jY,jY];show w.heap.size<=k;omega),Array.getElem?_eq_none (by omega)]
  ·rw[u3,if_pos hk,v3]
   by_cases c:k<i*3
   ·rw[if_pos (by omega),if_pos c]
   ·rw[if_neg (by omega),if_pos (by omega),if_neg c,hnews,List.getElem?_take,if_pos (by omega),List.getElem?_drop,Array.getElem?_toList]
    congr 1;omega
 have fT:Hid ((dx #[114] 0 #[.slice (some ⟨b,(i+(n-j))*3,none⟩) (n-(i+(n-j))) (cap-(i+(n-j)))]).run Tryz.prog W1=.ok (.tuple #[]) W2):=fT;have fT:=fT.out;clear hW1 hget hnews hlen h1 hW2 u1 u2 u3 v1 v2 v3 hzl
 go_enter Tryz.func56,Tryz.ntmps56
 go_wp2_with fail
 go_region_law_o (refine step_append_room rfl (.tmp 22) (.tmp 25) 114 rfl 53 ti 3 Tryz.underlying114 hf.info hs3 b 0 i cap (by simp[Act.eval,Act.put]) A (n-j) (cap-j) news (by simp[Act.eval,Act.put,hA]) s1.out hsrc.out s2.out (by omega) s3.out ?_;rw[<-hW.out])
 go_wp2
 go_ret
 exact⟨rfl,hfin.out⟩
end Go.Proofs.YtgokjhhcfemnhadGreatDoor

namespace Go.Proofs.YtgokjhhcfemnhadGreatDoor
open Go.Vg Go.Mrl
def Tryz.WX:∃fn,Tryz.prog.funcs[56]?=some fn/\fn.body.isNone=false/\(fn.name == "runtime.NumGoroutine")=false:=⟨_,Tryz.func56,by kernel_rfl,by kernel_rfl⟩
def Tryz.LA:List (FuncId×(Bool×aU)):=[(47,Tryz.spZ10),(56,(false,DA aC)),(48,Tryz.spZ11),(50,Tryz.spZ13)]
def Tryz.Q1:bP Tryz.prog Tryz.B Tryz.X Tryz.LA:=
 aQ (eR (bR Tryz.bQ) Tryz.func47 (by kernel_rfl) []) (aQ (Ny Tryz.WX Tryz.Wy) (aQ (Tryz.DH) (aQ (Tryz.Lv) (bR Tryz.bQ))))
def VD{x:Sh}{s:aD}(h:¬0<=dV x.1.2.1 s):gI x s=(x,5):=by unfold gI;rw[if_neg h]
def TF{x:Sh}{s:aD}(h:0<=dV x.1.2.1 s):gI x s=qo x (x.1.2.1.take (dV x.1.2.1 s).toNat++x.1.2.1.drop (dV x.1.2.1 s+1).toNat):=by
 unfold gI;rw[if_pos h,List.eraseIdx_eq_take_drop_succ,show(dV x.1.2.1 s+1).toNat=(dV x.1.2.1 s).toNat+1 by omega]
def Tryz.Be:List (Alt Tryz.cE [.obj 0,.d .str]):=[{bN:=Tryz.cE,res:=[.d .err],out:=fun a x=>(gI x a.1).1,ret:=fun a x=>(aJ (gI x a.1).2,())}]
def VE(s:List UInt8)(r:Int)(o:List (D aC))(d:Dk)(hw:gV [.obj 0,.d .str] (s,()))(hp:(fun _ x=>x.1.2.1.length<=100/\0<=(x.1.1:Int)/\(x.1.1:Int)<=1000000000/\dC x.2 1000000) (s,()) ((r,o,()),d)):(cY Tryz.B Tryz.LA Tryz.f38 [] Tryz.cE [.obj 0,.d .str] Tryz.Be (s,()) ((r,o,()),d)).holds:=by
 refine holds_of (p:=
  let za:=d.2.2.2.1=d.2.2.2.1
  let zb:=dV o s
  let zc:=((r,o,()),d)
  let zd:=(gI zc s).1
  let ze:=(aJ (gI zc s).2,())
  let zf:=bb o
  let zg:=zb+1
  let zh:=bd (bf zb) o++bj (bf zg) o
  let zi:=eJ d r zh
  let zj:=zi.1.2.2.2.1
  za/\True/\(True->((decide (zb<0))=true->za/\True/\zc=zd/\(aL.no 5,())=ze)/\((decide (zb<0))=false->∀F:Bool,(0<zf->F=false)->(F=true->aM zb->aM 1->aM zg/\False)/\(F=false->zf<=1000000000/\(aM zb->aM 1->aM zg/\(0<=zb/\zb<zg/\zg<=(↑zf:Int))/\za/\(bb zh<=100/\0<=r/\r<=1000000000/\dC d 1000000)/\(True->zj=zj/\True/\(if zi.2=0 then(r+1,zh,())else(r,o,()),zi.1)=zd/\(aJ zi.2,())=ze)))))) (by kernel_rfl) ?_
 dsimp -iota -proj -eta only;dsimp only at hp;exact⟨rfl,ba,fun h0=>iL (fun h1=>(by rw[VD (x:=((r,o,()),d)) (show ¬0<=dV o s by omega)];exact⟨rfl,ba,rfl,rfl⟩)) (fun h1 F q_0=>⟨fun h2 h3 h4=>⟨(by exfalso;have:=xE q_0 h2;subst this;exact oW s (by omega)),(by have:=xE q_0 h2;subst this;exact oW s (by omega))⟩,fun h2=>⟨(by omega),fun h3 h4=>⟨(by have:=p3 o s;have hh:o.length<=100:=hp.1;unfold aM;omega),(by have:=p3 o s;exact⟨by omega,by omega,by omega⟩),rfl,(by have hh:o.length<=100:=hp.1;refine⟨?_,hp.2⟩;rw[bt,b5,dw];omega),fun h5=>(by rw[TF (x:=((r,o,()),d)) (show 0<=dV o s by omega)];exact⟨rfl,ba,rfl,rfl⟩)⟩⟩⟩)⟩
def Tryz.VF:bY Tryz.prog Tryz.B.eT Tryz.X 38 false (aZ Tryz.cE [.obj 0,.d .str] (fun _ x=>x.1.2.1.length<=100/\0<=(x.1.1:Int)/\(x.1.1:Int)<=1000000000/\dC x.2 1000000) Tryz.Be):=
 bH (X:=Tryz.X) Tryz.Q1 Tryz.func38 (by kernel_rfl) (fun(a:CD [.obj 0,.d .str]) (x:PD Tryz.cE)=>[]) (fun(a:CD [.obj 0,.d .str]) (x:PD Tryz.cE) hw hp=>VE a.1 x.1.1 x.1.2.1 x.2 hw hp)
def Tryz.spZ20:Bool×aU:=(false,aZ Tryz.bE [.obj 0] (fun _ x=>dC x 1000000/\∀i,i<x.2.2.1.length->(nth .str x.2.2.1 i).length=64) Tryz.Bd)
def Tryz.CT:List (FuncId×(Bool×aU)):=[(45,Tryz.spZ0),(17,Tryz.spZ1),(70,Tryz.spZ8),(58,(false,aZ Tryz.bE [.obj 0,.d (.int .i64)] (fun _ _=>True) Tryz.A8)),(71,Tryz.spZ9),(18,(false,aZ Tryz.bE [.obj 0,.d (.int .i64)] (fun _ _=>True) Tryz.DG)),(19,Tryz.spZ19),(57,Tryz.spZ18),(20,(false,aZ Tryz.bE [.obj 0,.d (.int .u64)] (fun _ x=>x.2.1.length=x.2.2.1.length/\∀i,i<x.2.2.2.1.length->0<=((nth js x.2.2.2.1 i).1:Int)/\((nth js x.2.2.2.1 i).1:Int)<x.2.2.1.length) Tryz.tx)),(43,(false,aZ [] [.d (.int .i64)] (fun _ _=>True) Tryz.Ba)),(39,Tryz.spZ20),(44,(false,aZ Tryz.bE [.obj 0] (fun _ x=>dC x 1000000) Tryz.vE))]
def Tryz.I1:bP Tryz.prog Tryz.B Tryz.X Tryz.CT:=
 aQ (aE Tryz.jn) (aQ (aE Tryz.ir) (aQ (Tryz.xP) (aQ (Tryz.Tw) (aQ (Tryz.xR) (aQ (Tryz.Vr) (aQ (Tryz.IV) (aQ (Tryz.tw) (aQ (Tryz.Kj) (aQ (Tryz.Vt) (aQ (Tryz.Lz) (aQ (Tryz.QZ) (bR Tryz.bQ))))))))))))
def Tryz.tz:List (Alt [] []):=[{bN:=Tryz.cE,res:=[.obj 1,.obj 0,.d .bool],out:=fun _ _=>jm,ret:=fun _ _=>(true,())}]
def NW  (hw:gV [] ()):(cY Tryz.B Tryz.CT Tryz.f25 [] [] [] Tryz.tz () ()).holds:=by
 refine holds_of (p:=
  let za:=ch 112 (eI (@bc UInt8))
  let zb:=(((-1:Int),false,()),za,za,[],())
  let zc:=(iT zb).1
  let zd:=zc.2.2.2.1=zc.2.2.2.1
  let ze:=(dO zc).2
  let zf:=(((dO zc).1.1,(dO zc).1.2,()),zc)=jm
  let zg:=(true,())
  True/\(((112:Int)<(1:Int)\/(120:Int)<(112:Int))->((!aL.isNil (aL.no (1:Int)))=true->False)/\((!aL.isNil (aL.no (1:Int)))=false->False))/\((1:Int)<=(112:Int)/\(112:Int)<=(120:Int)->((!aL.isNil aL.nil)=true->False)/\((!aL.isNil aL.nil)=false->(@bc (Int×List UInt8×Unit)=@bc (Int×List UInt8×Unit))/\dC zb 1000000/\(True->((!aL.isNil (aJ (iT zb).2))=true->False)/\((!aL.isNil (aJ (iT zb).2))=false->zd/\(dC zc 1000000/\∀(i:Nat),i<bb zc.2.2.1->bb (nth Ty.str zc.2.2.1 i)=64)/\(ze≠(0:Int)->((aL.isNil (aJ ze))=true->False)/\((aL.isNil (aJ ze))=false->False))/\(ze=(0:Int)->((aL.isNil aL.nil)=true->zd/\True/\zf/\zg=zg)/\((aL.isNil aL.nil)=false->zd/\True/\zf/\(false,())=zg))))))) (by kernel_rfl) ?_
 dsimp -iota -proj -eta only;refine⟨ba,⟨fun h0=>⟨fun h1=>(by trivial),fun h1=>absurd (show true=false from h1) (by decide)⟩,fun h0=>⟨fun h1=>absurd (show false=true from h1) (by decide),fun h1=>⟨rfl,⟨dh _,b7 _,rfl⟩,fun h2=>iB (fun h3=>(dU h3 ((qM (sd (dh _)))).1)) (fun h3=>⟨rfl,⟨((qM (sd (dh _)))).2.vy,((qM (sd (dh _)))).2.fP.sec⟩,⟨fun h4=>⟨fun h5 =>?a,fun h5 =>?b⟩,fun h4=>⟨fun h5=>⟨rfl,ba,Prod.ext jD.again rfl,rfl⟩,fun h5=>absurd (show true=false from h5) (by decide)⟩⟩⟩)⟩⟩⟩⟩
 case a|b=>exact h4 jD.DD
def Tryz.NX:bY Tryz.prog Tryz.B.eT Tryz.X 25 false (aZ [] [] (fun _ _=>True) Tryz.tz):=
 bH (X:=Tryz.X) Tryz.I1 Tryz.func25 (by kernel_rfl) (fun(a:CD []) (x:PD [])=>[]) (fun(a:CD []) (x:PD []) hw hp=>NW  hw)
@[reducible] def Tryz.aW:List Ob:=[.box 93 [.obj 1,.d (.int .i64)],.ext 1 (ij cI)]
def Tryz.I2:List (FuncId×(Bool×aU)):=[(45,Tryz.spZ0),(17,Tryz.spZ1)]
def Tryz.NY:bP Tryz.prog Tryz.B Tryz.X Tryz.I2:=
 aQ (aE Tryz.jn) (aQ (aE Tryz.ir) (bR Tryz.bQ))
def Tryz.DM:List (Alt [] []):=[{bN:=Tryz.aW,res:=[.obj 0],out:=fun _ _=>qm,ret:=fun _ _=>()}]
def VG  (hw:gV [] ()):(cY Tryz.B [] Tryz.f26 [] [] [] Tryz.DM () ()).holds:=by
 refine holds_of (p:=
  True/\((0,()),([],0,()),())=qm/\()=()) (by kernel_rfl) ?_
 exact⟨ba,rfl,rfl⟩
def Tryz.LB:bY Tryz.prog Tryz.B.eT Tryz.X 26 false (aZ [] [] (fun _ _=>True) Tryz.DM):=
 bH (X:=Tryz.X) (bR Tryz.bQ) Tryz.func26 (by kernel_rfl) (fun(a:CD []) (x:PD [])=>[]) (fun(a:CD []) (x:PD []) hw hp=>VG  hw)
def Tryz.xS:List (Alt Tryz.aW [.obj 0,.d .str]):=[{bN:=Tryz.aW,res:=[.d .str,.d (.int .i64),.d .err],out:=fun _ x=>x,ret:=fun a x=>((aG x a.1).1,(aG x a.1).2.1,aJ (aG x a.1).2.2,())}]
def TG(s:List UInt8)(f:cH)(hw:gV [.obj 0,.d .str] (s,())):(cY Tryz.B [] Tryz.f13 [] Tryz.aW [.obj 0,.d .str] Tryz.xS (s,()) f).holds:=by
 refine holds_of (p:=
  let za:=Ty.prod Ty.str (Ty.prod (Ty.int bm) Ty.unit)
  let zb:=(aG f s).2
  let zc:=((aG f s).1,zb.1,aJ zb.2,())
  let zd:=iW za f.2.1.1 s
  ((!cX za f.2.1.1 s)=true->True/\f=f/\([],0,aL.no 5,())=zc)/\((!cX za f.2.1.1 s)=false->True/\f=f/\(zd.1,zd.2.1,aL.nil,())=zc)) (by kernel_rfl) ?_
 dsimp -iota -proj -eta only;exact iB (fun h0=>(by exact⟨ba,rfl,by rw[lJ h0];rfl⟩)) (fun h0=>(by exact⟨ba,rfl,by rw[pq h0];rfl⟩))
def Tryz.p5:bY Tryz.prog Tryz.B.eT Tryz.X 13 false (aZ Tryz.aW [.obj 0,.d .str] (fun _ _=>True) Tryz.xS):=
 bH (X:=Tryz.X) (bR Tryz.bQ) Tryz.func13 (by kernel_rfl) (fun(a:CD [.obj 0,.d .str]) (x:PD Tryz.aW)=>[]) (fun(a:CD [.obj 0,.d .str]) (x:PD Tryz.aW) hw hp=>TG a.1 x hw)
def Tryz.vF:List (Alt Tryz.aW [.obj 0,.d .str,.d .str]):=[{bN:=Tryz.aW,res:=[.d .err],out:=fun a x=>(cL x a.1 a.2.1).1,ret:=fun a x=>(aJ (cL x a.1 a.2.1).2,())}]
def Q2(s:List UInt8)(t:List UInt8)(f:cH)(hw:gV [.obj 0,.d .str,.d .str] (s,t,()))(hp:(fun _ x=>x.2.1.1.length<=6/\0<=x.1.1/\x.1.1<=1000000) (s,t,()) f):(cY Tryz.B Tryz.I2 Tryz.f27 [] Tryz.aW [.obj 0,.d .str,.d .str] Tryz.vF (s,t,()) f).holds:=by
 refine holds_of (p:=
  let za:=aJ (aP s)
  let zb:=cL f s t
  let zc:=f=zb.1
  let zd:=(aJ zb.2,())
  let ze:=Ty.prod Ty.str (Ty.prod (Ty.int bm) Ty.unit)
  let zf:=f.2.1.1
  let zg:=True/\zc/\(aL.no 8,())=zd
  let zh:=f.1.1+1
  let zi:=((f.1.1 == 1000000)=true->zg)/\((f.1.1 == 1000000)=false->aM f.1.1->aM 1->aM zh/\bb zf<aN/\True/\((zh,()),(eU ze zf s (t,zh,()) f.2.1.2.1,mT ze zf s f.2.1.2.1,()),())=zb.1/\(aL.nil,())=zd)
  True/\((!aL.isNil za)=true->True/\zc/\(za,())=zd)/\((!aL.isNil za)=false->bb t<=aN->((decide ((↑(bb t):Int) > 1200))=true->True/\zc/\(aL.no 2,())=zd)/\((decide ((↑(bb t):Int) > 1200))=false->((!cX ze zf s)=true->(((↑(bb zf):Int) == 6)=true->zg)/\(((↑(bb zf):Int) == 6)=false->zi))/\((!cX ze zf s)=false->zi)))) (by kernel_rfl) ?_
 dsimp -iota -proj -eta only;refine⟨ba,iB (fun h0 =>?a) (fun h0 h1=>iL (fun h2=>(by rw[xb (aK.1 ‹_›) (by omega)];exact⟨ba,rfl,rfl⟩)) (fun h2=>iB (fun h3=>iQ (fun h4 =>?b) (fun h4=>iQ (fun h5 =>?c) (fun h5 h6 h7=>⟨?d,?e,?f⟩))) (fun h3=>iQ (fun h4 =>?g) (fun h4 h5 h6=>⟨?h,?i,?j⟩))))⟩
 case a=>
  have hn:¬aP s=0:=(fun e=>by rw[aK.2 e]at h0;cases h0);rw[xa hn];exact⟨ba,rfl,rfl⟩
 case b|c|g=>rw[xc (aK.1 ‹_›) (by omega) (by first|exact .inr (by omega)|exact .inl ⟨by assumption,by omega⟩)];exact⟨ba,rfl,rfl⟩
 case d|e|h|i=>simp only[aM,aN]at*;omega
 case f|j=>rw[B6 (aK.1 ‹_›) (by omega) (by rintro(⟨e1,e2⟩|e);(first|omega|exact ct (e1.symm.trans (show cX cI f.2.1.1 s=true by assumption)));omega)];exact⟨ba,rfl,rfl⟩
def Tryz.Fv:bY Tryz.prog Tryz.B.eT Tryz.X 27 false (aZ Tryz.aW [.obj 0,.d .str,.d .str] (fun _ x=>x.2.1.1.length<=6/\0<=x.1.1/\x.1.1<=1000000) Tryz.vF):=
 bH (X:=Tryz.X) Tryz.NY Tryz.func27 (by kernel_rfl) (fun(a:CD [.obj 0,.d .str,.d .str]) (x:PD Tryz.aW)=>[]) (fun(a:CD [.obj 0,.d .str,.d .str]) (x:PD Tryz.aW) hw hp=>Q2 a.1 a.2.1 x hw hp)
def Tryz.tA:List (Alt Tryz.aW [.obj 0,.d .str]):=[{bN:=Tryz.aW,res:=[.d .err],out:=fun a x=>(fE x a.1).1,ret:=fun a x=>(aJ (fE x a.1).2,())}]
def NZ(s:List UInt8)(f:cH)(hw:gV [.obj 0,.d .str] (s,())):(cY Tryz.B [] Tryz.f28 [] Tryz.aW [.obj 0,.d .str] Tryz.tA (s,()) f).holds:=by
 refine holds_of (p:=
  let za:=Ty.prod Ty.str (Ty.prod (Ty.int bm) Ty.unit)
  let zb:=fE f s
  let zc:=(aJ zb.2,())
  ((!cX za f.2.1.1 s)=true->True/\f=zb.1/\(aL.no 5,())=zc)/\((!cX za f.2.1.1 s)=false->True/\(f.1,(fU za f.2.1.1 s,f.2.1.2),())=zb.1/\(aL.nil,())=zc)) (by kernel_rfl) ?_
 dsimp -iota -proj -eta only;exact iB (fun h0=>(by rw[mB h0];exact⟨ba,rfl,rfl⟩)) (fun h0=>(by rw[lB h0];exact⟨ba,rfl,rfl⟩))
def Tryz.CU:bY Tryz.prog Tryz.B.eT Tryz.X 28 false (aZ Tryz.aW [.obj 0,.d .str] (fun _ _=>True) Tryz.tA):=
 bH (X:=Tryz.X) (bR Tryz.bQ) Tryz.func28 (by kernel_rfl) (fun(a:CD [.obj 0,.d .str]) (x:PD Tryz.aW)=>[]) (fun(a:CD [.obj 0,.d .str]) (x:PD Tryz.aW) hw hp=>NZ a.1 x hw)
@[reducible] def Tryz.sg:List Ob:=[.box 4 [.d .bool]]
@[reducible] def Tryz.oX:List Ob:=[.box 84 [.obj 1,.obj 2,.obj 3,.obj 4],.tok .str,.tok (.int .i64),.tok aS,.tok bD,.box 4 [.d .bool]]
def Tryz.vG:List (Alt Tryz.sg [.d .str,.obj 0]):=[{bN:=Tryz.sg,res:=[.d (.int .i64)],out:=fun a x=>((x.1.1 || (cT a.1).isNone,()),()),ret:=fun a _=>((dZ a.1).1,())}]
def Tryz.Fw:List (FuncId×(Bool×aU)):=[(84,Tryz.spZ2),(103,Tryz.spZ14),(81,Tryz.spZ15),(52,Tryz.spZ16),(51,Tryz.spZ17)]
def Tryz.Kq:bP Tryz.prog Tryz.B Tryz.X Tryz.Fw:=
 aQ (aE Tryz.oO) (aQ (aE Tryz.se) (aQ (aE Tryz.nu) (aQ (aE Tryz.my) (aQ (aE Tryz.sf) (bR Tryz.bQ)))))
def N0(s:List UInt8)(b:Bool)(hw:gV [.d .str,.obj 0] (s,()))(hp:(fun a _=>a.1.length<=1000000) (s,()) ((b,()),())):(cY Tryz.B Tryz.Fw Tryz.f82 [] Tryz.sg [.d .str,.obj 0] Tryz.vG (s,()) ((b,()),())).holds:=by
 refine holds_of (p:=
  let za:=((b || ck (cT s),()),())
  let zb:=((dZ s).1,())
  let zc:=True/\((true,()),())=za/\zb=zb
  bb s<=281474976710656/\(b=true->zc)/\(b=false->((!aL.isNil (dZ s).2)=true->zc)/\((!aL.isNil (dZ s).2)=false->True/\True/\((!bp (dZ s).1 == s,()),())=za/\zb=zb))) (by kernel_rfl) ?_
 dsimp -iota -proj -eta only;dsimp only at hp;exact⟨(by omega),⟨fun h0=>(by simp_all),fun h0=>iB (fun h1=>(by exact⟨ba,by rw[qE,h1];simp,rfl⟩)) (fun h1=>⟨ba,(by exact⟨ba,by rw[qE,h1];cases b <;> simp_all <;> (rw[dy];simp),rfl⟩)⟩)⟩⟩
def Tryz.N1:bY Tryz.prog Tryz.B.eT Tryz.X 82 false (aZ Tryz.sg [.d .str,.obj 0] (fun a _=>a.1.length<=1000000) Tryz.vG):=
 bH (X:=Tryz.X) Tryz.Kq Tryz.func82 (by kernel_rfl) (fun(a:CD [.d .str,.obj 0]) (x:PD Tryz.sg)=>[]) (fun(a:CD [.d .str,.obj 0]) (x:PD Tryz.sg) hw hp=>N0 a.1 x.1.1 hw hp)
def Tryz.Bf:List (Alt Tryz.oX [.obj 0,.d .str,.obj 5]):=[{bN:=Tryz.oX,res:=[],out:=fun a x=>PG (gG (SI x) x.2.2.2.2.2.1.1 a.1),ret:=fun _ _=>()}]
def Tryz.LC:List (FuncId×(Bool×aU)):=[(84,Tryz.spZ2),(103,Tryz.spZ14),(81,Tryz.spZ15),(52,Tryz.spZ16),(51,Tryz.spZ17),(82,(false,aZ Tryz.sg [.d .str,.obj 0] (fun a _=>a.1.length<=1000000) Tryz.vG))]
def Tryz.Q3:bP Tryz.prog Tryz.B Tryz.X Tryz.LC:=
 aQ (aE Tryz.oO) (aQ (aE Tryz.se) (aQ (aE Tryz.nu) (aQ (aE Tryz.my) (aQ (aE Tryz.sf) (aQ (Tryz.N1) (bR Tryz.bQ))))))
def LD(s:List UInt8)(_:List (List UInt8))(_:List Int)(_:List (D aS))(_:List (D bD))(_:Bool):dY:=[
 (300001,fun st=>{X:=List (List UInt8),inv:=fun w=>w=parts 32 (cb s dW),cB:=fun _=>0,bK:=fun w=>[(7,sD (.slice .str) w)],keep:=[0,2,6]}),
 (300003,fun st=>{X:=Bool,inv:=fun c=>c=true↔(nth .str (cO (.slice .str) st 7) 0=kq/\bb (cO (.slice .str) st 7)=2),cB:=fun _=>0,bK:=fun c=>[(18,sB c)],keep:=[0,2,6,7]}),
 (300005,fun st=>{X:=Bool,inv:=fun c=>c=true↔(nth .str (cO (.slice .str) st 7) 0=jS/\bb (cO (.slice .str) st 7)=2),cB:=fun _=>0,bK:=fun c=>[(40,sB c)],keep:=[0,2,6,7]}),
 (300007,fun st=>{X:=Bool,inv:=fun c=>c=true↔(nth .str (cO (.slice .str) st 7) 0=jk/\bb (cO (.slice .str) st 7)=3),cB:=fun _=>0,bK:=fun c=>[(64,sB c)],keep:=[0,2,6,7]}),
 (300009,fun st=>{X:=Bool,inv:=fun c=>c=true↔(nth .str (cO (.slice .str) st 7) 0=mM/\bb (cO (.slice .str) st 7)=3),cB:=fun _=>0,bK:=fun c=>[(93,sB c)],keep:=[0,2,6,7]}),
 (300011,fun st=>{X:=Bool,inv:=fun c=>c=true↔((nth .str (cO (.slice .str) st 7) 0=lC\/nth .str (cO (.slice .str) st 7) 0=lg)/\bb (cO (.slice .str) st 7)=4),cB:=fun _=>0,bK:=fun c=>[(123,sB c)],keep:=[0,2,6,7]})]
def TH(s:List UInt8)(n:List (List UInt8))(w:List Int)(y:List (D aS))(t:List (D bD))(b:Bool)(hw:gV [.obj 0,.d .str,.obj 5] (s,()))(hp:(fun a x=>a.1.length<=1000000/\x.2.1.length<=1000000/\x.2.2.1.length<=1000000/\x.2.2.2.1.length<=1000000/\x.2.2.2.2.1.length<=1000000) (s,()) ((),n,w,y,t,(b,()),())):(cY Tryz.B Tryz.LC Tryz.f53 (LD s n w y t b) Tryz.oX [.obj 0,.d .str,.obj 5] Tryz.Bf (s,()) ((),n,w,y,t,(b,()),())).holds:=by
 refine holds_of (p:=
  let za:=[(119:UInt8),101,97,107,32]
  let zb:=cb s za
  let zc:=parts (32:UInt8) (cb s dW)
  let zd:=n=n
  let ze:=w=w
  let zf:=y=y
  let zg:=t=t
  let zh:=(zd/\ze/\zf/\zg/\True)/\zd/\ze/\zf/\zg/\(b=b/\True)/\True
  let zi:=fun(F:List (List UInt8))=>(↑(bb F):Int)
  let zj:=fun(F:List (List UInt8))=>(0:Int)<=(0:Int)/\(0:Int)<zi F
  let zk:=fun(F:List (List UInt8))=>nth Ty.str F 0
  let zl:=fun(F:List (List UInt8))=>bb F<=aN
  let zm:=fun(F:List (List UInt8))=>zk F=kq/\bb F=2
  let zn:=fun(F:List (List UInt8))=>(0:Int)<=(1:Int)/\(1:Int)<zi F
  let zo:=fun(F:List (List UInt8))=>nth Ty.str F 1
  let zp:=(w,y,t,(b,()),())
  let zq:=PG (gG (SI ((),n,zp)) b s)
  let zr:=()=()
  let zs:=fun(F:List (List UInt8))=>zk F=jS/\bb F=2
  let zt:=fun(F:List (List UInt8))=>bb (zo F)<=1000000
  let zu:=fun(F:List (List UInt8))=>(dZ (zo F)).1
  let zv:=fun(F:List (List UInt8))=>zk F=jk/\bb F=3
  let zw:=fun(F:List (List UInt8))=>(0:Int)<=(2:Int)/\(2:Int)<zi F
  let zx:=fun(F:List (List UInt8))=>nth Ty.str F 2
  let zy:=fun(F:List (List UInt8))=>bb (zx F)<=1000000
  let zz:=(cy s za,())
  let zaa:=fun(F:List (List UInt8))=>[(zo F,(dZ (zx F)).1,zz)]
  let zab:=fun(F:List (List UInt8))=>zk F=mM/\bb F=3
  let zac:=bb t
  let zad:=fun(F:List (List UInt8))=>[(zu F,(1:Int),(dZ (zx F)).1,@bc UInt8,false,())]
  let zae:=fun(F:List (List UInt8))=>((b || ck (cT (zo F)) || ck (cT (zx F)),()),())
  let zaf:=fun(F:List (List UInt8))=>zy F/\(True->(zg/\zac+bb (zad F)<=1000000000)/\zd/\ze/\zf/\t++zad F=t++zad F/\True/\((),n,w,y,t++zad F,zae F)=zq/\zr)
  let zag:=fun(F:List (List UInt8))=>(zk F=lC\/zk F=lg)/\bb F=4
  let zah:=fun(F:List (List UInt8))=>zl F->∃(x':Bool),(x'=true↔zag F)/\((zi F == (4:Int))=x'/\True)/\zh
  let zai:=fun(F:List (List UInt8))=>zk F == [(110:UInt8),101,97,114]
  let zaj:=fun(F:List (List UInt8))=>(0:Int)<=(3:Int)/\(3:Int)<zi F
  let zak:=fun(F:List (List UInt8))=>((dZ (zx F)).1,nth Ty.str F 3,zz)
  let zal:=fun(F:List (List UInt8))=>t++[(zu F,(3:Int),zak F)]
  let zam:=fun(F:List (List UInt8))=>zy F/\(True->(zg/\zac+bb [(zu F,(3:Int),zak F)]<=1000000000)/\zd/\ze/\zf/\zal F=zal F/\True/\((),n,w,y,zal F,zae F)=zq/\zr)
  let zan:=fun(F:List (List UInt8))=>t++[(zu F,(2:Int),zak F)]
  let zao:=fun(F:List (List UInt8))=>zy F/\(True->(zg/\zac+bb [(zu F,(2:Int),zak F)]<=1000000000)/\zd/\ze/\zf/\zan F=zan F/\True/\((),n,w,y,zan F,zae F)=zq/\zr)
  True/\((bb zb<4294967281/\bb [(32:UInt8)]=1)/\∃(x':List (List UInt8)),x'=zc/\(parts (32:UInt8) zb=x'/\True)/\zh)/\∀F:List (List UInt8),F=zc->(zj F/\((zk F == [(110:UInt8),101,101,100])=true->zl F->∃(x':Bool),(x'=true↔zm F)/\((zi F == (2:Int))=x'/\True)/\zh)/\((zk F == [(110:UInt8),101,101,100])=false->∃(x':Bool),(x'=true↔zm F)/\(false=x'/\True)/\zh))/\∀I:Bool,(I=true↔zm F)->(I=true->zn F/\(zd/\bb n+bb [zo F]<=1000000000)/\n++[zo F]=n++[zo F]/\ze/\zf/\zg/\True/\((),n++[zo F],zp)=zq/\zr)/\(I=false->(zj F/\((zk F == [(119:UInt8),111,114,100])=true->zl F->∃(x':Bool),(x'=true↔zs F)/\((zi F == (2:Int))=x'/\True)/\zh)/\((zk F == [(119:UInt8),111,114,100])=false->∃(x':Bool),(x'=true↔zs F)/\(false=x'/\True)/\zh))/\∀G:Bool,(G=true↔zs F)->(G=true->zn F/\(fun a0:Prop=>a0/\a0) (zt F/\(True->(ze/\bb w+bb [zu F]<=1000000000)/\zd/\w++[zu F]=w++[zu F]/\zf/\zg/\True/\((),n,w++[zu F],y,t,(b || ck (cT (zo F)),()),())=zq/\zr)))/\(G=false->(zj F/\((zk F == [(115:UInt8),121,109,98,111,108])=true->zl F->∃(x':Bool),(x'=true↔zv F)/\((zi F == (3:Int))=x'/\True)/\zh)/\((zk F == [(115:UInt8),121,109,98,111,108])=false->∃(x':Bool),(x'=true↔zv F)/\(false=x'/\True)/\zh))/\∀K:Bool,(K=true↔zv F)->(K=true->zn F/\zw F/\(fun a0:Prop=>a0/\a0) (zy F/\(True->(zf/\bb y+bb (zaa F)<=1000000000)/\zd/\ze/\y++zaa F=y++zaa F/\zg/\True/\((),n,w,y++zaa F,t,(b || ck (cT (zx F)),()),())=zq/\zr)))/\(K=false->(zj F/\((zk F == [(98:UInt8),97,115,101])=true->zl F->∃(x':Bool),(x'=true↔zab F)/\((zi F == (3:Int))=x'/\True)/\zh)/\((zk F == [(98:UInt8),97,115,101])=false->∃(x':Bool),(x'=true↔zab F)/\(false=x'/\True)/\zh))/\∀M:Bool,(M=true↔zab F)->(M=true->zn F/\zw F/\(zt F/\(True->zaf F))/\zt F/\(True->(fun a0:Prop=>a0/\a0) (zaf F)))/\(M=false->(zj F/\((zk F == [(119:UInt8),104,111,108,101])=true->zah F)/\((zk F == [(119:UInt8),104,111,108,101])=false->zj F/\((zai F)=true->zah F)/\((zai F)=false->∃(x':Bool),(x'=true↔zag F)/\(false=x'/\True)/\zh)))/\∀Q:Bool,(Q=true↔zag F)->(Q=true->zj F/\((zai F)=true->zn F/\zw F/\zaj F/\(zt F/\(True->zam F))/\zt F/\(True->(fun a0:Prop=>a0/\a0) (zam F)))/\((zai F)=false->zn F/\zw F/\zaj F/\(zt F/\(True->zao F))/\zt F/\(True->(fun a0:Prop=>a0/\a0) (zao F))))/\(Q=false->zd/\ze/\zf/\zg/\True/\((),n,w,y,t,(true,()),())=zq/\zr)))))) (by kernel_rfl) ?_
 dsimp -iota -proj -eta only;dsimp only at hp;refine⟨ba,⟨⟨(by have:=HN s [119,101,97,107,32];exact⟨by omega,rfl⟩),(⟨_,rfl,⟨rfl,ba⟩,(by trivial)⟩)⟩,fun F q_0=>⟨⟨?a,iQ (fun h0 h1 =>?b) (fun h0 =>?c)⟩,fun I q_1=>⟨fun h0=>⟨?d,?e,?f⟩,fun h0=>⟨⟨?g,iQ (fun h1 h2 =>?h) (fun h1 =>?i)⟩,fun G q_2=>⟨fun h1=>⟨?j,(show ∀{a0:Prop},a0->a0/\a0 from fun g0=>⟨g0,g0⟩) (⟨?k,fun h2=>⟨?l,?m⟩⟩)⟩,fun h1=>⟨⟨?n,iQ (fun h2 h3 =>?o) (fun h2 =>?p)⟩,fun K q_3=>⟨fun h2=>⟨?q,?r,(show ∀{a0:Prop},a0->a0/\a0 from fun g0=>⟨g0,g0⟩) (⟨?s,fun h3=>⟨?t,?u⟩⟩)⟩,fun h2=>⟨⟨?v,iQ (fun h3 h4 =>?w) (fun h3 =>?x)⟩,fun M q_4=>⟨fun h3=>⟨?y,?z,⟨⟨?a0,fun h4=>⟨?a1,fun h5=>⟨?a2,?a3⟩⟩⟩,⟨?a4,fun h4=>(show ∀{a0:Prop},a0->a0/\a0 from fun g0=>⟨g0,g0⟩) (⟨?a5,fun h5=>⟨?a6,?a7⟩⟩)⟩⟩⟩,fun h3=>⟨⟨?a8,iQ (fun h4 h5 =>?a9) (fun h4=>⟨?aa,iQ (fun h5 h6 =>?ab) (fun h5 =>?ac)⟩)⟩,fun Q q_5=>⟨fun h4=>⟨?ad,iQ (fun h5=>⟨?ae,?af,?ag,⟨⟨?ah,fun h6=>⟨?ai,fun h7=>⟨?aj,?ak⟩⟩⟩,⟨?al,fun h6=>(show ∀{a0:Prop},a0->a0/\a0 from fun g0=>⟨g0,g0⟩) (⟨?am,fun h7=>⟨?an,?ao⟩⟩)⟩⟩⟩) (fun h5=>⟨?ap,?aq,?ar,⟨⟨?au,fun h6=>⟨?av,fun h7=>⟨?aw,?ax⟩⟩⟩,⟨?ay,fun h6=>(show ∀{a0:Prop},a0->a0/\a0 from fun g0=>⟨g0,g0⟩) (⟨?az,fun h7=>⟨?b0,?b1⟩⟩)⟩⟩⟩)⟩,fun h4 =>?b2⟩⟩⟩⟩⟩⟩⟩⟩⟩⟩⟩⟩
 case a|g|n|v|a8|aa|ad=>have:=SJ q_0;omega
 case b|c|h|i|o|p|w|x|a9|ab|ac=>exact⟨_,by(simp_all <;> omega),⟨rfl,ba⟩,(by trivial)⟩
 case d|j|q|r|y|z|ae|af|ag|ap|aq|ar=>simp_all
 case e|l|t|a2|a6|aj|an|aw|b0=>exact⟨rfl,by simp only[bw];omega⟩
 case f|m|u|a3|a7|ak|ao|ax|b1|b2=>
  refine⟨rfl,rfl,rfl,rfl,ba,?_,rfl⟩
  first
  |(rw[MZ q_0 (q_1.1 ‹_›)];rfl)
  |(rw[M0 q_0 (l6 q_1 ‹_›) (q_2.1 ‹_›)];rfl)
  |(rw[PH q_0 (l6 q_1 ‹_›) (l6 q_2 ‹_›) (q_3.1 ‹_›)];rfl)
  |(rw[M1 q_0 (l6 q_1 ‹_›) (l6 q_2 ‹_›) (l6 q_3 ‹_›) (q_4.1 ‹_›)];rfl)
  |(rw[EL q_0 (l6 q_1 ‹_›) (l6 q_2 ‹_›) (l6 q_3 ‹_›) (l6 q_4 ‹_›) (q_5.1 ‹_›) (k:=3) (if_pos ‹_›).symm];rfl)
  |(rw[EL q_0 (l6 q_1 ‹_›) (l6 q_2 ‹_›) (l6 q_3 ‹_›) (l6 q_4 ‹_›) (q_5.1 ‹_›) (k:=2) (if_neg ‹_›).symm];rfl)
  |(rw[M3 q_0 (l6 q_1 ‹_›) (l6 q_2 ‹_›) (l6 q_3 ‹_›) (l6 q_4 ‹_›) (l6 q_5 ‹_›)];rfl)
 case k|a0|a4|ah|al|au|ay=>have:=Ld q_0 1;omega
 case s|a1|a5|ai|am|av|az=>have:=Ld q_0 2;omega
def Tryz.TI:bY Tryz.prog Tryz.B.eT Tryz.X 53 false (aZ Tryz.oX [.obj 0,.d .str,.obj 5] (fun a x=>a.1.length<=1000000/\x.2.1.length<=1000000/\x.2.2.1.length<=1000000/\x.2.2.2.1.length<=1000000/\x.2.2.2.2.1.length<=1000000) Tryz.Bf):=
 bH (X:=Tryz.X) Tryz.Q3 Tryz.func53 (by kernel_rfl) (fun(a:CD [.obj 0,.d .str,.obj 5]) (x:PD Tryz.oX)=>LD a.1 x.2.1 x.2.2.1 x.2.2.2.1 x.2.2.2.2.1 x.2.2.2.2.2.1.1) (fun(a:CD [.obj 0,.d .str,.obj 5]) (x:PD Tryz.oX) hw hp=>TH a.1 x.2.1 x.2.2.1 x.2.2.2.1 x.2.2.2.2.1 x.2.2.2.2.2.1.1 hw hp)
def TJ(n:Int)(hw:gU [.int .i64] n):(dM Tryz.B [] Tryz.f104 [] [.int .i64] [.bool] (fun x y=>y=(fun n=>ie n) x) n).holds:=by
 refine holds_of (p:=
  ((decide (n>=(-2147483648:Int)))=true->decide (n<=2147483647)=ie n)/\((decide (n>=(-2147483648:Int)))=false->false=ie n)) (by kernel_rfl) ?_
 refine iE (fun h0 =>?a) (fun h0 =>?b)
 case a|b=>unfold ie;rw[dy];simp;omega
def Tryz.I3:bX Tryz.prog Tryz.B.eT Tryz.X 104 [.int .i64] [.bool] (fun _=>True) (fun x y=>y=(fun n=>ie n) x):=
 cG (X:=Tryz.X) (bR Tryz.bQ) Tryz.func104 (by kernel_rfl) (fun _=>[]) (fun x hw hp=>TJ x hw)
def Fx(l:List (List UInt8))(s:List UInt8):dY:=[(0,fun st=>{X:=Nat,inv:=fun i=>i<=l.length/\∀j,j<i->nth .str l j≠s,cB:=fun i=>l.length-i,bK:=fun i=>[(8,sI i)],keep:=[0,1,7]})]
def Q4(l:List (List UInt8))(s:List UInt8)(hw:gU [.slice .str,.str] (l,s)):(dM Tryz.B [] Tryz.f55 (Fx l s) [.slice .str,.str] [.int .i64] (fun x y=>(y= -1/\∀j,j<x.1.length->nth .str x.1 j≠x.2)\/(0<=y/\y.toNat<x.1.length/\nth .str x.1 y.toNat=x.2)) (l,s)).holds:=by
 refine holds_of (p:=
  let za:=bb l
  let zb:=(-1:Int)
  let zc:=∀(j:Nat),j<za->nth Ty.str l j≠s
  za<=aN->(∃(x:Nat),(x<=za/\∀(j:Nat),j<x->nth Ty.str l j≠s)/\(0=(↑x:Int)/\True)/\True)/\∀F:Nat,(F<=za/\∀(j:Nat),j<F->nth Ty.str l j≠s)->((decide ((↑F:Int)<(↑za:Int)))=true->(0<=(↑F:Int)/\(↑F:Int)<(↑za:Int))/\((s == nth Ty.str l F)=true->(↑F:Int)=zb/\zc\/0<=(↑F:Int)/\F<za/\nth Ty.str l F=s)/\((s == nth Ty.str l F)=false->aM (↑F:Int)->aM 1->aM ((↑F:Int)+1)/\∃(x':Nat),(x'<=za/\∀(j:Nat),j<x'->nth Ty.str l j≠s)/\za-x'<za-F/\((↑F:Int)+1=(↑x':Int)/\True)/\True))/\((decide ((↑F:Int)<(↑za:Int)))=false->zb=zb/\zc\/0<=zb/\bf zb<za/\nth Ty.str l (bf zb)=s)) (by kernel_rfl) ?_
 dsimp -iota -proj -eta only;exact fun h0=>⟨(⟨0,⟨by omega,fun j hj=>by omega⟩,⟨rfl,ba⟩,ba⟩),fun F q_0=>iL (fun h1=>⟨(by omega),iQ (fun h2=>(by simp_all)) (fun h2 h3 h4=>⟨(by simp only[aM,aN]at*;omega),(⟨F+1,⟨by omega,lV q_0.2 fun e=>(by assumption:¬_) e.symm⟩,by omega,⟨by omega,ba⟩,(by trivial)⟩)⟩)⟩) (fun h1=>(.inl ⟨rfl,fun j hj=>q_0.2 j (by omega)⟩))⟩
def Tryz.Q5:bX Tryz.prog Tryz.B.eT Tryz.X 55 [.slice .str,.str] [.int .i64] (fun _=>True) (fun x y=>(y= -1/\∀j,j<x.1.length->nth .str x.1 j≠x.2)\/(0<=y/\y.toNat<x.1.length/\nth .str x.1 y.toNat=x.2)):=
 cG (X:=Tryz.X) (bR Tryz.bQ) Tryz.func55 (by kernel_rfl) (fun x=>Fx x.1 x.2) (fun x hw hp=>Q4 x.1 x.2 hw)
def Tryz.Fy:List (FuncId×(Bool×aU)):=[(55,(true,rR [.slice .str,.str] [.int .i64] (fun _=>True) (fun x y=>(y= -1/\∀j,j<x.1.length->nth .str x.1 j≠x.2)\/(0<=y/\y.toNat<x.1.length/\nth .str x.1 y.toNat=x.2))))]
def Tryz.Kr:bP Tryz.prog Tryz.B Tryz.X Tryz.Fy:=
 aQ (ji Tryz.Q5) (bR Tryz.bQ)
def I4(l:List (List UInt8))(s:List UInt8)(hw:gU [.slice .str,.str] (l,s)):(dM Tryz.B Tryz.Fy Tryz.f36 [] [.slice .str,.str] [.bool] (fun x y=>y=(fun x=>x.1.any (· == x.2)) x) (l,s)).holds:=by
 refine holds_of (p:=
  True/\∀F:Int,((F=(-1:Int)/\∀(j:Nat),j<bb l->nth Ty.str l j≠s)\/0<=F/\bf F<bb l/\nth Ty.str l (bf F)=s)->decide (F>=0)=da l fun(x:List UInt8)=>x == s) (by kernel_rfl) ?_
 exact⟨ba,fun F q_0=>(contains_of q_0)⟩
def Tryz.xT:bX Tryz.prog Tryz.B.eT Tryz.X 36 [.slice .str,.str] [.bool] (fun _=>True) (fun x y=>y=(fun x=>x.1.any (· == x.2)) x):=
 cG (X:=Tryz.X) Tryz.Kr Tryz.func36 (by kernel_rfl) (fun _=>[]) (fun x hw hp=>I4 x.1 x.2 hw)
def Tryz.Fz:List (FuncId×(Bool×aU)):=[(123,(false,gy Tryz.B [] Tryz.f123 []))]
def Tryz.Ks:bP Tryz.prog Tryz.B Tryz.X Tryz.Fz:=
 aQ (eR (bR Tryz.bQ) Tryz.func123 (by kernel_rfl) []) (bR Tryz.bQ)
def FA:dY:=[(0,fun st=>{X:=Nat,inv:=fun i=>i<=(cO (.slice aS) st 0).length/\∀j,j<i->(nth aS (cO (.slice aS) st 0) j).1≠(Sb aS st (Mt st 1 0)).1,cB:=fun i=>(cO (.slice aS) st 0).length-i,bK:=fun i=>[(8,sI i)],keep:=[0,1,7]})]
def Tryz.LF:List (FuncId×(Bool×aU)):=[(138,(false,gy Tryz.B Tryz.Fz Tryz.f138 FA))]
def Tryz.Q6:bP Tryz.prog Tryz.B Tryz.X Tryz.LF:=
 aQ (eR Tryz.Ks Tryz.func138 (by kernel_rfl) FA) (bR Tryz.bQ)
def Tryz.LG:List (FuncId×(Bool×aU)):=[(45,Tryz.spZ0),(17,Tryz.spZ1),(122,(false,gy Tryz.B Tryz.LF Tryz.f122 []))]
def Tryz.Q7:bP Tryz.prog Tryz.B Tryz.X Tryz.LG:=
 aQ (aE Tryz.jn) (aQ (aE Tryz.ir) (aQ (eR Tryz.Q6 Tryz.func122 (by kernel_rfl) []) (bR Tryz.bQ)))
def CV(o:D aB):dY:=[(0,fun st=>{X:=Nat,inv:=fun i=>kO o.2.1.length o.2.2.1 i,cB:=fun i=>o.2.2.1.length-i,bK:=fun i=>[(9,sI i)],keep:=[1,7,8]})]
def Kt(o:D aB)(hw:gU [aB] o):(dM Tryz.B Tryz.LG Tryz.f105 (CV o) [aB] [.err] (fun x y=>y=(fun o=>aJ (ig o.2.1.length [] o.2.2.1)) x) o).holds:=by
 refine holds_of (p:=
  let za:=o.2.2.1
  let zb:=bb za
  let zc:=bb o.2.1
  let zd:=fun(F:Nat)=>(↑F:Int)
  let ze:=fun(F:Nat)=>(0:Int)<=zd F
  let zf:=fun(F:Nat)=>(nth aS za F).1
  let zg:=aJ (ig zc (@bc (List UInt8×Int×Bool×Unit)) za)
  let zh:=fun(F:Nat)=>(nth aS za F).2.1
  let zi:=aL.no (1:Int)=zg
  let zj:=fun(F:Nat)=>bj 0 (bd F za)
  let zk:=fun(F:Nat)=>bb (zj F)
  let zl:=aL.no (3:Int)=zg
  let zm:=(o.1=o.1/\o.2.1=o.2.1/\za=za/\o.2.2.2.1=o.2.2.2.1/\True)/\True
  let zn:=fun(F:Nat)=>aM (zd F)->aM (1:Int)->aM (zd F+(1:Int))/\∃(x':Nat),kO zc za x'/\zb-x'<zb-F/\(zd F+(1:Int)=(↑x':Int)/\True)/\zm
  zb<=aN->(∃(x:Nat),kO zc za x/\((0:Int)=(↑x:Int)/\True)/\True)/\∀F:Nat,kO zc za F->((decide (zd F<(↑zb:Int)))=true->(ze F/\zd F<(↑zb:Int))/\True/\((!aL.isNil (aJ (aP (zf F))))=true->aJ (aP (zf F))=zg)/\((!aL.isNil (aJ (aP (zf F))))=false->((decide (zh F<(0:Int)))=true->zi)/\((decide (zh F<(0:Int)))=false->zc<=aN->((decide (zh F>=(↑zc:Int)))=true->zi)/\((decide (zh F>=(↑zc:Int)))=false->((0:Int)<=(0:Int)/\ze F/\zd F<=(↑zb:Int))/\(zk F<=aN->(∃(x:Nat),(x<=zk F/\∀(j:Nat),j<x->(nth aS (zj F) j).1≠zf F)/\((0:Int)=(↑x:Int)/\True)/\True)/\∀I:Nat,(I<=zk F/\∀(j:Nat),j<I->(nth aS (zj F) j).1≠zf F)->((decide (zd I<(↑(zk F):Int)))=true->(ze I/\zd I<(↑(zk F):Int))/\(((nth aS (zj F) I).1 == zf F)=true->((decide (zd I>=(0:Int)))=true->zl)/\((decide (zd I>=(0:Int)))=false->zn F))/\(((nth aS (zj F) I).1 == zf F)=false->aM (zd I)->aM (1:Int)->aM (zd I+(1:Int))/\∃(x':Nat),(x'<=zk F/\∀(j:Nat),j<x'->(nth aS (zj F) j).1≠zf F)/\zk F-x'<zk F-I/\(zd I+(1:Int)=(↑x':Int)/\True)/\(zf F=zf F/\zh F=zh F/\(nth aS za F).2.2.1=(nth aS za F).2.2.1/\True)/\zm))/\((decide (zd I<(↑(zk F):Int)))=false->((decide ((-1:Int)>=(0:Int)))=true->zl)/\((decide ((-1:Int)>=(0:Int)))=false->zn F)))))))/\((decide (zd F<(↑zb:Int)))=false->aL.nil=zg)) (by kernel_rfl) ?_
 dsimp -iota -proj -eta only;refine fun h0=>⟨(⟨0,.zero _ _,⟨rfl,ba⟩,ba⟩),fun F q_0=>iL (fun h1=>⟨?a,ba,iB (fun h2=>(by rw[q_0.fault (by omega) (nf (eV _) h2)])) (fun h2=>iL (fun h3=>(by rw[q_0.out (by omega) (dE h2) (.inl (by omega))];rfl)) (fun h3 h4=>iE (fun h5=>(by rw[q_0.out (by omega) (dE h2) (.inr (by omega))];rfl)) (fun h5=>⟨?b,fun h6=>⟨(⟨0,⟨by omega,fun j hj=>by omega⟩,⟨rfl,ba⟩,ba⟩),fun I q_1=>iL (fun h7=>⟨?c,iQ (fun h8=>⟨fun h9=>(by rw[EB q_0.le]at h7;rw[EA (i:=F) (j:=I) (by omega)]at h8;rw[q_0.dup (by omega) (dE h2) (fun h=>h.elim (fun h=>absurd h (Int.not_lt.2 h3)) (fun h=>absurd h (Int.not_le.2 h5))) (Hi (t:=aS) (j:=I) (by omega) q_0.le (by simpa using h8))];rfl),fun h9=>absurd (show true=false from h9) (by decide)⟩) (fun h8 h9 h10=>⟨?d,(⟨I+1,⟨by omega,lV q_1.2 ‹_›⟩,by omega,⟨by omega,ba⟩,(by trivial)⟩)⟩)⟩) (fun h7=>⟨fun h8=>absurd (show false=true from h8) (by decide),fun h8 h9 h10=>⟨?e,(by have hx:=EB q_0.le;exact⟨F+1,q_0.next (by omega) (dE h2) (fun h=>h.elim (fun h=>absurd h (Int.not_lt.2 h3)) (fun h=>absurd h (Int.not_le.2 h5))) (Eo (t:=aS) fun j hj=>by have:=q_1.2 j (by omega);rw[EA hj]at this;simpa using this),by omega,⟨by omega,ba⟩,(by trivial)⟩)⟩⟩)⟩⟩)))⟩) (fun h1=>(by rw[q_0.done (by omega)];rfl))⟩
 case a|b|c=>omega
 case d|e=>simp only[aM,aN]at*;omega
def Tryz.Ku:bX Tryz.prog Tryz.B.eT Tryz.X 105 [aB] [.err] (fun _=>True) (fun x y=>y=(fun o=>aJ (ig o.2.1.length [] o.2.2.1)) x):=
 cG (X:=Tryz.X) Tryz.Q7 Tryz.func105 (by kernel_rfl) (fun x=>CV x) (fun x hw hp=>Kt x hw)
def Tryz.spZ21:Bool×aU:=(true,cD [.int .i64] [.bool] (fun _=>True) (fun n=>ie n))
def Tryz.LH:List (FuncId×(Bool×aU)):=[(45,Tryz.spZ0),(17,Tryz.spZ1),(104,Tryz.spZ21)]
def Tryz.Q8:bP Tryz.prog Tryz.B Tryz.X Tryz.LH:=
 aQ (aE Tryz.jn) (aQ (aE Tryz.ir) (aQ (aE Tryz.I3) (bR Tryz.bQ)))
def LI(o:D aB):dY:=[(0,fun st=>{X:=Nat,inv:=fun i=>nG o.2.1.length o.2.2.2.1 i,cB:=fun i=>o.2.2.2.1.length-i,bK:=fun i=>[(9,sI i)],keep:=[1,7,8]})]
def TK(o:D aB)(hw:gU [aB] o):(dM Tryz.B Tryz.LH Tryz.f106 (LI o) [aB] [.err] (fun x y=>y=(fun o=>aJ (kM o.2.1.length none o.2.2.2.1)) x) o).holds:=by
 refine holds_of (p:=
  let za:=o.2.2.2.1
  let zb:=bb za
  let zc:=bb o.2.1
  let zd:=fun(F:Nat)=>(↑F:Int)
  let ze:=fun(F:Nat)=>(nth bD za F).1
  let zf:=aJ (kM zc none za)
  let zg:=aL.no 1=zf
  let zh:=fun(F:Nat)=>(nth bD za F).2.1
  let zi:=aL.no 3=zf
  let zj:=fun(F:Nat)=>zd F-1
  let zk:=fun(F:Nat)=>aM (zd F)->aM 1->aM (zd F+1)/\∃(x':Nat),nG zc za x'/\zb-x'<zb-F/\(zd F+1=(↑x':Int)/\True)/\(o.1=o.1/\o.2.1=o.2.1/\o.2.2.1=o.2.2.1/\za=za/\True)/\True
  let zl:=fun(F:Nat)=>aJ (aP (nth bD za F).2.2.2.1)
  let zm:=fun(F:Nat)=>((zh F == 1)=true->((!(nth bD za F).2.2.2.1 == @bc UInt8)=true->zi)/\((!(nth bD za F).2.2.2.1 == @bc UInt8)=false->(((nth bD za F).2.2.2.2.1)=true->zi)/\(((nth bD za F).2.2.2.2.1)=false->zk F)))/\((zh F == 1)=false->True/\((!aL.isNil (zl F))=true->zl F=zf)/\((!aL.isNil (zl F))=false->zk F))
  zb<=aN->(∃(x:Nat),nG zc za x/\(0=(↑x:Int)/\True)/\True)/\∀F:Nat,nG zc za F->((decide (zd F<(↑zb:Int)))=true->(0<=zd F/\zd F<(↑zb:Int))/\((decide (ze F<0))=true->zg)/\((decide (ze F<0))=false->zc<=aN->((decide (ze F>=(↑zc:Int)))=true->zg)/\((decide (ze F>=(↑zc:Int)))=false->True/\((!ie (nth bD za F).2.2.1)=true->zg)/\((!ie (nth bD za F).2.2.1)=false->((decide (zh F<1))=true->zi)/\((decide (zh F<1))=false->((decide (zh F > 3))=true->zi)/\((decide (zh F > 3))=false->((decide (zd F > 0))=true->aM (zd F)->aM 1->aM (zj F)/\(0<=zj F/\zj F<(↑zb:Int))/\((decide ((nth bD za (bf (zj F))).1>=ze F))=true->zi)/\((decide ((nth bD za (bf (zj F))).1>=ze F))=false->zm F))/\((decide (zd F > 0))=false->zm F)))))))/\((decide (zd F<(↑zb:Int)))=false->aL.nil=zf)) (by kernel_rfl) ?_
 dsimp -iota -proj -eta only;refine fun h0=>⟨(⟨0,.zero _ _,⟨rfl,ba⟩,ba⟩),fun F q_0=>iL (fun h1=>⟨?a,iL (fun h2 =>?b) (fun h2 h3=>iE (fun h4 =>?c) (fun h4=>⟨ba,iB (fun h5 =>?d) (fun h5=>iL (fun h6 =>?e) (fun h6=>iL (fun h7 =>?f) (fun h7=>iL (fun h8 h9 h10=>⟨?g,?h,iE (fun h11 =>?i) (fun h11=>iQ (fun h12=>⟨fun h13 =>?j,fun h13=>⟨fun h14 =>?k,fun h14 h15 h16=>⟨?l,?m⟩⟩⟩) (fun h12=>⟨ba,iB (fun h13=>(by rw[q_0.fault (by omega) (f:=aP (nth bD o.2.2.2.1 F).2.2.2.1) (by unfold nc oz od;grind) (by have:=nf (eV _) h13;omega)])) (fun h13 h14 h15=>⟨?n,(by have:=aK.1 h13;exact⟨F+1,q_0.next (by omega) (by unfold nc oz od;grind),by omega,⟨by omega,ba⟩,(by trivial)⟩)⟩)⟩))⟩) (fun h8=>iQ (fun h9=>⟨fun h10 =>?o,fun h10=>⟨fun h11 =>?p,fun h11 h12 h13=>⟨?q,?r⟩⟩⟩) (fun h9=>⟨ba,iB (fun h10=>(by rw[q_0.fault (by omega) (f:=aP (nth bD o.2.2.2.1 F).2.2.2.1) (by unfold nc oz od;grind) (by have:=nf (eV _) h10;omega)])) (fun h10 h11 h12=>⟨?s,(by have:=aK.1 h10;exact⟨F+1,q_0.next (by omega) (by unfold nc oz od;grind),by omega,⟨by omega,ba⟩,(by trivial)⟩)⟩)⟩)))))⟩))⟩) (fun h1=>(by rw[q_0.done (by omega)];rfl))⟩
 case a|h=>omega
 case b|c|d=>rw[q_0.fault (by omega) (f:=1) (by unfold nc;grind) (by decide)];rfl
 case e|f|i=>rw[q_0.fault (by omega) (f:=3) (by unfold nc oz od;grind) (by decide)];rfl
 case g|n|s=>simp only[aM,aN]at*;omega
 case j|k=>
  simp only[bl,reduceCtorEq]at h13;rw[q_0.fault (by omega) (f:=3) (by unfold nc oz od;grind) (by decide)];rfl
 case l=>
  simp only[bl,reduceCtorEq]at h13;simp only[aM,aN]at*;omega
 case m=>
  simp only[bl,reduceCtorEq]at h13;exact⟨F+1,q_0.next (by omega) (by unfold nc oz od;grind),by omega,⟨by omega,ba⟩,(by trivial)⟩
 case o|p=>
  simp only[bl,reduceCtorEq]at h10;rw[q_0.fault (by omega) (f:=3) (by unfold nc oz od;grind) (by decide)];rfl
 case q=>
  simp only[bl,reduceCtorEq]at h10;simp only[aM,aN]at*;omega
 case r=>
  simp only[bl,reduceCtorEq]at h10;exact⟨F+1,q_0.next (by omega) (by unfold nc oz od;grind),by omega,⟨by omega,ba⟩,(by trivial)⟩
def Tryz.TL:bX Tryz.prog Tryz.B.eT Tryz.X 106 [aB] [.err] (fun _=>True) (fun x y=>y=(fun o=>aJ (kM o.2.1.length none o.2.2.2.1)) x):=
 cG (X:=Tryz.X) Tryz.Q8 Tryz.func106 (by kernel_rfl) (fun x=>LI x) (fun x hw hp=>TK x hw)
def Tryz.spZ22:Bool×aU:=(true,cD [.slice .str,.str] [.bool] (fun _=>True) (fun x=>x.1.any (· == x.2)))
def Tryz.FB:List (FuncId×(Bool×aU)):=[(45,Tryz.spZ0),(17,Tryz.spZ1),(36,Tryz.spZ22),(104,Tryz.spZ21),(105,(true,cD [aB] [.err] (fun _=>True) (fun o=>aJ (ig o.2.1.length [] o.2.2.1)))),(106,(true,cD [aB] [.err] (fun _=>True) (fun o=>aJ (kM o.2.1.length none o.2.2.2.1))))]
def Tryz.Kv:bP Tryz.prog Tryz.B Tryz.X Tryz.FB:=
 aQ (aE Tryz.jn) (aQ (aE Tryz.ir) (aQ (aE Tryz.xT) (aQ (aE Tryz.I3) (aQ (aE Tryz.Ku) (aQ (aE Tryz.TL) (bR Tryz.bQ))))))
def FC(o:D aB):dY:=[
 (0,fun st=>{X:=Nat,inv:=fun i=>j9 o.1 i,cB:=fun i=>o.1.length-i,bK:=fun i=>[(41,sI i)],keep:=[1,39,40]}),
 (2,fun st=>{X:=Nat,inv:=fun i=>ly o.2.1 i,cB:=fun i=>o.2.1.length-i,bK:=fun i=>[(62,sI i)],keep:=[1,60,61]})]
def Q9(o:D aB)(hw:gU [aB] o):(dM Tryz.B Tryz.FB Tryz.f83 (FC o) [aB] [.err] (fun x y=>y=(fun o=>aJ (cZ o)) x) o).holds:=by
 refine holds_of (p:=
  let za:=bb o.1
  let zb:=(↑za:Int)
  let zc:=aJ (cZ o)
  let zd:=aL.no (2:Int)=zc
  let ze:=o.2.1
  let zf:=bb ze
  let zg:=zf<=aN
  let zh:=(↑zf:Int)
  let zi:=o.2.2.1
  let zj:=o.2.2.2.1
  let zk:=fun(F:Nat)=>(↑F:Int)
  let zl:=fun(F:Nat)=>(0:Int)<=zk F
  let zm:=fun(F:Nat)=>aJ (aP (nth Ty.str o.1 F))
  let zn:=(o.1=o.1/\ze=ze/\zi=zi/\zj=zj/\True)/\True
  let zo:=aJ (ig zf (@bc (List UInt8×Int×Bool×Unit)) zi)
  za<=aN->((decide (zb > (4:Int)))=true->zd)/\((decide (zb > (4:Int)))=false->zg->((decide (zh<(1:Int)))=true->zd)/\((decide (zh<(1:Int)))=false->zg->((decide (zh > (40:Int)))=true->zd)/\((decide (zh > (40:Int)))=false->bb zi<=aN->((decide ((↑(bb zi):Int) > (8:Int)))=true->zd)/\((decide ((↑(bb zi):Int) > (8:Int)))=false->bb zj<=aN->((decide ((↑(bb zj):Int) > (6:Int)))=true->zd)/\((decide ((↑(bb zj):Int) > (6:Int)))=false->za<=aN->(∃(x:Nat),j9 o.1 x/\((0:Int)=(↑x:Int)/\True)/\True)/\∀F:Nat,j9 o.1 F->((decide (zk F<zb))=true->(zl F/\zk F<zb)/\True/\((!aL.isNil (zm F))=true->zm F=zc)/\((!aL.isNil (zm F))=false->((0:Int)<=(0:Int)/\zl F/\zk F<=zb)/\True/\((da (bj 0 (bd F o.1)) fun(x:List UInt8)=>x == nth Ty.str o.1 F)=true->aL.no (3:Int)=zc)/\((da (bj 0 (bd F o.1)) fun(x:List UInt8)=>x == nth Ty.str o.1 F)=false->aM (zk F)->aM (1:Int)->aM (zk F+(1:Int))/\∃(x':Nat),j9 o.1 x'/\za-x'<za-F/\(zk F+(1:Int)=(↑x':Int)/\True)/\zn)))/\((decide (zk F<zb))=false->zg->(∃(x:Nat),ly ze x/\((0:Int)=(↑x:Int)/\True)/\True)/\∀I:Nat,ly ze I->((decide (zk I<zh))=true->(zl I/\zk I<zh)/\True/\((!ie (nth (Ty.int bm) ze I))=true->aL.no (1:Int)=zc)/\((!ie (nth (Ty.int bm) ze I))=false->aM (zk I)->aM (1:Int)->aM (zk I+(1:Int))/\∃(x':Nat),ly ze x'/\zf-x'<zf-I/\(zk I+(1:Int)=(↑x':Int)/\True)/\zn))/\((decide (zk I<zh))=false->True/\((!aL.isNil zo)=true->zo=zc)/\((!aL.isNil zo)=false->True/\aJ (kM zf none zj)=zc))))))))) (by kernel_rfl) ?_
 dsimp -iota -proj -eta only;refine fun h0=>iL (fun h1 =>?a) (fun h1 h2=>iL (fun h3 =>?b) (fun h3 h4=>iL (fun h5 =>?c) (fun h5 h6=>iL (fun h7 =>?d) (fun h7 h8=>iL (fun h9 =>?e) (fun h9 h10=>⟨?f,fun F q_0=>iL (fun h11=>⟨?g,ba,iB (fun h12=>(by have hf:=nf (eV _) h12;rw[wZ (by unfold lY;omega) (q_0.fault (by omega) hf) (by omega)])) (fun h12=>⟨?h,ba,⟨fun h13=>(by rw[c6]at h13;rw[wZ (by unfold lY;omega) (q_0.dup (by omega) (dE h12) h13) (by decide)];rfl),fun h13 h14 h15=>⟨?i,(by rw[c6]at h13;exact⟨F+1,q_0.next (by omega) (dE h12) h13,by omega,⟨by omega,ba⟩,(by trivial)⟩)⟩⟩⟩)⟩) (fun h11 h12=>⟨?j,fun I q_1=>iL (fun h13=>⟨?k,ba,iB (fun h14=>(by rw[Hj (by unfold lY;omega) (q_0.done (by omega)) (q_1.fault (by omega) h14) (by decide)];rfl)) (fun h14 h15 h16=>⟨?l,(⟨I+1,q_1.next (by omega) h14,by omega,⟨by omega,ba⟩,(by trivial)⟩)⟩)⟩) (fun h13=>⟨ba,iB (fun h14=>(by have hf:=nf (wY _ _ _) h14;rw[JQ (by unfold lY;omega) (q_0.done (by omega)) (q_1.done (by omega)) rfl (by omega)])) (fun h14=>⟨ba,(by rw[JR (by unfold lY;omega) (q_0.done (by omega)) (q_1.done (by omega)) (aK.1 h14) rfl])⟩)⟩)⟩)⟩)))))
 case a|b|c|d|e=>rw[JP (by unfold lY;omega)];rfl
 case f|j=>exact⟨0,.zero _,⟨rfl,ba⟩,ba⟩
 case g|h|k=>omega
 case i|l=>simp only[aM,aN]at*;omega
def Tryz.Ra:bX Tryz.prog Tryz.B.eT Tryz.X 83 [aB] [.err] (fun _=>True) (fun x y=>y=(fun o=>aJ (cZ o)) x):=
 cG (X:=Tryz.X) Tryz.Kv Tryz.func83 (by kernel_rfl) (fun x=>FC x) (fun x hw hp=>Q9 x hw)
def N2(b:Bool)(hw:gU [.bool] b):(dM Tryz.B [] Tryz.f86 [] [.bool] [.str] (fun x y=>y=(fun b=>iK b) x) b).holds:=by
 refine holds_of (p:=
  (b=true->[119,101,97,107,32]=iK b)/\(b=false->(@bc UInt8=iK b))) (by kernel_rfl) ?_
 refine⟨fun h0 =>?a,fun h0 =>?b⟩
 case a|b=>cases b <;> first|rfl|simp_all
def Tryz.N3:bX Tryz.prog Tryz.B.eT Tryz.X 86 [.bool] [.str] (fun _=>True) (fun x y=>y=(fun b=>iK b) x):=
 cG (X:=Tryz.X) (bR Tryz.bQ) Tryz.func86 (by kernel_rfl) (fun _=>[]) (fun x hw hp=>N2 x hw)
def Tryz.I5:List (FuncId×(Bool×aU)):=[(45,Tryz.spZ0),(17,Tryz.spZ1),(85,(false,rU 169 5)),(88,(false,qD 169 5)),(87,(true,wN 169 5)),(84,Tryz.spZ2),(83,(true,cD [aB] [.err] (fun _=>True) (fun o=>aJ (cZ o)))),(86,(true,cD [.bool] [.str] (fun _=>True) (fun b=>iK b)))]
def Tryz.N4:bP Tryz.prog Tryz.B Tryz.X Tryz.I5:=
 aQ (aE Tryz.jn) (aQ (aE Tryz.ir) (aQ (Tryz.z6) (aQ (Tryz.xM) (aQ (Tryz.Fj) (aQ (aE Tryz.oO) (aQ (aE Tryz.Ra) (aQ (aE Tryz.N3) (bR Tryz.bQ))))))))
def I6(o:D aB):dY:=[
 (0,fun st=>{X:=Nat,inv:=fun i=>i<=o.1.length,cB:=fun i=>o.1.length-i,bK:=fun i=>[(23,sI i)],keep:=[1,2,3,5,6,21,22],aF:=fun i=>[(bF st 5,.ext 2 kv (bJ (pw o i),(169:Int),(5:Int),()))],gP:=[bF st 5]}),
 (2,fun st=>{X:=Nat,inv:=fun i=>i<=o.2.1.length,cB:=fun i=>o.2.1.length-i,bK:=fun i=>[(35,sI i)],keep:=[1,2,3,5,6,33,34],aF:=fun i=>[(bF st 5,.ext 2 kv (bJ (nR o i),(169:Int),(5:Int),()))],gP:=[bF st 5]}),
 (4,fun st=>{X:=Nat,inv:=fun i=>i<=o.2.2.1.length,cB:=fun i=>o.2.2.1.length-i,bK:=fun i=>[(49,sI i)],keep:=[1,2,3,5,6,47,48],aF:=fun i=>[(bF st 5,.ext 2 kv (bJ (nS o i),(169:Int),(5:Int),()))],gP:=[bF st 5]}),
 (6,fun st=>{X:=Nat,inv:=fun i=>i<=o.2.2.2.1.length,cB:=fun i=>o.2.2.2.1.length-i,bK:=fun i=>[(72,sI i)],keep:=[2,3,5,6,70,71],aF:=fun i=>[(bF st 5,.ext 2 kv (bJ (jz o i),(169:Int),(5:Int),()))],gP:=[bF st 5]})]
def TM(o:D aB)(hw:gU [aB] o):(dM (lU Tryz.B [41,64,91,85,104,110,123,129]) Tryz.I5 Tryz.f54 (I6 o) [aB] [.str,.err] (fun x y=>y=(fun o=>ko o) x) o).holds:=by
 refine holds_of (p:=
  let za:=aJ (cZ o)
  let zb:=ko o
  let zc:=bb o.1
  let zd:=(↑(169:Nat):Int)
  let ze:=fun(b:UInt8)=>(↑(b6 b):Int)
  let zf:=((169:Int),(5:Int),())
  let zg:=fun(F:Nat)=>(↑F:Int)
  let zh:=fun(F:Nat)=>(0:Int)<=zg F
  let zi:=[(110:UInt8),101,101,100,32]
  let zj:=[(10:UInt8)]
  let zk:=bb zj
  let zl:=(169:Int)=zd
  let zm:=(↑(5:Nat):Int)
  let zn:=(5:Int)=zm
  let zo:=fun(F:Nat)=>bo ze (pw o F)
  let zp:=fun(F:Nat)=>zi++nth Ty.str o.1 F++zj
  let zq:=fun(F:Nat)=>aM (zg F)
  let zr:=aM (1:Int)
  let zs:=fun(F:Nat)=>zg F+(1:Int)
  let zt:=fun(F:Nat)=>aM (zs F)
  let zu:=(zd,zm,())
  let zv:=o.2.1
  let zw:=o.2.2.1
  let zx:=o.2.2.2.1
  let zy:=(o.1=o.1/\zv=zv/\zw=zw/\zx=zx/\True)/\True
  let zz:=bb zv
  let zaa:=[(119:UInt8),111,114,100,32]
  let zab:=fun(I:Nat)=>zaa++bp (nth (Ty.int bm) zv I)
  let zac:=fun(I:Nat)=>bo ze (nR o I)
  let zad:=bb zw
  let zae:=fun(G:Nat)=>iK (nth aS zw G).2.2.1
  let zaf:=[(115:UInt8),121,109,98,111,108,32]
  let zag:=fun(G:Nat)=>zae G++zaf++(nth aS zw G).1
  let zah:=[(32:UInt8)]
  let zai:=bb zah
  let zaj:=fun(G:Nat)=>bp (nth aS zw G).2.1
  let zak:=fun(G:Nat)=>bo ze (nS o G)
  let zal:=fun(G:Nat)=>zag G++zah++zaj G++zj
  let zam:=bb zx
  let zan:=[(98:UInt8),97,115,101,32]
  let zao:=fun(K:Nat)=>bp (nth bD zx K).1
  let zap:=fun(K:Nat)=>bp (nth bD zx K).2.2.1
  let zaq:=fun(K:Nat)=>zan++zao K++zah++zap K
  let zar:=fun(K:Nat)=>bo ze (jz o K)
  let zas:=fun(K:Nat)=>bb (zar K)
  let zat:=fun(K:Nat)=>iK (nth bD zx K).2.2.2.2.1
  let zau:=[(119:UInt8),104,111,108,101,32]
  let zav:=fun(K:Nat)=>zat K++zau++zao K++zah
  let zaw:=fun(K:Nat)=>(nth bD zx K).2.2.2.1
  let zax:=fun(K:Nat)=>zav K++zap K++zah++zaw K
  let zay:=[(110:UInt8),101,97,114,32]
  let zaz:=fun(K:Nat)=>zat K++zay++zao K++zah
  let zba:=fun(K:Nat)=>zaz K++zap K++zah++zaw K
  True/\((!aL.isNil za)=true->([],za)=zb)/\((!aL.isNil za)=false->zc<=aN->(∃(x:Nat),x<=zc/\((0:Int)=(↑x:Int)/\True)/\([],zd,(↑(5:TypeId):Int),())=(bo ze (pw o x),zf)/\True)/\∀F:Nat,F<=zc->((decide (zg F<(↑zc:Int)))=true->(zh F/\zg F<(↑zc:Int))/\bb zi+bb (nth Ty.str o.1 F)<=aN/\bb (zi++nth Ty.str o.1 F)+zk<=aN/\(zl/\zn/\bb (zo F)+bb (zp F)<=(140737488355328:Nat))/\(zq F->zr->zt F/\∃(x':Nat),x'<=zc/\zc-x'<zc-F/\(zs F=(↑x':Int)/\True)/\(zo F++bo ze (zp F),zu)=(bo ze (pw o x'),zf)/\zy))/\((decide (zg F<(↑zc:Int)))=false->zz<=aN->(∃(x:Nat),x<=zz/\((0:Int)=(↑x:Int)/\True)/\(zo F,zf)=(bo ze (nR o x),zf)/\True)/\∀I:Nat,I<=zz->((decide (zg I<(↑zz:Int)))=true->(zh I/\zg I<(↑zz:Int))/\True/\bb zaa+bb (bp (nth (Ty.int bm) zv I))<=aN/\bb (zab I)+zk<=aN/\(zl/\zn/\bb (zac I)+bb (zab I++zj)<=(140737488355328:Nat))/\(zq I->zr->zt I/\∃(x':Nat),x'<=zz/\zz-x'<zz-I/\(zs I=(↑x':Int)/\True)/\(zac I++bo ze (zab I++zj),zu)=(bo ze (nR o x'),zf)/\zy))/\((decide (zg I<(↑zz:Int)))=false->zad<=aN->(∃(x:Nat),x<=zad/\((0:Int)=(↑x:Int)/\True)/\(zac I,zf)=(bo ze (nS o x),zf)/\True)/\∀G:Nat,G<=zad->((decide (zg G<(↑zad:Int)))=true->(zh G/\zg G<(↑zad:Int))/\True/\bb (zae G)+bb zaf<=aN/\bb (zae G++zaf)+bb (nth aS zw G).1<=aN/\bb (zag G)+zai<=aN/\True/\bb (zag G++zah)+bb (zaj G)<=aN/\bb (zag G++zah++zaj G)+zk<=aN/\(zl/\zn/\bb (zak G)+bb (zal G)<=(140737488355328:Nat))/\(zq G->zr->zt G/\∃(x':Nat),x'<=zad/\zad-x'<zad-G/\(zs G=(↑x':Int)/\True)/\(zak G++bo ze (zal G),zu)=(bo ze (nS o x'),zf)/\zy))/\((decide (zg G<(↑zad:Int)))=false->zam<=aN->(∃(x:Nat),x<=zam/\((0:Int)=(↑x:Int)/\True)/\(zak G,zf)=(bo ze (jz o x),zf)/\True)/\∀K:Nat,K<=zam->((decide (zg K<(↑zam:Int)))=true->(zh K/\zg K<(↑zam:Int))/\(((nth bD zx K).2.1 == (1:Int))=true->True/\bb zan+bb (zao K)<=aN/\bb (zan++zao K)+zai<=aN/\True/\bb (zan++zao K++zah)+bb (zap K)<=aN/\bb (zaq K)+zk<=aN/\(zl/\zn/\zas K+bb (zaq K++zj)<=(140737488355328:Nat))/\(zq K->zr->zt K/\∃(x':Nat),x'<=zam/\zam-x'<zam-K/\(zs K=(↑x':Int)/\True)/\(zar K++bo ze (zaq K++zj),zu)=(bo ze (jz o x'),zf)/\zy))/\(((nth bD zx K).2.1 == (1:Int))=false->(((nth bD zx K).2.1 == (2:Int))=true->True/\bb (zat K)+bb zau<=aN/\True/\bb (zat K++zau)+bb (zao K)<=aN/\bb (zat K++zau++zao K)+zai<=aN/\True/\bb (zav K)+bb (zap K)<=aN/\bb (zav K++zap K)+zai<=aN/\bb (zav K++zap K++zah)+bb (zaw K)<=aN/\bb (zax K)+zk<=aN/\(zl/\zn/\zas K+bb (zax K++zj)<=(140737488355328:Nat))/\(zq K->zr->zt K/\∃(x':Nat),x'<=zam/\zam-x'<zam-K/\(zs K=(↑x':Int)/\True)/\(zar K++bo ze (zax K++zj),zu)=(bo ze (jz o x'),zf)/\zy))/\(((nth bD zx K).2.1 == (2:Int))=false->True/\bb (zat K)+bb zay<=aN/\True/\bb (zat K++zay)+bb (zao K)<=aN/\bb (zat K++zay++zao K)+zai<=aN/\True/\bb (zaz K)+bb (zap K)<=aN/\bb (zaz K++zap K)+zai<=aN/\bb (zaz K++zap K++zah)+bb (zaw K)<=aN/\bb (zba K)+zk<=aN/\(zl/\zn/\zas K+bb (zba K++zj)<=(140737488355328:Nat))/\(zq K->zr->zt K/\∃(x':Nat),x'<=zam/\zam-x'<zam-K/\(zs K=(↑x':Int)/\True)/\(zar K++bo ze (zba K++zj),zu)=(bo ze (jz o x'),zf)/\zy))))/\((decide (zg K<(↑zam:Int)))=false->(zl/\zn)/\((decide ((↑(zas K):Int) > (1200:Int)))=true->([],aL.no (2:Int))=zb)/\((decide ((↑(zas K):Int) > (1200:Int)))=false->(zl/\zn)/\(bytesOf (zar K),aL.nil)=zb))))))) (by kernel_rfl) ?_
 dsimp -iota -proj -eta only;refine⟨ba,iB (fun h0=>(by rw[EF (fun e=>by rw[aK.2 e]at h0;cases h0)])) (fun h0 h1=>⟨(⟨0,by omega,⟨rfl,ba⟩,rfl,ba⟩),fun F q_0=>iL (fun h2=>⟨?a,?b,?c,?d,fun h3 h4=>⟨?e,(⟨F+1,by omega,by omega,⟨by omega,ba⟩,oL (Pn (by omega)),(by trivial)⟩)⟩⟩) (fun h2 h3=>⟨(⟨0,by omega,⟨rfl,ba⟩,AM (by rw[Pq,show F=o.1.length by omega]),ba⟩),fun I q_1=>iL (fun h4=>⟨?f,ba,?g,?h,?i,fun h5 h6=>⟨?j,(⟨I+1,by omega,by omega,⟨by omega,ba⟩,oL (Po (by omega)),(by trivial)⟩)⟩⟩) (fun h4 h5=>⟨(⟨0,by omega,⟨rfl,ba⟩,AM (by rw[Pr,show I=o.2.1.length by omega]),ba⟩),fun G q_2=>iL (fun h6=>⟨?k,ba,?l,?m,?n,ba,?o,?p,?q,fun h7 h8=>⟨?r,(⟨G+1,by omega,by omega,⟨by omega,ba⟩,oL (Pp (by omega)),(by trivial)⟩)⟩⟩) (fun h6 h7=>⟨(⟨0,by omega,⟨rfl,ba⟩,AM (by rw[Ps,show G=o.2.2.1.length by omega]),ba⟩),fun K q_3=>iL (fun h8=>⟨?s,iQ (fun h9=>⟨ba,?t,?u,ba,?v,?w,?x,fun h10 h11=>⟨?y,(⟨K+1,by omega,by omega,⟨by omega,ba⟩,oL (MI (by omega) h9),(by trivial)⟩)⟩⟩) (fun h9=>iQ (fun h10=>⟨ba,?z,ba,?a0,?a1,ba,?a2,?a3,?a4,?a5,?a6,fun h11 h12=>⟨?a7,(⟨K+1,by omega,by omega,⟨by omega,ba⟩,oL (MJ (by omega) h9 h10),(by trivial)⟩)⟩⟩) (fun h10=>⟨ba,?a8,ba,?a9,?aa,ba,?ab,?ac,?ad,?ae,?af,fun h11 h12=>⟨?ag,(⟨K+1,by omega,by omega,⟨by omega,ba⟩,oL (MK (by omega) h9 h10),(by trivial)⟩)⟩⟩))⟩) (fun h8=>⟨?ah,iL (fun h9=>(by rw[Ca (aK.1 h0) (show K=_ by omega) (by simp only[bz]at h9;omega)])) (fun h9=>⟨?ai,(by rw[u7 (aK.1 h0) (show K=_ by omega) (by simp only[bz]at h9;omega)];exact congrArg (·,aL.nil) (uX _))⟩)⟩)⟩)⟩)⟩)⟩)⟩
 case a|f|k|s=>omega
 case b|c=>have a:=ED (ng (aK.1 h0)) (i:=F) (by omega);simp only[bt,bx,b3,bz,aN];omega
 case d|i|q|x|a6|af=>exact⟨rfl,rfl,by first|(have a:=HB (ng (aK.1 h0)) (i:=K) (by omega);simp only[bt,bx,b3,bz,aN];omega)|(have a:=HA (ng (aK.1 h0)) (i:=G) (by omega);simp only[bt,bx,b3,bz,aN];omega)|(have a:=EE (ng (aK.1 h0)) (i:=I) (by omega);simp only[bt,bx,b3,bz,aN];omega)|(have a:=ED (ng (aK.1 h0)) (i:=F) (by omega);simp only[bt,bx,b3,bz,aN];omega)⟩
 case e|j|r|y|a7|ag=>simp only[aM,aN]at*;omega
 case g|h=>have a:=EE (ng (aK.1 h0)) (i:=I) (by omega);simp only[bt,bx,b3,bz,aN];omega
 case l|m|n|o|p=>have a:=HA (ng (aK.1 h0)) (i:=G) (by omega);simp only[bt,bx,b3,bz,aN];omega
 case t|u|v|w|z|a0|a1|a2|a3|a4|a5|a8|a9|aa|ab|ac|ad|ae=>have a:=HB (ng (aK.1 h0)) (i:=K) (by omega);simp only[bt,bx,b3,bz,aN];omega
 case ah|ai=>trivial
def Tryz.TN:bX Tryz.prog Tryz.B.eT Tryz.X 54 [aB] [.str,.err] (fun _=>True) (fun x y=>y=(fun o=>ko o) x):=
 cG (B:=(lU Tryz.B [41,64,91,85,104,110,123,129])) (X:=Tryz.X) (bP.hint (l:=[41,64,91,85,104,110,123,129]) Tryz.N4) Tryz.func54 (by kernel_rfl) (fun x=>I6 x) (fun x hw hp=>TM x hw)
def Tryz.I7:List (FuncId×(Bool×aU)):=[(84,Tryz.spZ2),(103,Tryz.spZ14),(81,Tryz.spZ15),(52,Tryz.spZ16),(51,Tryz.spZ17),(54,(true,cD [aB] [.str,.err] (fun _=>True) (fun o=>ko o))),(53,(false,aZ Tryz.oX [.obj 0,.d .str,.obj 5] (fun a x=>a.1.length<=1000000/\x.2.1.length<=1000000/\x.2.2.1.length<=1000000/\x.2.2.2.1.length<=1000000/\x.2.2.2.2.1.length<=1000000) Tryz.Bf))]
def Tryz.N5:bP Tryz.prog Tryz.B Tryz.X Tryz.I7:=
 aQ (aE Tryz.oO) (aQ (aE Tryz.se) (aQ (aE Tryz.nu) (aQ (aE Tryz.my) (aQ (aE Tryz.sf) (aQ (aE Tryz.TN) (aQ (Tryz.TI) (bR Tryz.bQ)))))))
def I8(s:List UInt8):dY:=[(200000,fun st=>{X:=Nat×D aB×Bool,inv:=fun x=>lD (parts 10 (br s [10])) x.1 x.2.1 x.2.2,cB:=fun x=>bb (parts 10 (br s [10]))-x.1,bK:=fun x=>[(19,sI x.1)],keep:=[0,2,3,4,5,17,18],aO:=Tryz.oX,refs:=[(4,0),(5,5)],pd:=fun x=>PG x.2})]
def Rb(s:List UInt8)(hw:gU [.str] s):(dM Tryz.B Tryz.I7 Tryz.f35 (I8 s) [.str] [aB,.err] (fun x y=>y=(fun s=>oe s) x) s).holds:=by
 refine holds_of (p:=
  let za:=([],[],[],[],())
  let zb:=oe s
  let zc:=br s [(10:UInt8)]
  let zd:=parts (10:UInt8) zc
  let ze:=@bc (List UInt8)=@bc (List UInt8)
  let zf:=@bc Int=@bc Int
  let zg:=@bc (List UInt8×Int×Bool×Unit)=@bc (List UInt8×Int×Bool×Unit)
  let zh:=@bc (Int×Int×Int×List UInt8×Bool×Unit)=@bc (Int×Int×Int×List UInt8×Bool×Unit)
  let zi:=List UInt8
  let zj:=Nat×(List zi×List Int×List (zi×Int×Bool×Unit)×List (Int×Int×Int×zi×Bool×Unit)×Unit)×Bool
  let zk:=(ze/\zf/\zg/\zh/\True)/\zh/\zg/\zf/\ze/\True
  let zl:=!false
  let zm:=(zl&&(zl&&(zl&&(zl&&(zl&&true)))))=true
  let zn:=fun(F:Nat×(List (List UInt8)×List Int×List (List UInt8×Int×Bool×Unit)×List (Int×Int×Int×List UInt8×Bool×Unit)×Unit)×Bool)=>(↑F.1:Int)<(↑(bb zd):Int)
  let zo:=fun(F:Nat×(List (List UInt8)×List Int×List (List UInt8×Int×Bool×Unit)×List (Int×Int×Int×List UInt8×Bool×Unit)×Unit)×Bool)=>F.2.1.2.2.1
  let zp:=fun(F:Nat×(List (List UInt8)×List Int×List (List UInt8×Int×Bool×Unit)×List (Int×Int×Int×List UInt8×Bool×Unit)×Unit)×Bool)=>F.2.1.2.2.2.1
  let zq:=fun(F:Nat×(List (List UInt8)×List Int×List (List UInt8×Int×Bool×Unit)×List (Int×Int×Int×List UInt8×Bool×Unit)×Unit)×Bool)=>gG (SI ((),F.2.1.1,F.2.1.2.1,zo F,zp F,(F.2.2,()),())) F.2.2 (nth Ty.str zd F.1)
  let zr:=fun(F:Nat×(List (List UInt8)×List Int×List (List UInt8×Int×Bool×Unit)×List (Int×Int×Int×List UInt8×Bool×Unit)×Unit)×Bool)=>(zq F).1.2.2.2.1
  let zs:=(za,aL.no 4)=zb
  bb s<=aN->((decide ((↑(bb s):Int) > 1200))=true->(za,aL.no 2)=zb)/\((decide ((↑(bb s):Int) > 1200))=false->True/\(bb zc<4294967281/\bb [(10:UInt8)]=1)/\(bb zd<=aN->(ze/\zf/\zg/\zh/\∃(x':zj),lD zd (bh x') (bg x').1 (bg x').2/\True/\(0=(↑(bh x'):Int)/\True)/\zk/\zm/\((),[],[],[],[],(false,()),())=PG (bg x'))/\∀F:Nat×(List (List UInt8)×List Int×List (List UInt8×Int×Bool×Unit)×List (Int×Int×Int×List UInt8×Bool×Unit)×Unit)×Bool,lD zd F.1 F.2.1 F.2.2->((decide (zn F))=true->(0<=(↑F.1:Int)/\zn F)/\F.2.1.1=F.2.1.1/\F.2.1.2.1=F.2.1.2.1/\zo F=zo F/\zp F=zp F/\(bb (nth Ty.str zd F.1)<=1000000/\bb F.2.1.1<=1000000/\bb F.2.1.2.1<=1000000/\bb (zo F)<=1000000/\bb (zp F)<=1000000)/\(True->aM (↑F.1:Int)->aM 1->aM ((↑F.1:Int)+1)/\(zq F).1.1=(zq F).1.1/\(zq F).1.2.1=(zq F).1.2.1/\(zq F).1.2.2.1=(zq F).1.2.2.1/\zr F=zr F/\∃(x':zj),lD zd (bh x') (bg x').1 (bg x').2/\bb zd-bh x'<bb zd-F.1/\((↑F.1:Int)+1=(↑(bh x'):Int)/\True)/\zk/\zm/\((),(zq F).1.1,(zq F).1.2.1,(zq F).1.2.2.1,zr F,((zq F).2,()),())=PG (bg x')))/\((decide (zn F))=false->True/\((F.2.2)=true->zs)/\((F.2.2)=false->((!aL.isNil (ko F.2.1).2)=true->zs)/\((!aL.isNil (ko F.2.1).2)=false->((!(ko F.2.1).1 == s)=true->zs)/\((!(ko F.2.1).1 == s)=false->(F.2.1,aL.nil)=zb))))))) (by kernel_rfl) ?_
 dsimp -iota -proj -eta only;refine fun h0=>iL (fun h1=>(M4 (by omega))) (fun h1=>⟨ba,(by have:=yw s [10];exact⟨by omega,rfl⟩),fun h2=>⟨(⟨rfl,rfl,rfl,rfl,(0,bV aB,false),lD.zero _,ba,⟨rfl,ba⟩,⟨⟨rfl,rfl,rfl,rfl,ba⟩,rfl,rfl,rfl,rfl,ba⟩,rfl,rfl⟩),fun F q_0=>iL (fun h3=>⟨(by omega),rfl,rfl,rfl,rfl,?a,fun h4 h5 h6=>⟨(by simp only[aM,aN]at*;omega),(by exact⟨rfl,rfl,rfl,rfl,(F.1+1,gG F.2.1 F.2.2 (nth .str (parts 10 (br s [10])) F.1)),q_0.next (by omega),by simp only;omega,⟨by simp only;omega,ba⟩,(by trivial),rfl,rfl⟩)⟩⟩) (fun h3=>⟨ba,⟨fun h4=>(xw q_0 (by omega) (by omega) (.inl h4)),fun h4=>iB (fun h5=>(xw q_0 (by omega) (by omega) (.inr (.inl h5)))) (fun h5=>⟨fun h6 =>?b,fun h6 =>?c⟩)⟩⟩)⟩⟩)
 case a=>
  have hf:=PI s (by omega);have a0:=q_0.le;have a1:=q_0.l1;have a2:=q_0.l2;have a3:=q_0.l3;have a4:=q_0.l4;exact⟨b4 (M5 (by omega) _) (by decide),by omega,by omega,by omega,by omega⟩
 case b=>
  simp only[bl,reduceCtorEq]at h6;exact xw q_0 (by omega) (by omega) (.inr (.inr h6))
 case c=>
  simp only[bl,reduceCtorEq]at h6;exact SK (by omega) ‹aL.isNil _=true› h6
def Tryz.FD:bX Tryz.prog Tryz.B.eT Tryz.X 35 [.str] [aB,.err] (fun _=>True) (fun x y=>y=(fun s=>oe s) x):=
 cG (X:=Tryz.X) Tryz.N5 Tryz.func35 (by kernel_rfl) (fun x=>I8 x) (fun x hw hp=>Rb x hw)
def Tryz.spZ23:Bool×aU:=(false,aZ Tryz.aW [.obj 0,.d .str] (fun _ _=>True) Tryz.xS)
def Tryz.spZ24:Bool×aU:=(true,cD [.str] [aB,.err] (fun _=>True) (fun s=>oe s))
def Tryz.Rc:List (FuncId×(Bool×aU)):=[(13,Tryz.spZ23),(35,Tryz.spZ24),(36,Tryz.spZ22)]
def Tryz.TO:bP Tryz.prog Tryz.B Tryz.X Tryz.Rc:=
 aQ (Tryz.p5) (aQ (aE Tryz.FD) (aQ (aE Tryz.xT) (bR Tryz.bQ)))
def Tryz.Re(s:List UInt8)(f:cH):dY:=[
 (0,fun st=>{X:=Nat×List (List UInt8)×List (D aB),inv:=fun y=>kY (aG f) s y.1 y.2.1 y.2.2,cB:=fun y=>7-y.1,bK:=fun y=>[(9,sI y.1),(7,.s (.one (.app .str y.2.1 (bF st 7)))),(8,.s (.one (.app aB y.2.2 (bF st 8))))],aF:=fun y=>[(bF st 7,.tok .str y.2.1),(bF st 8,.tok aB y.2.2)],keep:=[0],gP:=[bF st 7,bF st 8]}),
 (2,fun st=>{X:=Nat,inv:=fun k=>k<=bb (cO (.slice .str) st 50),cB:=fun k=>bb (cO (.slice .str) st 50)-k,bK:=fun k=>[(52,sI k),(7,.s (.one (.app .str (gB (cO (.slice .str) st 7) (bd k (cO (.slice .str) st 50))) (bF st 7))))],aF:=fun k=>[(bF st 7,.tok .str (gB (cO (.slice .str) st 7) (bd k (cO (.slice .str) st 50))))],keep:=[0,4,5,6,8,9,10,12,13,18,19,20,21,24,25,26,27,28,29,30,31,32,33,34,35,36,37,38,39,40,41,42,43,44,45,46,47,48,49,50,51],gP:=[bF st 7]})]
def Tryz.DN:List (Alt Tryz.aW [.obj 0,.d .str]):=[{bN:=Tryz.aW,res:=[.d (.slice .str),.d (.slice aB),.d .err],out:=fun _ x=>x,ret:=fun a x=>((aT (aG x) a.1).1,(aT (aG x) a.1).2.1,aJ (aT (aG x) a.1).2.2,())}]
def Ky(s:List UInt8)(f:cH)(hw:gV [.obj 0,.d .str] (s,()))(hp:(fun _ x=>x.2.1.1.length<=6) (s,()) f):(cY (lU Tryz.B [17]) Tryz.Rc Tryz.f12 (Tryz.Re s f) Tryz.aW [.obj 0,.d .str] Tryz.DN (s,()) f).holds:=by
 refine holds_of (p:=
  let za:=List UInt8
  let zb:=Nat×List za×List (List za×List Int×List (za×Int×Bool×Unit)×List (Int×Int×Int×za×Bool×Unit)×Unit)
  let zc:=aG f
  let zd:=fun(F:Nat×List (List UInt8)×List (List (List UInt8)×List Int×List (List UInt8×Int×Bool×Unit)×List (Int×Int×Int×List UInt8×Bool×Unit)×Unit))=>(↑F.1:Int)<(↑(bb F.2.1):Int)
  let ze:=fun(F:Nat×List (List UInt8)×List (List (List UInt8)×List Int×List (List UInt8×Int×Bool×Unit)×List (Int×Int×Int×List UInt8×Bool×Unit)×Unit))=>aG f (nth Ty.str F.2.1 F.1)
  let zf:=aT zc s
  let zg:=(zf.1,zf.2.1,aJ zf.2.2,())
  let zh:=fun(F:Nat×List (List UInt8)×List (List (List UInt8)×List Int×List (List UInt8×Int×Bool×Unit)×List (Int×Int×Int×List UInt8×Bool×Unit)×Unit))=>(cV (ze F).1).1.1
  let zi:=fun(F:Nat×List (List UInt8)×List (List (List UInt8)×List Int×List (List UInt8×Int×Bool×Unit)×List (Int×Int×Int×List UInt8×Bool×Unit)×Unit))=>bb (zh F)
  let zj:=fun(F:Nat×List (List UInt8)×List (List (List UInt8)×List Int×List (List UInt8×Int×Bool×Unit)×List (Int×Int×Int×List UInt8×Bool×Unit)×Unit)) (I:Nat)=>gB F.2.1 (bd I (zh F))
  let zk:=aM 1
  let zl:=fun(I:Nat)=>(↑I:Int)+1
  let zm:=@bc (List UInt8)=@bc (List UInt8)
  let zn:=C.eM 1=C.eM 1/\f.1.1=f.1.1/\True
  let zo:=f.2.1=f.2.1
  let zp:=fun(F:Nat×List (List UInt8)×List (List (List UInt8)×List Int×List (List UInt8×Int×Bool×Unit)×List (Int×Int×Int×List UInt8×Bool×Unit)×Unit))=>F.2.2++[(cV (ze F).1).1]
  let zq:=@bc (List (List UInt8)×List Int×List (List UInt8×Int×Bool×Unit)×List (Int×Int×Int×List UInt8×Bool×Unit)×Unit)=@bc (List (List UInt8)×List Int×List (List UInt8×Int×Bool×Unit)×List (Int×Int×Int×List UInt8×Bool×Unit)×Unit)
  let zr:=fun(F:Nat×List (List UInt8)×List (List (List UInt8)×List Int×List (List UInt8×Int×Bool×Unit)×List (Int×Int×Int×List UInt8×Bool×Unit)×Unit))=>(zh F=zh F/\(cV (ze F).1).1.2.1=(cV (ze F).1).1.2.1/\(cV (ze F).1).1.2.2.1=(cV (ze F).1).1.2.2.1/\(cV (ze F).1).1.2.2.2.1=(cV (ze F).1).1.2.2.2.1/\True)/\@bc (Int×Int×Int×List UInt8×Bool×Unit)=@bc (Int×Int×Int×List UInt8×Bool×Unit)/\@bc (List UInt8×Int×Bool×Unit)=@bc (List UInt8×Int×Bool×Unit)/\@bc Int=@bc Int/\zm/\zn/\zo/\zp F=zp F/\zq/\zm/\True
  (∃(x:zb),kY zc s (bh x) (bg x).1 (bg x).2/\(0=(↑(bh x):Int)/\[s]=(bg x).1/\@bc (List (List UInt8)×List Int×List (List UInt8×Int×Bool×Unit)×List (Int×Int×Int×List UInt8×Bool×Unit)×Unit)=(bg x).2/\True)/\[s]=(bg x).1/\@bc (List (List UInt8)×List Int×List (List UInt8×Int×Bool×Unit)×List (Int×Int×Int×List UInt8×Bool×Unit)×Unit)=(bg x).2/\True)/\∀F:Nat×List (List UInt8)×List (List (List UInt8)×List Int×List (List UInt8×Int×Bool×Unit)×List (Int×Int×Int×List UInt8×Bool×Unit)×Unit),kY zc s F.1 F.2.1 F.2.2->bb F.2.1<=aN->((decide (zd F))=true->(0<=(↑F.1:Int)/\zd F)/\True/\(True->((!aL.isNil (aJ (ze F).2.2))=true->True/\f=f/\([],[],aJ (ze F).2.2,())=zg)/\((!aL.isNil (aJ (ze F).2.2))=false->True/\((!aL.isNil (aJ (cV (ze F).1).2))=true->True/\f=f/\([],[],aJ (cV (ze F).1).2,())=zg)/\((!aL.isNil (aJ (cV (ze F).1).2))=false->(F.2.2=F.2.2/\bb F.2.2+bb [(cV (ze F).1).1]<=1000000000)/\(zi F<=aN->(∃(x:Nat),x<=zi F/\(0=(↑x:Int)/\F.2.1=gB F.2.1 (bd x (zh F))/\True)/\F.2.1=gB F.2.1 (bd x (zh F))/\True)/\∀I:Nat,I<=zi F->((decide ((↑I:Int)<(↑(zi F):Int)))=true->(0<=(↑I:Int)/\(↑I:Int)<(↑(zi F):Int))/\True/\((!da (zj F I) fun(x:za)=>x == nth Ty.str (zh F) I)=true->(zj F I=zj F I/\bb (zj F I)+bb [nth Ty.str (zh F) I]<=1000000000)/\(aM (↑I:Int)->zk->aM (zl I)/\∃(x':Nat),x'<=zi F/\zi F-x'<zi F-I/\(zl I=(↑x':Int)/\zj F I++[nth Ty.str (zh F) I]=gB F.2.1 (bd x' (zh F))/\True)/\zj F I++[nth Ty.str (zh F) I]=gB F.2.1 (bd x' (zh F))/\zr F))/\((!da (zj F I) fun(x:za)=>x == nth Ty.str (zh F) I)=false->aM (↑I:Int)->zk->aM (zl I)/\∃(x':Nat),x'<=zi F/\zi F-x'<zi F-I/\(zl I=(↑x':Int)/\zj F I=gB F.2.1 (bd x' (zh F))/\True)/\zj F I=gB F.2.1 (bd x' (zh F))/\zr F))/\((decide ((↑I:Int)<(↑(zi F):Int)))=false->aM (↑F.1:Int)->zk->aM ((↑F.1:Int)+1)/\∃(x':zb),kY zc s (bh x') (bg x').1 (bg x').2/\7-bh x'<7-F.1/\((↑F.1:Int)+1=(↑(bh x'):Int)/\zj F I=(bg x').1/\zp F=(bg x').2/\True)/\zj F I=(bg x').1/\zp F=(bg x').2/\zq/\zm/\zn/\zo/\True))))))/\((decide (zd F))=false->True/\f=f/\(F.2.1,F.2.2,aL.nil,())=zg)) (by kernel_rfl) ?_
 dsimp -iota -proj -eta only;refine⟨(⟨(0,[s],[]),kY.zero _ _,⟨rfl,rfl,rfl,ba⟩,(by trivial)⟩),fun F q_0 h0=>iL (fun h1=>⟨?a,ba,fun h2=>iB (fun h3=>(by rw[q_0.SL (jA hp) (by omega) (fun e=>by rw[aK.2 e]at h3;cases h3)];exact⟨ba,rfl,rfl⟩)) (fun h3=>⟨ba,iB (fun h4=>(by rw[q_0.U0 (by omega) (aK.1 h3) (fun e=>by rw[aK.2 e]at h4;cases h4)];exact⟨ba,rfl,rfl⟩)) (fun h4=>⟨⟨rfl,q_0.Xb⟩,fun h5=>⟨(⟨0,b7 _,⟨rfl,rfl,ba⟩,rfl,ba⟩),fun I q_1=>iL (fun h6=>⟨?b,ba,iB (fun h7=>⟨⟨rfl,q_0.Wk (jA hp) (Dr (aK.1 h3) (aK.1 h4)) _⟩,fun h8 h9=>⟨?c,(⟨I+1,by omega,by omega,⟨by omega,Le (by omega) ‹_›,ba⟩,Le (by omega) ‹_›,(by trivial)⟩)⟩⟩) (fun h7 h8 h9=>⟨?d,(⟨I+1,by omega,by omega,⟨by omega,Lf (by omega) ‹_›,ba⟩,Lf (by omega) ‹_›,(by trivial)⟩)⟩)⟩) (fun h6 h7 h8=>⟨?e,(by exact⟨(F.1+1,_,_),q_0.next (jA hp) (by omega) (Dr (aK.1 h3) (aK.1 h4)),by have:=q_0.room (jA hp) (by omega) (Dr (aK.1 h3) (aK.1 h4));simp only;omega,⟨by simp only;omega,Lg (by omega),rfl,ba⟩,Lg (by omega),rfl,(by trivial)⟩)⟩)⟩⟩)⟩)⟩) (fun h1=>(by rw[q_0.done (by omega)];exact⟨ba,rfl,rfl⟩))⟩
 case a|b=>omega
 case c|d|e=>simp only[aM,aN]at*;omega
def Tryz.z7:bY Tryz.prog Tryz.B.eT Tryz.X 12 false (aZ Tryz.aW [.obj 0,.d .str] (fun _ x=>x.2.1.1.length<=6) Tryz.DN):=
 bH (B:=(lU Tryz.B [17])) (X:=Tryz.X) (bP.hint (l:=[17]) Tryz.TO) Tryz.func12 (by kernel_rfl) (fun(a:CD [.obj 0,.d .str]) (x:PD Tryz.aW)=>Tryz.Re a.1 x) (fun(a:CD [.obj 0,.d .str]) (x:PD Tryz.aW) hw hp=>Ky a.1 x hw hp)
def TP(n:Int)(hw:gU [.int .i64] n)(hp:(fun n=>0<=n/\n<=1000000) n):(dM Tryz.B [] Tryz.f91 [] [.int .i64] [.int .i64] (fun x y=>y=(fun n=>cM n) x) n).holds:=by
 refine holds_of (p:=
  let za:=aM (16:Int)
  let zb:=aM (n+(16:Int))
  let zc:=n+(16:Int)-(1:Int)
  aM n->za->zb/\(zb->aM (1:Int)->aM zc/\(16:Int)≠(0:Int)/\∀F:Int,F=Int.tdiv zc (16:Int)->aM zc->za->aM F/\∀I:Int,I=F*(16:Int)->aM F->za->aM I/\I=cM n)) (by kernel_rfl) ?_
 dsimp -iota -proj -eta only;refine fun h0 h1=>⟨?a,fun h2 h3=>⟨?b,(by omega),fun F q_0 h4 h5=>⟨?c,fun I q_1 h6 h7=>⟨?d,?e⟩⟩⟩⟩
 case a|b=>simp only[aM]at*;omega
 case c|d|e=>subst_vars;rw[Int.tdiv_eq_ediv_of_nonneg (by omega)];(try unfold cM);(try simp only[aM]);omega
def Tryz.TQ:bX Tryz.prog Tryz.B.eT Tryz.X 91 [.int .i64] [.int .i64] (fun n=>0<=n/\n<=1000000) (fun x y=>y=(fun n=>cM n) x):=
 cG (X:=Tryz.X) (bR Tryz.bQ) Tryz.func91 (by kernel_rfl) (fun _=>[]) (fun x hw hp=>TP x hw hp)
def TR(a:Int×Int×Unit)(b:Int×Int×Unit)(hw:gU [bA,bA] (a,b))(hp:(fun x=>oU x.1/\oU x.2) (a,b)):(dM Tryz.B [] Tryz.f111 [] [bA,bA] [.bool] (fun x y=>y=(fun x=>ik x.1 x.2) x) (a,b)).holds:=by
 refine holds_of (p:=
  let za:=true=ik a b
  let zb:=a.1+a.2.1
  let zc:=b.1+b.2.1
  ((decide (a.2.1<=0))=true->za)/\((decide (a.2.1<=0))=false->((decide (b.2.1<=0))=true->za)/\((decide (b.2.1<=0))=false->aM a.1->aM a.2.1->aM zb/\((decide (zb<=b.1))=true->za)/\((decide (zb<=b.1))=false->aM b.1->aM b.2.1->aM zc/\decide (zc<=a.1)=ik a b)))) (by kernel_rfl) ?_
 dsimp -iota -proj -eta only;dsimp only at hp;simp only[oU]at hp;refine iE (fun h0 =>?a) (fun h0=>iE (fun h1 =>?b) (fun h1 h2 h3=>⟨?c,iE (fun h4 =>?d) (fun h4 h5 h6=>⟨?e,?f⟩)⟩))
 case a|b|d|f=>rw[dy];simp only[ik,Bool.or_eq_true,decide_eq_true_eq,true_iff];omega
 case c|e=>simp only[aM]at*;omega
def Tryz.I9:bX Tryz.prog Tryz.B.eT Tryz.X 111 [bA,bA] [.bool] (fun x=>oU x.1/\oU x.2) (fun x y=>y=(fun x=>ik x.1 x.2) x):=
 cG (X:=Tryz.X) (bR Tryz.bQ) Tryz.func111 (by kernel_rfl) (fun _=>[]) (fun x hw hp=>TR x.1 x.2 hw hp)
def Tryz.spZ25:Bool×aU:=(true,cD [bA,bA] [.bool] (fun x=>oU x.1/\oU x.2) (fun x=>ik x.1 x.2))
def Tryz.FF:List (FuncId×(Bool×aU)):=[(111,Tryz.spZ25)]
def Tryz.Kz:bP Tryz.prog Tryz.B Tryz.X Tryz.FF:=
 aQ (aE Tryz.I9) (bR Tryz.bQ)
def Tryz.Ja:List (FuncId×(Bool×aU)):=[(110,(false,gy Tryz.B Tryz.FF Tryz.f110 []))]
def Tryz.N6:bP Tryz.prog Tryz.B Tryz.X Tryz.Ja:=
 aQ (eR Tryz.Kz Tryz.func110 (by kernel_rfl) []) (bR Tryz.bQ)
def FG:dY:=[(0,fun st=>{X:=Nat,inv:=fun i=>i<=(cO (.slice bA) st 0).length/\∀j,j<i->ik (Sb bA st (Mt st 1 0)) (nth bA (cO (.slice bA) st 0) j)=true,cB:=fun i=>(cO (.slice bA) st 0).length-i,bK:=fun i=>[(8,sI i)],keep:=[0,1,7]})]
def Tryz.Jb:List (FuncId×(Bool×aU)):=[(126,(false,gy Tryz.B Tryz.Ja Tryz.f126 FG))]
def Tryz.N7:bP Tryz.prog Tryz.B Tryz.X Tryz.Jb:=
 aQ (eR Tryz.N6 Tryz.func126 (by kernel_rfl) FG) (bR Tryz.bQ)
def Tryz.Jc:List (FuncId×(Bool×aU)):=[(109,(false,gy Tryz.B Tryz.Jb Tryz.f109 []))]
def Tryz.N8:bP Tryz.prog Tryz.B Tryz.X Tryz.Jc:=
 aQ (eR Tryz.N7 Tryz.func109 (by kernel_rfl) []) (bR Tryz.bQ)
def VH(r:Int×Int×Unit)(l:List (D bA))(hw:gU [bA,.slice bA] (r,l))(hp:(fun x=>oU x.1/\∀y∈x.2,oU y) (r,l)):(dM Tryz.B Tryz.Jc Tryz.f92 [] [bA,.slice bA] [.bool] (fun x y=>y=(fun x=>ja x.1 x.2) x) (r,l)).holds:=by
 refine holds_of (p:=
  let za:=bb l
  za<=aN->(∃(x:Nat),(x<=za/\∀(j:Nat),j<x->ik r (nth bA l j)=true)/\(0=(↑x:Int)/\True)/\True)/\∀F:Nat,(F<=za/\∀(j:Nat),j<F->ik r (nth bA l j)=true)->((decide ((↑F:Int)<(↑za:Int)))=true->(0<=(↑F:Int)/\(↑F:Int)<(↑za:Int))/\(oU r/\oU (nth bA l F))/\((!ik r (nth bA l F))=true->(!decide ((↑F:Int)>=0))=ja r l)/\((!ik r (nth bA l F))=false->aM (↑F:Int)->aM 1->aM ((↑F:Int)+1)/\∃(x':Nat),(x'<=za/\∀(j:Nat),j<x'->ik r (nth bA l j)=true)/\za-x'<za-F/\((↑F:Int)+1=(↑x':Int)/\True)/\(r.1=r.1/\r.2.1=r.2.1/\True)/\True))/\((decide ((↑F:Int)<(↑za:Int)))=false->(!decide ((-1:Int)>=0))=ja r l)) (by kernel_rfl) ?_
 dsimp -iota -proj -eta only;dsimp only at hp;refine fun h0=>⟨?a,fun F q_0=>iL (fun h1=>⟨(by omega),⟨hp.1,hp.2 _ (dJ (by omega))⟩,iB (fun h2=>(by rw[yZ (j:=F) (by omega) h2];simp)) (fun h2 h3 h4=>⟨(by simp only[aM,aN]at*;omega),(by exact⟨F+1,⟨by omega,fun j hj=>by by_cases e:j=F;(subst e;exact h2);exact q_0.2 j (by omega)⟩,by omega,⟨by omega,ba⟩,(by trivial)⟩)⟩)⟩) (fun h1=>(by rw[B3 fun j hj=>q_0.2 j (by omega)];simp))⟩
 case a=>refine⟨0,?_⟩;(repeat' (first|exact trivial|rfl|omega|assumption|apply dv))
def Tryz.VI:bX Tryz.prog Tryz.B.eT Tryz.X 92 [bA,.slice bA] [.bool] (fun x=>oU x.1/\∀y∈x.2,oU y) (fun x y=>y=(fun x=>ja x.1 x.2) x):=
 cG (X:=Tryz.X) Tryz.N8 Tryz.func92 (by kernel_rfl) (fun _=>[]) (fun x hw hp=>VH x.1 x.2 hw hp)
def Tryz.Jd:List (FuncId×(Bool×aU)):=[(45,Tryz.spZ0),(17,Tryz.spZ1),(91,(true,cD [.int .i64] [.int .i64] (fun n=>0<=n/\n<=1000000) (fun n=>cM n))),(111,Tryz.spZ25),(92,(true,cD [bA,.slice bA] [.bool] (fun x=>oU x.1/\∀y∈x.2,oU y) (fun x=>ja x.1 x.2)))]
def Tryz.N9:bP Tryz.prog Tryz.B Tryz.X Tryz.Jd:=
 aQ (aE Tryz.jn) (aQ (aE Tryz.ir) (aQ (aE Tryz.TQ) (aQ (aE Tryz.I9) (aQ (aE Tryz.VI) (bR Tryz.bQ)))))
def Je(s:List Int)(l:List (D bA)):dY:=[
 (0,fun st=>{X:=Nat,inv:=fun i=>i<=s.length/\∀j,j<i->1<=(nth (.int .i64) s j:Int)/\(nth (.int .i64) s j:Int)<=40,cB:=fun i=>s.length-i,bK:=fun i=>[(26,sI i)],keep:=[0,1,24,25]}),
 (2,fun st=>{X:=Nat,inv:=fun i=>i<=l.length/\∀j,j<i->nO (nth bA l j),cB:=fun i=>l.length-i,bK:=fun i=>[(40,sI i)],keep:=[0,1,38,39]}),
 (4,fun st=>{X:=Nat×List (D bA)×List Int,inv:=fun x=>x.1<=s.length/\gQ x.2.1 (s.drop x.1) x.2.2=gQ l s []/\(∀y∈x.2.1,nO y)/\x.2.1.length=l.length+x.1/\x.2.2.length=x.1,cB:=fun x=>s.length-x.1,bK:=fun x=>[(68,sI x.1),(10,.s (.one (.app bA x.2.1 (bF st 10)))),(11,.s (.one (.app (.int .i64) x.2.2 (bF st 11))))],aF:=fun x=>[(bF st 10,.tok bA x.2.1),(bF st 11,.tok (.int .i64) x.2.2)],keep:=[66,67],gP:=[bF st 10,bF st 11]}),
 (6,fun st=>{X:=Nat,inv:=fun j=>j<=32/\gz (cO (.slice bA) st 10) (yh (.int .i64) st (bF st 14) 1) (40-j) (16*(j:Int))=gz (cO (.slice bA) st 10) (yh (.int .i64) st (bF st 14) 1) 40 0,cB:=fun j=>40-j,bK:=fun j=>[],aF:=fun j=>[(bF st 14,.cells 181 [.d (.int .i64) (16*(j:Int)),.d (.int .i64) (yh (.int .i64) st (bF st 14) 1)])],keep:=[4,5,10,11,13,14,66,67,68,69,70,71,72,73,74],gP:=[bF st 14]})]
def TS(s:List Int)(l:List (D bA))(hw:gU [.slice (.int .i64),.slice bA] (s,l)):(dM (lU Tryz.B [65]) Tryz.Jd Tryz.f62 (Je s l) [.slice (.int .i64),.slice bA] [.slice (.int .i64),.err] (fun x y=>y=(fun x=>cN x) x) (s,l)).holds:=by
 refine holds_of (p:=
  let za:=bb s
  let zb:=za<=aN
  let zc:=(↑za:Int)
  let zd:=cN (s,l)
  let ze:=([],aL.no 2)=zd
  let zf:=bb l
  let zg:=Ty.int bm
  let zh:=fun(F:Nat)=>(↑F:Int)
  let zi:=([],aL.no 1)=zd
  let zj:=aM 1
  let zk:=@bc Int=@bc Int/\True
  let zl:=Int×Int×Unit
  let zm:=Nat×List zl×List Int
  let zn:=gQ l s (@bc Int)
  let zo:=fun(G:Nat×List (Int×Int×Unit)×List Int)=>cM (nth zg s G.1)
  let zp:=fun(G:Nat×List (Int×Int×Unit)×List Int)=>gz G.2.1 (zo G) 40 0
  let zq:=fun(K:Nat)=>16*zh K
  zb->((decide (zc > 6))=true->ze)/\((decide (zc > 6))=false->zf<=aN->((decide ((↑zf:Int) > 20))=true->ze)/\((decide ((↑zf:Int) > 20))=false->zb->(∃(x:Nat),(x<=za/\∀(j:Nat),j<x->1<=nth zg s j/\nth zg s j<=40)/\(0=(↑x:Int)/\True)/\True)/\∀F:Nat,(F<=za/\∀(j:Nat),j<F->1<=nth zg s j/\nth zg s j<=40)->((decide (zh F<zc))=true->(0<=zh F/\zh F<zc)/\((decide (nth zg s F<1))=true->zi)/\((decide (nth zg s F<1))=false->((decide (nth zg s F > 40))=true->zi)/\((decide (nth zg s F > 40))=false->aM (zh F)->zj->aM (zh F+1)/\∃(x':Nat),(x'<=za/\∀(j:Nat),j<x'->1<=nth zg s j/\nth zg s j<=40)/\za-x'<za-F/\(zh F+1=(↑x':Int)/\True)/\zk)))/\((decide (zh F<zc))=false->zf<=aN->(∃(x:Nat),(x<=zf/\∀(j:Nat),j<x->nO (nth bA l j))/\(0=(↑x:Int)/\True)/\True)/\∀I:Nat,(I<=zf/\∀(j:Nat),j<I->nO (nth bA l j))->((decide (zh I<(↑zf:Int)))=true->(0<=zh I/\zh I<(↑zf:Int))/\((decide ((nth bA l I).1<0))=true->zi)/\((decide ((nth bA l I).1<0))=false->((decide ((nth bA l I).1 > 256))=true->zi)/\((decide ((nth bA l I).1 > 256))=false->((decide ((nth bA l I).2.1<0))=true->zi)/\((decide ((nth bA l I).2.1<0))=false->((decide ((nth bA l I).2.1 > 256))=true->zi)/\((decide ((nth bA l I).2.1 > 256))=false->aM (zh I)->zj->aM (zh I+1)/\∃(x':Nat),(x'<=zf/\∀(j:Nat),j<x'->nO (nth bA l j))/\zf-x'<zf-I/\(zh I+1=(↑x':Int)/\True)/\zk)))))/\((decide (zh I<(↑zf:Int)))=false->zf<=1000000000/\(zb->(∃(x:zm),(bh x<=za/\gQ (bg x).1 (bj (bh x) s) (bg x).2=zn/\(∀(y:zl),y∈(bg x).1->nO y)/\bb (bg x).1=zf+bh x/\bb (bg x).2=bh x)/\(0=(↑(bh x):Int)/\l=(bg x).1/\@bc Int=(bg x).2/\True)/\l=(bg x).1/\@bc Int=(bg x).2/\True)/\∀G:Nat×List (Int×Int×Unit)×List Int,G.1<=za/\gQ G.2.1 (bj G.1 s) G.2.2=zn/\(∀(y:zl),y∈G.2.1->nO y)/\bb G.2.1=zf+G.1/\bb G.2.2=G.1->((decide ((↑G.1:Int)<zc))=true->(0<=(↑G.1:Int)/\(↑G.1:Int)<zc)/\(0<=nth zg s G.1/\nth zg s G.1<=1000000)/\(∃(x:Nat),(x<=32/\gz G.2.1 (zo G) (40-x) (16*(↑x:Int))=zp G)/\True/\(0=16*(↑x:Int)/\zo G=zo G/\True)/\True)/\∀K:Nat,K<=32/\gz G.2.1 (zo G) (40-K) (zq K)=zp G->(oU (zq K,zo G,())/\∀(y:zl),y∈G.2.1->oU y)/\((!ja (zq K,zo G,()) G.2.1)=true->aM (zq K)->aM 16->aM (zq K+16)/\∃(x':Nat),(x'<=32/\gz G.2.1 (zo G) (40-x') (16*(↑x':Int))=zp G)/\40-x'<40-K/\True/\(zq K+16=16*(↑x':Int)/\zo G=zo G/\True)/\G.2.1=G.2.1/\G.2.2=G.2.2/\zk)/\((!ja (zq K,zo G,()) G.2.1)=false->aM (zq K)->aM (zo G)->aM (zq K+zo G)/\((decide (zq K+zo G > 256))=true->([],aL.no 8)=zd)/\((decide (zq K+zo G > 256))=false->(G.2.1=G.2.1/\bb G.2.1+bb [(zq K,zo G,())]<=1000000000)/\(G.2.2=G.2.2/\bb G.2.2+bb [zq K]<=1000000000)/\(aM (↑G.1:Int)->zj->aM ((↑G.1:Int)+1)/\∃(x':zm),(bh x'<=za/\gQ (bg x').1 (bj (bh x') s) (bg x').2=zn/\(∀(y:zl),y∈(bg x').1->nO y)/\bb (bg x').1=zf+bh x'/\bb (bg x').2=bh x')/\za-bh x'<za-G.1/\((↑G.1:Int)+1=(↑(bh x'):Int)/\G.2.1++[(zq K,zo G,())]=(bg x').1/\G.2.2++[zq K]=(bg x').2/\True)/\G.2.1++[(zq K,zo G,())]=(bg x').1/\G.2.2++[zq K]=(bg x').2/\zk))))/\((decide ((↑G.1:Int)<zc))=false->(G.2.2,aL.nil)=zd))))))) (by kernel_rfl) ?_
 dsimp -iota -proj -eta only;refine fun h0=>iL (fun h1 =>?a) (fun h1 h2=>iL (fun h3 =>?b) (fun h3 h4=>⟨?c,fun F q_0=>iL (fun h5=>⟨?d,iL (fun h6 =>?e) (fun h6=>iL (fun h7 =>?f) (fun h7 h8 h9=>⟨?g,(by(try dsimp only[D]at*);exact⟨F+1,⟨by omega,fun j hj=>by by_cases e:j=F;(subst e;(try dsimp only[D]);omega);exact q_0.2 j (by omega)⟩,by omega,⟨by omega,ba⟩,(by trivial)⟩)⟩))⟩) (fun h5 h6=>⟨?h,fun I q_1=>iL (fun h7=>⟨?i,iL (fun h8 =>?j) (fun h8=>iL (fun h9 =>?k) (fun h9=>iL (fun h10 =>?l) (fun h10=>iL (fun h11 =>?m) (fun h11 h12 h13=>⟨?n,(by(try dsimp only[D]at*);exact⟨I+1,⟨by omega,fun j hj=>by by_cases e:j=I;(subst e;unfold nO;(try dsimp only[D]);omega);exact q_1.2 j (by omega)⟩,by omega,⟨by omega,ba⟩,(by trivial)⟩)⟩))))⟩) (fun h7=>⟨?o,fun h8=>⟨(⟨(0,l,[]),⟨b7 _,rfl,(fun y (hy:y∈l)=>by obtain⟨i,hi,e⟩:=fZ (t:=bA) hy;rw[<-e];exact q_1.2 i (by omega)),rfl,rfl⟩,(by trivial),(by trivial)⟩),fun G q_2=>iL (fun h9=>⟨?p,(by have:=q_0.2 G.1 (by omega);(try dsimp only[D]at*);omega),?q,fun K q_3=>⟨?r,iB (fun h10 h11 h12=>⟨?s,?t⟩) (fun h10 h11 h12=>⟨?u,iL (fun h13 =>?v) (fun h13=>⟨?w,?x,fun h14 h15=>⟨?y,?z⟩⟩)⟩)⟩⟩) (fun h9=>(by rw[wU (by omega) (fun j hj=>q_0.2 j (by omega)) (fun j hj=>q_1.2 j (by omega)),<-q_2.2.1,JL (by omega)]))⟩⟩)⟩)⟩))
 case a|b=>rw[y5 (by omega)]
 case c|h|q=>refine⟨0,?_⟩;(repeat' (first|exact trivial|rfl|omega|assumption|apply dv))
 case d|i|o|p=>omega
 case e|f=>(try dsimp only[D]at*);rw[y7 (by omega) (i:=F) (by omega) (by(try dsimp only[D]);omega)]
 case g|n|s|y=>simp only[aM,aN]at*;omega
 case j|k|l|m=>(try dsimp only[D]at*);rw[wT (by omega) (i:=I) (by omega) (by unfold nO;(try dsimp only[D]);omega)]
 case r=>
  have hs:=q_0.2 G.1 (by omega);have hr:=lr hs.1 hs.2;exact⟨by refine⟨?_,?_,?_,?_⟩ <;> simp only <;> omega,fun y hy=>(q_2.2.2.1 y hy).oU⟩
 case t=>
  have hf:ja (16*(K:Int),cM (nth (.int .i64) s G.1),()) G.2.1=false:=by assumption
  have hn:=O3 q_2.2.2.1 hf;exact⟨K+1,⟨by omega,by rw[<-q_3.2,show 40-K=(40-(K+1))+1 by omega,Em hf,show 16*((K+1:Nat):Int)=16*(K:Int)+16 by omega]⟩,by omega,ba,⟨by omega,rfl,ba⟩,(by trivial)⟩
 case u=>
  have hs:=q_0.2 G.1 (by omega);have hr:=lr hs.1 hs.2;have hf:ja (16*(K:Int),cM (nth (.int .i64) s G.1),()) G.2.1=true:=by assumption
  have hb:=q_3.2.symm.trans (qh hf);simp only[aM];omega
 case v=>
  have hs:=q_0.2 G.1 (by omega);have hr:=lr hs.1 hs.2;have hf:ja (16*(K:Int),cM (nth (.int .i64) s G.1),()) G.2.1=true:=by assumption
  have hb:=q_3.2.symm.trans (qh hf);rw[wU (by omega) (fun j hj=>q_0.2 j (by omega)) (fun j hj=>q_1.2 j (by omega)),<-q_2.2.1,rV (by omega),if_pos (by rw[hb];omega)]
 case w|x=>simp only[bw,true_and];omega
 case z=>
  have hs:=q_0.2 G.1 (by omega);have hr:=lr hs.1 hs.2;have hf:ja (16*(K:Int),cM (nth (.int .i64) s G.1),()) G.2.1=true:=by assumption
  have hb:=q_3.2.symm.trans (qh hf);exact⟨(G.1+1,_,_),⟨by omega,by rw[<-q_2.2.1,rV (k:=G.1) (by omega),if_neg (by rw[hb];omega),hb],Sg q_2.2.2.1 (by refine⟨?_,?_,?_,?_⟩ <;> simp only <;> omega),by simp only[bt,bw];omega,by simp only[bt,bw];omega⟩,by simp only;omega,⟨by simp only;omega,rfl,rfl,ba⟩,(by trivial)⟩
def Tryz.TT:bX Tryz.prog Tryz.B.eT Tryz.X 62 [.slice (.int .i64),.slice bA] [.slice (.int .i64),.err] (fun _=>True) (fun x y=>y=(fun x=>cN x) x):=
 cG (B:=(lU Tryz.B [65])) (X:=Tryz.X) (bP.hint (l:=[65]) Tryz.N9) Tryz.func62 (by kernel_rfl) (fun x=>Je x.1 x.2) (fun x hw hp=>TS x.1 x.2 hw)
def Jf(l:List (D aB))(s:List UInt8):dY:=[
 (0,fun st=>{X:=Nat×Int×Int,inv:=fun x=>x.1<=l.length/\iX l s x.1 0 x.2.1 x.2.2,cB:=fun x=>l.length-x.1,bK:=fun x=>[(14,sI x.1),(6,sI x.2.1),(7,sI x.2.2)],keep:=[1,12,13]}),
 (2,fun st=>{X:=Nat×Int×Int,inv:=fun x=>x.1<=(nth aB l (cO (.int .i64) st 14).toNat).2.2.1.length/\iX l s (cO (.int .i64) st 14).toNat x.1 x.2.1 x.2.2,cB:=fun x=>(nth aB l (cO (.int .i64) st 14).toNat).2.2.1.length-x.1,bK:=fun x=>[(22,sI x.1),(6,sI x.2.1),(7,sI x.2.2)],keep:=[1,8,9,12,13,14,15,16,17,18,19,20,21]})]
def TU(l:List (D aB))(s:List UInt8)(hw:gU [.slice aB,.str] (l,s)):(dM Tryz.B [] Tryz.f127 (Jf l s) [.slice aB,.str] [.int .i64,.int .i64] (fun x y=>y=(fun x=>eB x) x) (l,s)).holds:=by
 refine holds_of (p:=
  let za:=bb l
  let zb:=Nat×Int×Int
  let zc:=fun(F:Nat×Int×Int)=>(↑F.1:Int)
  let zd:=fun(F:Nat×Int×Int)=>(nth aB l F.1).2.2.1
  let ze:=fun(F:Nat×Int×Int)=>bb (zd F)
  let zf:=aM 1
  let zg:=fun(I:Nat×Int×Int)=>zc I+1
  let zh:=fun(F:Nat×Int×Int)=>(nth aB l F.1).2.2.2.1
  let zi:=fun(F:Nat×Int×Int)=>((nth aB l F.1).1=(nth aB l F.1).1/\(nth aB l F.1).2.1=(nth aB l F.1).2.1/\zd F=zd F/\zh F=zh F/\True)/\@bc (Int×Int×Int×List UInt8×Bool×Unit)=@bc (Int×Int×Int×List UInt8×Bool×Unit)/\@bc (List UInt8×Int×Bool×Unit)=@bc (List UInt8×Int×Bool×Unit)/\@bc Int=@bc Int/\@bc (List UInt8)=@bc (List UInt8)/\True
  let zj:=fun(I:Nat×Int×Int) (F:Nat×Int×Int)=>aM (zc I)->zf->aM (zg I)/\∃(x':zb),(bh x'<=ze F/\iX l s F.1 (bh x') (bg x').1 (bg x').2)/\ze F-bh x'<ze F-I.1/\(zg I=(↑(bh x'):Int)/\I.2.1=(bg x').1/\I.2.2=(bg x').2/\True)/\zi F
  let zk:=eB (l,s)
  za<=aN->(∃(x:zb),(bh x<=za/\iX l s (bh x) 0 (bg x).1 (bg x).2)/\(0=(↑(bh x):Int)/\(-1:Int)=(bg x).1/\(-1:Int)=(bg x).2/\True)/\True)/\∀F:Nat×Int×Int,F.1<=za/\iX l s F.1 0 F.2.1 F.2.2->((decide (zc F<(↑za:Int)))=true->(0<=zc F/\zc F<(↑za:Int))/\(ze F<=aN->(∃(x:zb),(bh x<=ze F/\iX l s F.1 (bh x) (bg x).1 (bg x).2)/\(0=(↑(bh x):Int)/\F.2.1=(bg x).1/\F.2.2=(bg x).2/\True)/\True)/\∀I:Nat×Int×Int,I.1<=ze F/\iX l s F.1 I.1 I.2.1 I.2.2->((decide (zc I<(↑(ze F):Int)))=true->(0<=zc I/\zc I<(↑(ze F):Int))/\((!(nth aS (zd F) I.1).1 == s)=true->zj I F)/\((!(nth aS (zd F) I.1).1 == s)=false->((!(nth aS (zd F) I.1).2.2.1)=true->(zc F,zc I)=zk)/\((!(nth aS (zd F) I.1).2.2.1)=false->((decide (I.2.1<0))=true->aM (zc I)->zf->aM (zg I)/\∃(x':zb),(bh x'<=ze F/\iX l s F.1 (bh x') (bg x').1 (bg x').2)/\ze F-bh x'<ze F-I.1/\(zg I=(↑(bh x'):Int)/\zc F=(bg x').1/\zc I=(bg x').2/\True)/\zi F)/\((decide (I.2.1<0))=false->zj I F))))/\((decide (zc I<(↑(ze F):Int)))=false->aM (zc F)->zf->aM (zg F)/\∃(x':zb),(bh x'<=za/\iX l s (bh x') 0 (bg x').1 (bg x').2)/\za-bh x'<za-F.1/\(zg F=(↑(bh x'):Int)/\I.2.1=(bg x').1/\I.2.2=(bg x').2/\True)/\True)))/\((decide (zc F<(↑za:Int)))=false->F.2=zk)) (by kernel_rfl) ?_
 dsimp -iota -proj -eta only;refine fun h0=>⟨(⟨(0,-1,-1),⟨by omega,iX.start l s⟩,⟨rfl,rfl,rfl,ba⟩,ba⟩),fun F q_0=>iL (fun h1=>⟨?a,fun h2=>⟨(⟨(0,F.2),⟨by omega,q_0.2⟩,⟨rfl,rfl,rfl,ba⟩,ba⟩),fun I q_1=>iL (fun h3=>⟨?b,⟨fun h4 h5 h6=>⟨?c,?d⟩,fun h4=>iB (fun h5 =>?e) (fun h5=>iL (fun h6 h7 h8=>⟨?f,?g⟩) (fun h6 h7 h8=>⟨?h,?i⟩))⟩⟩) (fun h3 h4 h5=>⟨(by simp only[aM,aN]at*;omega),(by exact⟨(F.1+1,I.2),⟨by omega,q_1.2.row (by omega)⟩,by simp only;omega,⟨by simp only;omega,rfl,rfl,ba⟩,(by trivial)⟩)⟩)⟩⟩) (fun h1=>((q_0.2.done (by omega)).symm))⟩
 case a|b=>omega
 case c|f|h=>
  simp only[bl,reduceCtorEq]at h4;simp only[aM,aN]at*;omega
 case d=>
  simp only[bl,reduceCtorEq]at h4;exact⟨(I.1+1,I.2),⟨by omega,q_1.2.skip ‹_›⟩,by simp only;omega,⟨by simp only;omega,rfl,rfl,ba⟩,(by trivial)⟩
 case e=>
  simp only[bl,reduceCtorEq]at h4;exact(q_1.2.Wf (by omega) (by omega) ‹_› ‹_›).symm
 case g=>
  simp only[bl,reduceCtorEq]at h4;exact⟨(I.1+1,_,_),⟨by omega,q_1.2.Dc (by omega) (by omega) ‹_› (by simp_all) (by omega)⟩,by simp only;omega,⟨by simp only;omega,rfl,rfl,ba⟩,(by trivial)⟩
 case i=>
  simp only[bl,reduceCtorEq]at h4;exact⟨(I.1+1,I.2),⟨by omega,q_1.2.more (by simp_all) (by omega)⟩,by simp only;omega,⟨by simp only;omega,rfl,rfl,ba⟩,(by trivial)⟩
def Tryz.TV:bX Tryz.prog Tryz.B.eT Tryz.X 127 [.slice aB,.str] [.int .i64,.int .i64] (fun _=>True) (fun x y=>y=(fun x=>eB x) x):=
 cG (X:=Tryz.X) (bR Tryz.bQ) Tryz.func127 (by kernel_rfl) (fun x=>Jf x.1 x.2) (fun x hw hp=>TU x.1 x.2 hw)
def Tryz.Jg:List (FuncId×(Bool×aU)):=[(45,Tryz.spZ0),(17,Tryz.spZ1),(127,(true,cD [.slice aB,.str] [.int .i64,.int .i64] (fun _=>True) (fun x=>eB x)))]
def Tryz.Oa:bP Tryz.prog Tryz.B Tryz.X Tryz.Jg:=
 aQ (aE Tryz.jn) (aQ (aE Tryz.ir) (aQ (aE Tryz.TV) (bR Tryz.bQ)))
def Rf(l:List (D aB))(b:List Int)(t:D bD)(hw:gU [.slice aB,.slice (.int .i64),bD] (l,b,t))(hp:(fun x=>jN x.1/\x.2.1.length=x.1.length/\pF x.2.1) (l,b,t)):(dM Tryz.B Tryz.Jg Tryz.f112 [] [.slice aB,.slice (.int .i64),bD] [.int .i64,.err] (fun x y=>y=(fun x=>fM x.1 x.2.1 x.2.2) x) (l,b,t)).holds:=by
 refine holds_of (p:=
  let za:=eB (l,t.2.2.2.1)
  let zb:=0<=za.1
  let zc:=(nth aB l (bf za.1)).2.2.1
  let zd:=nth (Ty.int bm) b (bf za.1)
  let ze:=(nth aS zc (bf za.2)).2.1
  let zf:=fM l b t
  True/\((decide (za.1>=0))=true->(zb/\za.1<(↑(bb b):Int))/\(zb/\za.1<(↑(bb l):Int))/\(0<=za.2/\za.2<(↑(bb zc):Int))/\(aM zd->aM ze->aM (zd+ze)/\(zd+ze,aL.nil)=zf))/\((decide (za.1>=0))=false->((t.2.2.2.2.1)=true->(0,aL.nil)=zf)/\((t.2.2.2.2.1)=false->(0,aL.no 6)=zf))) (by kernel_rfl) ?_
 dsimp -iota -proj -eta only;dsimp only at hp;refine⟨ba,iE (fun h0=>⟨?a,?b,?c,fun h1 h2=>⟨?d,((B4 (by omega)).symm)⟩⟩) (fun h0=>⟨fun h1=>((y8 (by omega) h1).symm),fun h1=>((wW (by omega) h1).symm)⟩)⟩
 case a|b|c=>
  have hf:=yn (l:=l) (s:=t.2.2.2.1) (by omega);omega
 case d=>
  have hf:=yn (l:=l) (s:=t.2.2.2.1) (by omega);have hb:=pT (n:=l.length) (i:=(eB (l,t.2.2.2.1)).1) hp.2.2 hp.2.1 (by omega) hf.1;have hs:=O9 (s:=t.2.2.2.1) hp.1 (by omega);unfold Small at hs;dsimp only[D]at*;simp only[aM];omega
def Tryz.Rg:bX Tryz.prog Tryz.B.eT Tryz.X 112 [.slice aB,.slice (.int .i64),bD] [.int .i64,.err] (fun x=>jN x.1/\x.2.1.length=x.1.length/\pF x.2.1) (fun x y=>y=(fun x=>fM x.1 x.2.1 x.2.2) x):=
 cG (X:=Tryz.X) Tryz.Oa Tryz.func112 (by kernel_rfl) (fun _=>[]) (fun x hw hp=>Rf x.1 x.2.1 x.2.2 hw hp)
def Tryz.FH:List (FuncId×(Bool×aU)):=[(112,(true,cD [.slice aB,.slice (.int .i64),bD] [.int .i64,.err] (fun x=>jN x.1/\x.2.1.length=x.1.length/\pF x.2.1) (fun x=>fM x.1 x.2.1 x.2.2)))]
def Tryz.KA:bP Tryz.prog Tryz.B Tryz.X Tryz.FH:=
 aQ (aE Tryz.Rg) (bR Tryz.bQ)
def Wz(l:List (D aB))(b:List Int)(i:Int)(t:D bD)(hw:gU [.slice aB,.slice (.int .i64),.int .i64,bD] (l,b,i,t))(hp:(fun x=>jN x.1/\x.2.1.length=x.1.length/\pF x.2.1/\0<=x.2.2.1/\x.2.2.1<x.1.length/\Small x.2.2.2.1/\Word x.2.2.2.2.2.1) (l,b,i,t)):(dM Tryz.B Tryz.FH Tryz.f93 [] [.slice aB,.slice (.int .i64),.int .i64,bD] [.int .i64,.err] (fun x y=>y=(fun x=>gR x.1 x.2.1 x.2.2.1 x.2.2.2) x) (l,b,i,t)).holds:=by
 refine holds_of (p:=
  let za:=0<=i/\i<(↑(bb b):Int)
  let zb:=nth (Ty.int bm) b (bf i)
  let zc:=t.2.2.1
  let zd:=zb+zc
  let ze:=fM l b t
  let zf:=gR l b i t
  let zg:=ze.1+zc
  let zh:=t.2.1 == 3
  let zi:=zb+t.1
  let zj:=aM zi
  let zk:=zg-zi
  let zl:=(0,aL.no 7)=zf
  let zm:=(-2147483648:Int)
  let zn:=zd-zi
  za/\(aM zb->aM zc->aM zd/\((t.2.1 != 1)=true->(jN l/\bb b=bb l/\pF b)/\((!aL.isNil ze.2)=true->(0,ze.2)=zf)/\((!aL.isNil ze.2)=false->aM ze.1->aM zc->aM zg/\(zh=true->za/\(aM zb->aM t.1->zj/\(aM zg->zj->aM zk/\((decide (zk<(-500:Int)))=true->zl)/\((decide (zk<(-500:Int)))=false->((decide (zk > 500))=true->zl)/\((decide (zk > 500))=false->((decide (zk<zm))=true->zl)/\((decide (zk<zm))=false->((decide (zk > 2147483647))=true->zl)/\((decide (zk > 2147483647))=false->(zk,aL.nil)=zf)))))))/\(zh=false->((decide (zg<zm))=true->zl)/\((decide (zg<zm))=false->((decide (zg > 2147483647))=true->zl)/\((decide (zg > 2147483647))=false->(zg,aL.nil)=zf)))))/\((t.2.1 != 1)=false->(zh=true->za/\(aM zb->aM t.1->zj/\(aM zd->zj->aM zn/\((decide (zn<(-500:Int)))=true->zl)/\((decide (zn<(-500:Int)))=false->((decide (zn > 500))=true->zl)/\((decide (zn > 500))=false->((decide (zn<zm))=true->zl)/\((decide (zn<zm))=false->((decide (zn > 2147483647))=true->zl)/\((decide (zn > 2147483647))=false->(zn,aL.nil)=zf)))))))/\(zh=false->((decide (zd<zm))=true->zl)/\((decide (zd<zm))=false->((decide (zd > 2147483647))=true->zl)/\((decide (zd > 2147483647))=false->(zd,aL.nil)=zf)))))) (by kernel_rfl) ?_
 dsimp -iota -proj -eta only;dsimp only at hp;refine⟨?a,fun h0 h1=>⟨?b,iN (fun h2=>⟨(by simp_all),iB (fun h3=>((UR ‹_› ‹_›).symm)) (fun h3 h4 h5=>⟨?c,iQ (fun h6=>⟨?d,fun h7 h8=>⟨?e,fun h9 h10=>⟨?f,iL (fun h11 =>?g) (fun h11=>iL (fun h12 =>?h) (fun h12=>iL (fun h13 =>?i) (fun h13=>iL (fun h14 =>?j) (fun h14=>(by rw[yq ‹_› ‹_›,US ‹_› rfl (by dsimp only[D]at*;omega)])))))⟩⟩⟩) (fun h6=>iL (fun h7 =>?k) (fun h7=>iL (fun h8 =>?l) (fun h8=>(by rw[yq ‹_› ‹_›,Dl ‹_› rfl (by dsimp only[D]at*;omega)]))))⟩)⟩) (fun h2=>iQ (fun h3=>⟨?m,fun h4 h5=>⟨?n,fun h6 h7=>⟨?o,iL (fun h8 =>?p) (fun h8=>iL (fun h9 =>?q) (fun h9=>iL (fun h10 =>?r) (fun h10=>iL (fun h11 =>?s) (fun h11 =>?t))))⟩⟩⟩) (fun h3=>iL (fun h4 =>?u) (fun h4=>iL (fun h5 =>?v) (fun h5=>(by rw[AI ‹_›,Dl (by simp_all) rfl (by dsimp only[D]at*;omega)])))))⟩⟩
 case a|d|i|j|m|r|s=>omega
 case b|c|e|f|n|o=>
  have hb:=pT hp.2.2.1 hp.2.1 hp.2.2.2.1 hp.2.2.2.2.1;have ht:=wX t hp.1 hp.2.1 hp.2.2.1;have hs:=hp.2.2.2.2.2;unfold Small Word at hs;dsimp only[D]at*;simp only[aM];omega
 case g|h=>rw[yq ‹_› ‹_›,Sn ‹_› (by dsimp only[D]at*;omega)]
 case k|l=>
  have hb:=pT hp.2.2.1 hp.2.1 hp.2.2.2.1 hp.2.2.2.2.1;have ht:=wX t hp.1 hp.2.1 hp.2.2.1;have hs:=hp.2.2.2.2.2;unfold Small Word at hs;dsimp only[D]at*
  first|omega|(rw[yq ‹_› ‹_›,He ‹_› (by omega)])
 case p|q|t=>dsimp only[D]at*;omega
 case u|v=>
  have hb:=pT hp.2.2.1 hp.2.1 hp.2.2.2.1 hp.2.2.2.2.1;have ht:=wX t hp.1 hp.2.1 hp.2.2.1;have hs:=hp.2.2.2.2.2;unfold Small Word at hs;dsimp only[D]at*
  first|omega|(rw[AI ‹_›,He (by simp_all) (by omega)])
def Tryz.WA:bX Tryz.prog Tryz.B.eT Tryz.X 93 [.slice aB,.slice (.int .i64),.int .i64,bD] [.int .i64,.err] (fun x=>jN x.1/\x.2.1.length=x.1.length/\pF x.2.1/\0<=x.2.2.1/\x.2.2.1<x.1.length/\Small x.2.2.2.1/\Word x.2.2.2.2.2.1) (fun x y=>y=(fun x=>gR x.1 x.2.1 x.2.2.1 x.2.2.2) x):=
 cG (X:=Tryz.X) Tryz.KA Tryz.func93 (by kernel_rfl) (fun _=>[]) (fun x hw hp=>Wz x.1 x.2.1 x.2.2.1 x.2.2.2 hw hp)
def Tryz.FI:List (FuncId×(Bool×aU)):=[(93,(true,cD [.slice aB,.slice (.int .i64),.int .i64,bD] [.int .i64,.err] (fun x=>jN x.1/\x.2.1.length=x.1.length/\pF x.2.1/\0<=x.2.2.1/\x.2.2.1<x.1.length/\Small x.2.2.2.1/\Word x.2.2.2.2.2.1) (fun x=>gR x.1 x.2.1 x.2.2.1 x.2.2.2)))]
def Tryz.KB:bP Tryz.prog Tryz.B Tryz.X Tryz.FI:=
 aQ (aE Tryz.WA) (bR Tryz.bQ)
def Rh(l:List (D aB))(b:List Int):dY:=[
 (0,fun st=>{X:=Nat,inv:=fun i=>i<=b.length/\∀j,j<i->0<=(nth (.int .i64) b j:Int)/\(nth (.int .i64) b j:Int)<=256,cB:=fun i=>b.length-i,bK:=fun i=>[(23,sI i)],keep:=[0,1,21,22]}),
 (2,fun st=>{X:=Nat×List (D aR),inv:=fun x=>x.1<=l.length/\nP l b (l.drop x.1) x.1 x.2=nP l b l 0 []/\x.2.length<=10*x.1,cB:=fun x=>l.length-x.1,bK:=fun x=>[(37,sI x.1),(8,.s (.one (.app aR x.2 (bF st 8))))],aF:=fun x=>[(bF st 8,.tok aR x.2)],keep:=[0,1,35,36],gP:=[bF st 8]}),
 (4,fun st=>{X:=Nat×List (D aR),inv:=fun x=>x.1<=(nth aB l (cO (.int .i64) st 37).toNat).2.2.2.1.length/\oy (nP l b (l.drop ((cO (.int .i64) st 37).toNat+1)) ((cO (.int .i64) st 37).toNat+1)) (n9 l b (cO (.int .i64) st 37).toNat ((nth aB l (cO (.int .i64) st 37).toNat).2.2.2.1.drop x.1) x.2)=nP l b l 0 []/\x.2.length<=10*(cO (.int .i64) st 37).toNat+x.1,cB:=fun x=>(nth aB l (cO (.int .i64) st 37).toNat).2.2.2.1.length-x.1,bK:=fun x=>[(45,sI x.1),(8,.s (.one (.app aR x.2 (bF st 8))))],aF:=fun x=>[(bF st 8,.tok aR x.2)],keep:=[0,1,9,10,35,36,37,38,39,40,41,42,43,44],gP:=[bF st 8]})]
def WB(l:List (D aB))(b:List Int)(hw:gU [.slice aB,.slice (.int .i64)] (l,b))(hp:(fun x=>jN x.1) (l,b)):(dM Tryz.B Tryz.FI Tryz.f64 (Rh l b) [.slice aB,.slice (.int .i64)] [.slice aR,.err] (fun x y=>y=(fun x=>iI x) x) (l,b)).holds:=by
 refine holds_of (p:=
  let za:=bb b
  let zb:=bb l
  let zc:=iI (l,b)
  let zd:=Ty.int bm
  let ze:=([],aL.no 1)=zc
  let zf:=aM 1
  let zg:=@bc (Int×Int×Int×Unit)=@bc (Int×Int×Int×Unit)/\True
  let zh:=Nat×List (Int×Int×Int×Unit)
  let zi:=nP l b l 0 (@bc Pt)
  let zj:=fun(I:Nat×List (Int×Int×Int×Unit))=>10*I.1
  let zk:=fun(I:Nat×List (Int×Int×Int×Unit))=>(↑I.1:Int)
  let zl:=fun(I:Nat×List (Int×Int×Int×Unit))=>zk I<(↑zb:Int)
  let zm:=fun(I:Nat×List (Int×Int×Int×Unit))=>0<=zk I
  let zn:=fun(I:Nat×List (Int×Int×Int×Unit))=>(nth aB l I.1).2.2.2.1
  let zo:=fun(I:Nat×List (Int×Int×Int×Unit))=>bb (zn I)
  let zp:=fun(I:Nat×List (Int×Int×Int×Unit))=>nP l b (bj (I.1+1) l) (I.1+1)
  let zq:=fun(I G:Nat×List (Int×Int×Int×Unit))=>(gR l b (zk I) (nth bD (zn I) G.1)).2
  let zr:=fun(I G:Nat×List (Int×Int×Int×Unit))=>[(zk I,(nth bD (zn I) G.1).1,(gR l b (zk I) (nth bD (zn I) G.1)).1,())]
  za<=aN->zb<=aN->(((↑za:Int) != (↑zb:Int))=true->([],aL.no 3)=zc)/\(((↑za:Int) != (↑zb:Int))=false->za<=aN->(∃(x:Nat),(x<=za/\∀(j:Nat),j<x->0<=nth zd b j/\nth zd b j<=256)/\(0=(↑x:Int)/\True)/\True)/\∀F:Nat,(F<=za/\∀(j:Nat),j<F->0<=nth zd b j/\nth zd b j<=256)->((decide ((↑F:Int)<(↑za:Int)))=true->(0<=(↑F:Int)/\(↑F:Int)<(↑za:Int))/\((decide (nth zd b F<0))=true->ze)/\((decide (nth zd b F<0))=false->((decide (nth zd b F > 256))=true->ze)/\((decide (nth zd b F > 256))=false->aM (↑F:Int)->zf->aM ((↑F:Int)+1)/\∃(x':Nat),(x'<=za/\∀(j:Nat),j<x'->0<=nth zd b j/\nth zd b j<=256)/\za-x'<za-F/\((↑F:Int)+1=(↑x':Int)/\True)/\zg)))/\((decide ((↑F:Int)<(↑za:Int)))=false->zb<=aN->(∃(x:zh),(bh x<=zb/\nP l b (bj (bh x) l) (bh x) (bg x)=zi/\bb (bg x)<=10*bh x)/\(0=(↑(bh x):Int)/\@bc (Int×Int×Int×Unit)=bg x/\True)/\@bc (Int×Int×Int×Unit)=bg x/\True)/\∀I:Nat×List (Int×Int×Int×Unit),I.1<=zb/\nP l b (bj I.1 l) I.1 I.2=zi/\bb I.2<=zj I->((decide (zl I))=true->(zm I/\zl I)/\(zo I<=aN->(∃(x:zh),(bh x<=zo I/\oy (zp I) (n9 l b I.1 (bj (bh x) (zn I)) (bg x))=zi/\bb (bg x)<=zj I+bh x)/\(0=(↑(bh x):Int)/\I.2=bg x/\True)/\I.2=bg x/\True)/\∀G:Nat×List (Int×Int×Int×Unit),G.1<=zo I/\oy (zp I) (n9 l b I.1 (bj G.1 (zn I)) G.2)=zi/\bb G.2<=zj I+G.1->((decide (zk G<(↑(zo I):Int)))=true->(zm G/\zk G<(↑(zo I):Int))/\(jN l/\za=zb/\pF b/\zm I/\zl I/\Small (nth bD (zn I) G.1).1/\Word (nth bD (zn I) G.1).2.2.1)/\((!aL.isNil (zq I G))=true->([],zq I G)=zc)/\((!aL.isNil (zq I G))=false->(G.2=G.2/\bb G.2+bb (zr I G)<=1000000000)/\(aM (zk G)->zf->aM (zk G+1)/\∃(x':zh),(bh x'<=zo I/\oy (zp I) (n9 l b I.1 (bj (bh x') (zn I)) (bg x'))=zi/\bb (bg x')<=zj I+bh x')/\zo I-bh x'<zo I-G.1/\(zk G+1=(↑(bh x'):Int)/\G.2++zr I G=bg x'/\True)/\G.2++zr I G=bg x'/\((nth aB l I.1).1=(nth aB l I.1).1/\(nth aB l I.1).2.1=(nth aB l I.1).2.1/\(nth aB l I.1).2.2.1=(nth aB l I.1).2.2.1/\zn I=zn I/\True)/\@bc (Int×Int×Int×List UInt8×Bool×Unit)=@bc (Int×Int×Int×List UInt8×Bool×Unit)/\@bc (List UInt8×Int×Bool×Unit)=@bc (List UInt8×Int×Bool×Unit)/\@bc Int=@bc Int/\@bc (List UInt8)=@bc (List UInt8)/\zg)))/\((decide (zk G<(↑(zo I):Int)))=false->aM (zk I)->zf->aM (zk I+1)/\∃(x':zh),(bh x'<=zb/\nP l b (bj (bh x') l) (bh x') (bg x')=zi/\bb (bg x')<=10*bh x')/\zb-bh x'<zb-I.1/\(zk I+1=(↑(bh x'):Int)/\G.2=bg x'/\True)/\G.2=bg x'/\zg)))/\((decide (zl I))=false->(I.2,aL.nil)=zc)))) (by kernel_rfl) ?_
 dsimp -iota -proj -eta only;dsimp only at hp;refine fun h0 h1=>iN (fun h2=>((Sm (by omega)).symm)) (fun h2 h3=>⟨(⟨0,⟨by omega,fun j hj=>by omega⟩,⟨rfl,ba⟩,ba⟩),fun F q_0=>iL (fun h4=>⟨?a,iL (fun h5 =>?b) (fun h5=>iL (fun h6 =>?c) (fun h6 h7 h8=>⟨?d,(⟨F+1,⟨by omega,lV q_0.2 (by dsimp only[D]at*;omega)⟩,by omega,⟨by omega,ba⟩,(by trivial)⟩)⟩))⟩) (fun h4 h5=>⟨(⟨(0,[]),⟨by omega,rfl,by simp⟩,(by trivial),(by trivial)⟩),fun I q_1=>iL (fun h6=>⟨?e,fun h7=>⟨(by exact⟨(0,I.2),⟨by omega,by rw[<-O7 (by omega)];exact q_1.2.1,by simp only;omega⟩,(by trivial),(by trivial)⟩),fun G q_2=>iL (fun h8=>⟨?f,?g,iB (fun h9 =>?h) (fun h9=>⟨?i,fun h10 h11=>⟨?j,?k⟩⟩)⟩) (fun h8 h9 h10=>⟨?l,?m⟩)⟩⟩) (fun h6 =>?n)⟩)⟩)
 case a|e|f=>omega
 case b|c=>exact(O8 (i:=F) (by omega) (by omega) (by dsimp only[D]at*;omega)).symm
 case d|j|l=>simp only[aM,aN]at*;omega
 case g=>
  have hlen:b.length=l.length:=(by omega);have hib:pF b:=fun j hj=>q_0.2 j (by omega)
  have hm:=hp.2 I.1 (by omega);have htk:=hm.2.2 G.1 (by omega);have hb:=pT (i:=(I.1:Int)) hib hlen (by omega) (by omega);unfold Small Word at htk;rw[e0]at hb;exact⟨hp,hlen,hib,by omega,by omega,htk.1,htk.2⟩
 case h=>
  have hlen:b.length=l.length:=(by omega);have hib:pF b:=fun j hj=>q_0.2 j (by omega)
  rw[Dj hlen hib,<-q_2.2.1,UP (by omega) ‹_›]
 case i=>
  have hlen:b.length=l.length:=(by omega);have hib:pF b:=fun j hj=>q_0.2 j (by omega)
  have hm:=hp.2 I.1 (by omega);have htk:=hm.2.2 G.1 (by omega);have hb:=pT (i:=(I.1:Int)) hib hlen (by omega) (by omega);unfold Small Word at htk;rw[e0]at hb;have:=hm.1;have:=hp.1;exact⟨rfl,by simp only[bw,aN];omega⟩
 case k=>
  have ho:(gR l b I.1 (nth bD (nth aB l I.1).2.2.2.1 G.1)).2.isNil=true:=by assumption
  exact⟨(G.1+1,_),⟨by omega,by rw[<-q_2.2.1,Wg (k:=G.1) (by omega) ho],by simp only[bt,bw];omega⟩,by simp only;omega,⟨by simp only;omega,rfl,ba⟩,(by trivial)⟩
 case m=>
  have hm:=hp.2 I.1 (by omega);exact⟨(I.1+1,G.2),⟨by omega,by rw[<-q_2.2.1,UQ (by omega)],by have:=hm.1;simp only;omega⟩,by simp only;omega,⟨by simp only;omega,rfl,ba⟩,(by trivial)⟩
 case n=>
  have hlen:b.length=l.length:=(by omega);have hib:pF b:=fun j hj=>q_0.2 j (by omega)
  rw[Dj hlen hib,<-q_1.2.1,UO (by omega)]
def Tryz.WC:bX Tryz.prog Tryz.B.eT Tryz.X 64 [.slice aB,.slice (.int .i64)] [.slice aR,.err] (fun x=>jN x.1) (fun x y=>y=(fun x=>iI x) x):=
 cG (X:=Tryz.X) Tryz.KB Tryz.func64 (by kernel_rfl) (fun x=>Rh x.1 x.2) (fun x hw hp=>WB x.1 x.2 hw hp)
def Ri(w:List (List Int))(l:List (D aR)):dY:=[
 (200000,fun st=>{X:=Nat,inv:=fun i=>i<=w.length,cB:=fun i=>w.length-i,bK:=fun i=>[(13,sI i)],aO:=[.ext 0 ml],refs:=[(6,0)],pd:=fun i=>(w.take i,()),keep:=[1,4,5,11,12]}),
 (2,fun st=>{X:=Nat,inv:=fun k=>k<=l.length/\∀j,j<k->tT w (nth aR l j),cB:=fun k=>l.length-k,bK:=fun k=>[(25,sI k)],aF:=fun k=>[(bF st 6,.ext 0 ml (lu w (l.take k)))],keep:=[6,23,24],gP:=[bF st 6]})]
def WD(w:List (List Int))(l:List (D aR))(hw:gU [ml,.slice aR] (w,l))(hp:(fun x=>x.1.length<=100000/\∀i,i<x.1.length->(nth jj x.1 i).length<=100000000) (w,l)):(dM (lU Tryz.B [6]) [] Tryz.f65 (Ri w l) [ml,.slice aR] [ml,.err] (fun x y=>y=(fun x=>iY x) x) (w,l)).holds:=by
 refine holds_of (p:=
  let za:=bb w
  let zb:=@bc (List Int)=@bc (List Int)/\True
  let zc:=(!false&&true)=true
  let zd:=fun(F:Nat)=>[nth (Ty.slice (Ty.int bm)) w F]
  let ze:=fun(F:Nat)=>(↑F:Int)+1
  let zf:=bb l
  let zg:=fun(I:Nat)=>(nth aR l I).1
  let zh:=([],aL.no 1)=iY (w,l)
  let zi:=fun(I:Nat)=>lu w (bd I l)
  let zj:=fun(I:Nat)=>(nth aR l I).2.1
  let zk:=fun(I:Nat)=>0<=zg I/\zg I<(↑(bb (zi I)):Int)
  let zl:=fun(I:Nat)=>bf (zg I)<bb (zi I)
  let zm:=fun(I:Nat)=>nth jj (zi I) (bf (zg I))
  za<=aN->(∃(x':Nat),x'<=za/\True/\(0=(↑x':Int)/\True)/\zb/\zc/\([],())=(bd x' w,()))/\∀F:Nat,F<=za->((decide ((↑F:Int)<(↑za:Int)))=true->(0<=(↑F:Int)/\(↑F:Int)<(↑za:Int))/\bb (nth (Ty.slice (Ty.int bm)) w F)<=1000000000/\(0<bb (zd F)/\bb (bd F w)+bb (zd F)<=1000000000)/\(aM (↑F:Int)->aM 1->aM (ze F)/\∃(x':Nat),x'<=za/\za-x'<za-F/\(ze F=(↑x':Int)/\True)/\zb/\zc/\(bd F w++zd F,())=(bd x' w,())))/\((decide ((↑F:Int)<(↑za:Int)))=false->zf<=aN->(∃(x:Nat),(x<=zf/\∀(j:Nat),j<x->tT w (nth aR l j))/\(0=(↑x:Int)/\True)/\bd F w=lu w (bd x l)/\True)/\∀I:Nat,(I<=zf/\∀(j:Nat),j<I->tT w (nth aR l j))->((decide ((↑I:Int)<(↑zf:Int)))=true->(0<=(↑I:Int)/\(↑I:Int)<(↑zf:Int))/\((decide (zg I<0))=true->zh)/\((decide (zg I<0))=false->bb (zi I)<=aN->((decide (zg I>=(↑(bb (zi I)):Int)))=true->zh)/\((decide (zg I>=(↑(bb (zi I)):Int)))=false->((decide (zj I<0))=true->zh)/\((decide (zj I<0))=false->zk I/\zl I/\zl I/\(bb (zm I)<=aN->((decide (zj I>=(↑(bb (zm I)):Int)))=true->zh)/\((decide (zj I>=(↑(bb (zm I)):Int)))=false->zk I/\zl I/\(zl I/\0<=zj I/\zj I<(↑(bb (zm I)):Int))/\(zl I/\bf (zj I)<bb (zm I))/\(aM (↑I:Int)->aM 1->aM (ze I)/\∃(x':Nat),(x'<=zf/\∀(j:Nat),j<x'->tT w (nth aR l j))/\zf-x'<zf-I/\(ze I=(↑x':Int)/\True)/\c7 (zi I) (bf (zg I)) (c7 (zm I) (bf (zj I)) (nth aR l I).2.2.1)=lu w (bd x' l)/\zb)))))))/\((decide ((↑I:Int)<(↑zf:Int)))=false->(zi I,aL.nil)=iY (w,l)))) (by kernel_rfl) ?_
 dsimp -iota -proj -eta only;dsimp only at hp;refine fun h0=>⟨(⟨0,by omega,ba,⟨rfl,ba⟩,⟨rfl,ba⟩,rfl,rfl⟩),fun F q_0=>iL (fun h1=>⟨?a,(by have:=hp.2 F (by omega);show bb (nth jj w F)<=1000000000;omega),(by have:=hp.1;simp only[bw,b5,aN];omega),fun h2 h3=>⟨?b,(⟨F+1,by omega,by omega,⟨by omega,ba⟩,⟨rfl,ba⟩,rfl,by rw[lI (t:=jj) (by omega)]⟩)⟩⟩) (fun h1 h2=>⟨(by exact⟨0,⟨by omega,fun j hj=>by omega⟩,⟨rfl,ba⟩,by rw[c8 (by omega)];rfl,ba⟩),fun I q_1=>iL (fun h3=>⟨?c,iL (fun h4 =>?d) (fun h4 h5=>iE (fun h6 =>?e) (fun h6=>iL (fun h7 =>?f) (fun h7=>⟨?g,?h,?i,fun h8=>iE (fun h9 =>?j) (fun h9=>⟨?k,?l,?m,?n,fun h10 h11=>⟨?o,?p⟩⟩)⟩)))⟩) (fun h3=>(by rw[yp fun i hi=>q_1.2 i (by omega),c8 (by omega)]))⟩)⟩
 case a|c=>omega
 case b|o=>simp only[aM,aN]at*;omega
 case d|e|f|j=>
  have hr:=wV (l.take I) w (nth aR l I).1.toNat;have hll:=qi (l.take I) w;exact(Sj (i:=I) (by omega) (by unfold tT;dsimp only[D]at*;omega)).symm
 case g|h|i|k|l|m|n=>
  have hr:=wV (l.take I) w (nth aR l I).1.toNat;have hll:=qi (l.take I) w
  first|omega|(dsimp only[D]at*;omega)
 case p=>
  have hr:=wV (l.take I) w (nth aR l I).1.toNat;have hll:=qi (l.take I) w;exact⟨I+1,⟨by omega,lV q_1.2 (by unfold tT;dsimp only[D]at*;omega)⟩,by omega,⟨by omega,ba⟩,O6 (by omega),(by trivial)⟩
def Tryz.WE:bX Tryz.prog Tryz.B.eT Tryz.X 65 [ml,.slice aR] [ml,.err] (fun x=>x.1.length<=100000/\∀i,i<x.1.length->(nth jj x.1 i).length<=100000000) (fun x y=>y=(fun x=>iY x) x):=
 cG (B:=(lU Tryz.B [6])) (X:=Tryz.X) (bP.hint (l:=[6]) (bR Tryz.bQ)) Tryz.func65 (by kernel_rfl) (fun x=>Ri x.1 x.2) (fun x hw hp=>WD x.1 x.2 hw hp)
def Jh(l:List (D aB)):dY:=[
 (0,fun st=>{X:=Nat,inv:=fun i=>i<=l.length,cB:=fun i=>l.length-i,bK:=fun i=>[(8,sI i),(3,.s (.one (.app (.int .i64) (bZ (l.take i)) (bF st 3))))],aF:=fun i=>[(bF st 3,.tok (.int .i64) (bZ (l.take i)))],keep:=[2,6,7],gP:=[bF st 3]})]
def Rj(l:List (D aB))(hw:gU [.slice aB] l)(hp:(fun l=>l.length<=1000) l):(dM Tryz.B [] Tryz.f63 (Jh l) [.slice aB] [.slice (.int .i64)] (fun x y=>y=(fun l=>bZ l) x) l).holds:=by
 refine holds_of (p:=
  let za:=bb l
  let zb:=fun(F:Nat)=>bb (nth aB l F).2.1
  let zc:=fun(F:Nat)=>bZ (bd F l)
  let zd:=fun(F:Nat)=>zc F++[(↑(zb F):Int)]
  za<=aN->(∃(x:Nat),x<=za/\(0=(↑x:Int)/\@bc Int=bZ (bd x l)/\True)/\@bc Int=bZ (bd x l)/\True)/\∀F:Nat,F<=za->((decide ((↑F:Int)<(↑za:Int)))=true->(0<=(↑F:Int)/\(↑F:Int)<(↑za:Int))/\(zb F<=aN->(zc F=zc F/\bb (zc F)+bb [(↑(zb F):Int)]<=1000000000)/\(aM (↑F:Int)->aM 1->aM ((↑F:Int)+1)/\∃(x':Nat),x'<=za/\za-x'<za-F/\((↑F:Int)+1=(↑x':Int)/\zd F=bZ (bd x' l)/\True)/\zd F=bZ (bd x' l)/\@bc Int=@bc Int/\True)))/\((decide ((↑F:Int)<(↑za:Int)))=false->zc F=bZ l)) (by kernel_rfl) ?_
 dsimp -iota -proj -eta only;exact fun h0=>⟨(⟨0,by omega,⟨rfl,rfl,ba⟩,rfl,ba⟩),fun F q_0=>iL (fun h1=>⟨(by omega),fun h2=>⟨(by exact⟨rfl,by rw[pB,b5];simp only[bw];omega⟩),fun h3 h4=>⟨(by simp only[aM,aN]at*;omega),(⟨F+1,by omega,by omega,⟨by omega,(zG (by omega)).symm,ba⟩,(zG (by omega)).symm,(by trivial)⟩)⟩⟩⟩) (fun h1=>(by rw[c8 (by omega)]))⟩
def Tryz.Rl:bX Tryz.prog Tryz.B.eT Tryz.X 63 [.slice aB] [.slice (.int .i64)] (fun l=>l.length<=1000) (fun x y=>y=(fun l=>bZ l) x):=
 cG (X:=Tryz.X) (bR Tryz.bQ) Tryz.func63 (by kernel_rfl) (fun x=>Jh x) (fun x hw hp=>Rj x hw hp)
def Ji(l:List (D aB)):dY:=[
 (0,fun st=>{X:=Nat,inv:=fun i=>i<=l.length,cB:=fun i=>l.length-i,bK:=fun i=>[(8,sI i),(3,.s (.one (.app jj (dB (l.take i)) (bF st 3))))],aF:=fun i=>[(bF st 3,.tok jj (dB (l.take i)))],keep:=[2,6,7],gP:=[bF st 3]})]
def Rm(l:List (D aB))(hw:gU [.slice aB] l)(hp:(fun l=>l.length<=1000) l):(dM Tryz.B [] Tryz.f66 (Ji l) [.slice aB] [ml] (fun x y=>y=(fun l=>dB l) x) l).holds:=by
 refine holds_of (p:=
  let za:=bb l
  let zb:=fun(F:Nat)=>dB (bd F l)
  let zc:=fun(F:Nat)=>zb F++[(nth aB l F).2.1]
  za<=aN->(∃(x:Nat),x<=za/\(0=(↑x:Int)/\@bc (List Int)=dB (bd x l)/\True)/\@bc (List Int)=dB (bd x l)/\True)/\∀F:Nat,F<=za->((decide ((↑F:Int)<(↑za:Int)))=true->(0<=(↑F:Int)/\(↑F:Int)<(↑za:Int))/\(zb F=zb F/\bb (zb F)+bb [(nth aB l F).2.1]<=1000000000)/\(aM (↑F:Int)->aM 1->aM ((↑F:Int)+1)/\∃(x':Nat),x'<=za/\za-x'<za-F/\((↑F:Int)+1=(↑x':Int)/\zc F=dB (bd x' l)/\True)/\zc F=dB (bd x' l)/\@bc (List Int)=@bc (List Int)/\True))/\((decide ((↑F:Int)<(↑za:Int)))=false->zb F=dB l)) (by kernel_rfl) ?_
 dsimp -iota -proj -eta only;exact fun h0=>⟨(⟨0,by omega,⟨rfl,rfl,ba⟩,rfl,ba⟩),fun F q_0=>iL (fun h1=>⟨(by omega),(by exact⟨rfl,by rw[nK,b5];simp only[bw];omega⟩),fun h2 h3=>⟨(by simp only[aM,aN]at*;omega),(⟨F+1,by omega,by omega,⟨by omega,(zH (by omega)).symm,ba⟩,(zH (by omega)).symm,(by trivial)⟩)⟩⟩) (fun h1=>(by rw[c8 (by omega)]))⟩
def Tryz.Rn:bX Tryz.prog Tryz.B.eT Tryz.X 66 [.slice aB] [ml] (fun l=>l.length<=1000) (fun x y=>y=(fun l=>dB l) x):=
 cG (X:=Tryz.X) (bR Tryz.bQ) Tryz.func66 (by kernel_rfl) (fun x=>Ji x) (fun x hw hp=>Rm x hw hp)
def Tryz.Ro:List (FuncId×(Bool×aU)):=[(66,(true,cD [.slice aB] [ml] (fun l=>l.length<=1000) (fun l=>dB l))),(65,(true,cD [ml,.slice aR] [ml,.err] (fun x=>x.1.length<=100000/\∀i,i<x.1.length->(nth jj x.1 i).length<=100000000) (fun x=>iY x)))]
def Tryz.TW:bP Tryz.prog Tryz.B Tryz.X Tryz.Ro:=
 aQ (aE Tryz.Rn) (aQ (aE Tryz.WE) (bR Tryz.bQ))
def Rp(ns:List (List UInt8))(bs:List Int)(os:List (D aB))(ps:List (D aR)):dY:=[
 (0,fun st=>{X:=Nat,inv:=fun i=>i<=os.length,cB:=fun i=>os.length-i,bK:=fun i=>[(39,sI i),(12,.s (.one (.app iH (jd ns bs (iY (dB os,ps)).1 i) (bF st 12))))],aF:=fun i=>[(bF st 12,.tok iH (jd ns bs (iY (dB os,ps)).1 i))],keep:=[0,1,8,9,10,38],gP:=[bF st 12]})]
def WG(ns:List (List UInt8))(bs:List Int)(os:List (D aB))(ps:List (D aR))(hw:gU [.slice .str,.slice (.int .i64),.slice aB,.slice aR] (ns,bs,os,ps))(hp:(fun x=>x.2.2.1.length<=1000/\∀i,i<x.2.2.1.length->(nth aB x.2.2.1 i).2.1.length<=1000) (ns,bs,os,ps)):(dM Tryz.B Tryz.Ro Tryz.f41 (Rp ns bs os ps) [.slice .str,.slice (.int .i64),.slice aB,.slice aR] [.slice iH,.err] (fun x y=>y=(fun x=>jL x.1 x.2.1 x.2.2.1 x.2.2.2) x) (ns,bs,os,ps)).holds:=by
 refine holds_of (p:=
  let za:=bb os
  let zb:=za<=aN
  let zc:=(↑(bb ns):Int)
  let zd:=(↑za:Int)
  let ze:=jL ns bs os ps
  let zf:=([],aL.no 3)=ze
  let zg:=(↑(bb bs):Int)
  let zh:=dB os
  let zi:=iY (zh,ps)
  let zj:=(iY (zh,ps)).1
  let zk:=fun(F:Nat)=>(↑F:Int)
  let zl:=fun(F:Nat)=>0<=zk F
  let zm:=fun(F:Nat)=>jd ns bs zj F
  let zn:=fun(F:Nat)=>[(nth Ty.str ns F,nth (Ty.int bm) bs F,nth (Ty.slice (Ty.int bm)) zi.1 F,())]
  bb ns<=aN->zb->((zc != zd)=true->zf)/\((zc != zd)=false->bb bs<=aN->zb->((zg != zd)=true->zf)/\((zg != zd)=false->za<=1000/\(bb zh<=100000/\∀(i:Nat),i<bb zh->bb (nth jj zh i)<=100000000)/\((!aL.isNil zi.2)=true->([],zi.2)=ze)/\((!aL.isNil zi.2)=false->zb->(∃(x:Nat),x<=za/\(0=(↑x:Int)/\@bc (List UInt8×Int×List Int×Unit)=jd ns bs zj x/\True)/\@bc (List UInt8×Int×List Int×Unit)=jd ns bs zj x/\True)/\∀F:Nat,F<=za->((decide (zk F<zd))=true->(zl F/\zk F<zc)/\(zl F/\zk F<zg)/\(zl F/\zk F<(↑(bb zi.1):Int))/\(zm F=zm F/\bb (zm F)+bb (zn F)<=1000000000)/\(aM (zk F)->aM 1->aM (zk F+1)/\∃(x':Nat),x'<=za/\za-x'<za-F/\(zk F+1=(↑x':Int)/\zm F++zn F=jd ns bs zj x'/\True)/\zm F++zn F=jd ns bs zj x'/\@bc (List UInt8×Int×List Int×Unit)=@bc (List UInt8×Int×List Int×Unit)/\True))/\((decide (zk F<zd))=false->(zm F,aL.nil)=ze))))) (by kernel_rfl) ?_
 dsimp -iota -proj -eta only;dsimp only at hp;refine fun h0 h1=>iN (fun h2=>((Cj (.inl (by omega))).symm)) (fun h2 h3 h4=>iN (fun h5=>((Cj (.inr (by omega))).symm)) (fun h5=>⟨?a,(UY hp),iB (fun h6=>((SE (by omega) (by omega) h6).symm)) (fun h6 h7=>⟨(⟨0,by omega,⟨rfl,rfl,ba⟩,rfl,ba⟩),fun F q_0=>iL (fun h8=>⟨?b,?c,(by rw[Sl ‹_›,nK];omega),(by exact⟨rfl,by rw[MW];simp only[bw];omega⟩),fun h9 h10=>⟨(by simp only[aM,aN]at*;omega),(⟨F+1,by omega,by omega,⟨by omega,(zJ _ _ _ _).symm,ba⟩,(zJ _ _ _ _).symm,(by trivial)⟩)⟩⟩) (fun h8=>(by rw[Dq (by omega) (by omega) ‹_›,show F=os.length by omega]))⟩)⟩))
 case a|b|c=>omega
def Tryz.Rq:bX Tryz.prog Tryz.B.eT Tryz.X 41 [.slice .str,.slice (.int .i64),.slice aB,.slice aR] [.slice iH,.err] (fun x=>x.2.2.1.length<=1000/\∀i,i<x.2.2.1.length->(nth aB x.2.2.1 i).2.1.length<=1000) (fun x y=>y=(fun x=>jL x.1 x.2.1 x.2.2.1 x.2.2.2) x):=
 cG (X:=Tryz.X) Tryz.TW Tryz.func41 (by kernel_rfl) (fun x=>Rp x.1 x.2.1 x.2.2.1 x.2.2.2) (fun x hw hp=>WG x.1 x.2.1 x.2.2.1 x.2.2.2 hw hp)
def Tryz.spZ26:Bool×aU:=(false,aZ Tryz.aW [.obj 0,.d .str] (fun _ x=>x.2.1.1.length<=6) Tryz.DN)
def Tryz.FJ:List (FuncId×(Bool×aU)):=[(12,Tryz.spZ26),(63,(true,cD [.slice aB] [.slice (.int .i64)] (fun l=>l.length<=1000) (fun l=>bZ l))),(62,(true,cD [.slice (.int .i64),.slice bA] [.slice (.int .i64),.err] (fun _=>True) (fun x=>cN x))),(64,(true,cD [.slice aB,.slice (.int .i64)] [.slice aR,.err] (fun x=>jN x.1) (fun x=>iI x)))]
def Tryz.KC:bP Tryz.prog Tryz.B Tryz.X Tryz.FJ:=
 aQ (Tryz.z7) (aQ (aE Tryz.Rl) (aQ (aE Tryz.TT) (aQ (aE Tryz.WC) (bR Tryz.bQ))))
def Tryz.vH:List (Alt Tryz.aW [.obj 0,.d .str]):=[{bN:=Tryz.aW,res:=[.d (.slice .str),.d (.slice aB),.d (.slice (.int .i64)),.d (.slice aR),.d .err],out:=fun _ x=>x,ret:=fun a x=>((aY (aG x) a.1).1,(aY (aG x) a.1).2.1,(aY (aG x) a.1).2.2.1,(aY (aG x) a.1).2.2.2.1,aJ (aY (aG x) a.1).2.2.2.2,())}]
def Rr(s:List UInt8)(f:cH)(hw:gV [.obj 0,.d .str] (s,()))(hp:(fun _ x=>x.2.1.1.length<=6) (s,()) f):(cY Tryz.B Tryz.FJ Tryz.f40 [] Tryz.aW [.obj 0,.d .str] Tryz.vH (s,()) f).holds:=by
 refine holds_of (p:=
  let za:=aT (aG f) s
  let zb:=aJ za.2.2
  let zc:=f=f
  let zd:=aY (aG f) s
  let ze:=(zd.1,zd.2.1,zd.2.2.1,zd.2.2.2.1,aJ zd.2.2.2.2,())
  let zf:=za.2.1
  let zg:=cN (bZ zf,[])
  let zh:=iI (zf,zg.1)
  bb f.2.1.1<=6/\(True->((!aL.isNil zb)=true->True/\zc/\([],[],[],[],zb,())=ze)/\((!aL.isNil zb)=false->bb zf<=1000/\True/\((!aL.isNil zg.2)=true->True/\zc/\([],[],[],[],zg.2,())=ze)/\((!aL.isNil zg.2)=false->jN zf/\((!aL.isNil zh.2)=true->True/\zc/\([],[],[],[],zh.2,())=ze)/\((!aL.isNil zh.2)=false->True/\zc/\(za.1,zf,zg.1,zh.1,aL.nil,())=ze))))) (by kernel_rfl) ?_
 dsimp -iota -proj -eta only;exact⟨(by trivial),fun h0=>iB (fun h1=>⟨ba,rfl,by rw[xu (dU h1)]⟩) (fun h1=>⟨(b4 (PF (jA hp) (aK.1 ‹_›)) (by decide)),ba,iB (fun h2=>⟨ba,rfl,by rw[xv (aK.1 ‹_›) h2,rf (Ch _)]⟩) (fun h2=>⟨(MX (jA hp) (aK.1 ‹_›)),iB (fun h3=>⟨ba,rfl,by rw[Ci (aK.1 ‹_›) ‹_› h3,SH]⟩) (fun h3=>(by exact⟨ba,rfl,by rw[zI (aK.1 ‹_›) ‹_› ‹_›];rfl⟩))⟩)⟩)⟩
def Tryz.FK:bY Tryz.prog Tryz.B.eT Tryz.X 40 false (aZ Tryz.aW [.obj 0,.d .str] (fun _ x=>x.2.1.1.length<=6) Tryz.vH):=
 bH (X:=Tryz.X) Tryz.KC Tryz.func40 (by kernel_rfl) (fun(a:CD [.obj 0,.d .str]) (x:PD Tryz.aW)=>[]) (fun(a:CD [.obj 0,.d .str]) (x:PD Tryz.aW) hw hp=>Rr a.1 x hw hp)
def Tryz.spZ27:Bool×aU:=(false,aZ Tryz.aW [.obj 0,.d .str] (fun _ x=>x.2.1.1.length<=6) Tryz.vH)
def Tryz.spZ28:Bool×aU:=(true,cD [.slice .str,.slice (.int .i64),.slice aB,.slice aR] [.slice iH,.err] (fun x=>x.2.2.1.length<=1000/\∀i,i<x.2.2.1.length->(nth aB x.2.2.1 i).2.1.length<=1000) (fun x=>jL x.1 x.2.1 x.2.2.1 x.2.2.2))
def Tryz.LJ:List (FuncId×(Bool×aU)):=[(40,Tryz.spZ27),(41,Tryz.spZ28)]
def Tryz.Rs:bP Tryz.prog Tryz.B Tryz.X Tryz.LJ:=
 aQ (Tryz.FK) (aQ (aE Tryz.Rq) (bR Tryz.bQ))
def Tryz.Bg:List (Alt Tryz.aW [.obj 0,.d .str]):=[{bN:=Tryz.aW,res:=[.d (.slice iH),.d .err],out:=fun _ x=>x,ret:=fun a x=>((gS (aG x) a.1).1,aJ (gS (aG x) a.1).2,())}]
def VJ(s:List UInt8)(f:cH)(hw:gV [.obj 0,.d .str] (s,()))(hp:(fun _ x=>x.2.1.1.length<=6) (s,()) f):(cY Tryz.B Tryz.LJ Tryz.f22 [] Tryz.aW [.obj 0,.d .str] Tryz.Bg (s,()) f).holds:=by
 refine holds_of (p:=
  let za:=aY (aG f) s
  let zb:=aJ za.2.2.2.2
  let zc:=gS (aG f) s
  let zd:=(zc.1,aJ zc.2,())
  let ze:=bb za.2.1
  let zf:=jL za.1 za.2.2.1 za.2.1 za.2.2.2.1
  bb f.2.1.1<=6/\(True->((!aL.isNil zb)=true->True/\f=f/\([],zb,())=zd)/\((!aL.isNil zb)=false->(ze<=1000/\∀(i:Nat),i<ze->bb (nth aB za.2.1 i).2.1<=1000)/\True/\f=f/\(zf.1,zf.2,())=zd))) (by kernel_rfl) ?_
 dsimp -iota -proj -eta only;exact⟨(by trivial),fun h0=>iB (fun h1=>⟨ba,rfl,by rw[SF (dU h1)]⟩) (fun h1=>⟨(HK (jA hp) (aK.1 ‹_›)),⟨ba,rfl,SG (aK.1 ‹_›)⟩⟩)⟩
def Tryz.VK:bY Tryz.prog Tryz.B.eT Tryz.X 22 false (aZ Tryz.aW [.obj 0,.d .str] (fun _ x=>x.2.1.1.length<=6) Tryz.Bg):=
 bH (X:=Tryz.X) Tryz.Rs Tryz.func22 (by kernel_rfl) (fun(a:CD [.obj 0,.d .str]) (x:PD Tryz.aW)=>[]) (fun(a:CD [.obj 0,.d .str]) (x:PD Tryz.aW) hw hp=>VJ a.1 x hw hp)
end Go.Proofs.YtgokjhhcfemnhadGreatDoor

