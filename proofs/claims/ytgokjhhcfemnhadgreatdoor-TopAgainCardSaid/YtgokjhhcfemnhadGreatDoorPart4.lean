/- A part of the proof that the law TopAgainCard holds of the given program: facts that are used there. -/
import Derived.Test.YtgokjhhcfemnhadGreatDoorPart3
import Derived.Test.YtgokjhhcfemnhadGreatDoorChecked
import Derived.Lib.LaidTab
import Derived.Lib.ItoaNum
import Derived.Shelf.Strconv.Itoa3
import Derived.Shelf.Strconv.AtoiAll
import Derived.Shelf.Strings.Split
import Derived.Shelf.Small.Wraps
import Derived.Shelf.Strings.Prefix
import Derived.Shelf.LaysM
import Derived.Shelf.LaysC
import Derived.Sort.Grow
import Derived.Lib.SplitLaws
import Derived.Lib.Builder
import Derived.Lib.UnsafeStr
import Derived.Lib.Strings
import Derived.Lib.Slices
import Derived.Lib.Walk
import Derived.Laws.Externs
import Derived.Deep.Heap
import Derived.Shelf.RegionOpenPlain
import Derived.RangeFuncLeaves
import Derived.Shelf.Abstract
import Derived.WalkKit
import Derived.OwnWalkIn
import Derived.TacticsInMore
import Derived.LoopNIn
import Derived.LoopIn
import Derived.BigRegionIn
import Derived.Deep.LoopGhost
import Derived.Deep.RegionLaw
import Derived.Lib.SliceRun
import Derived.Shelf.SlicesG.Delete
import Derived.Deep.Upon
set_option linter.unusedSimpArgs false
set_option linter.unusedVariables false
set_option maxRecDepth 100000
set_option maxHeartbeats 4000000
set_option linter.defProp false
noncomputable section
open True renaming intro->ba
open List renaming length->bb,nil->bc,take->bf,drop->bj,map->bo,length_append->bt,length_cons->bw,length_map->bx,length_nil->bz,length_singleton->b3,length_take->b7,replicate->ch,length_replicate->cp,range->cr,drop_zero->c6,set->c7,any->c8,take_of_length_le->de,length_eq_zero_iff->dk,length_eq_one_iff->dn,length_drop->dw,mem_of_getElem?->ef,length_set->en,range_succ->ep,take_zero->er
open Int renaming toNat->bd,fdiv->cf,tmod->da,le_refl->dh,one_mul->du,le_of_lt_add_one->dz,toNat_natCast->e0
open Prod renaming snd->bg,fst->bh
open Go.IntKind renaming wrap->bk,i64->bm,u64->bu,u8->cd,bits->cj
open Go.Lib renaming itoa->bp,countB->bq,trimSuffix->br,splitB->b8,trimPrefix->cb,cell_of_heap->cc,hasPrefix->cy,atoiAll->db,frozen_of_heap->dd,TabIs->di,pow10Tab->dj,atoiSat->dm,nDigits_small->dT,decDigits_length->ec,splitB_all->ed,splitB_data->ee,run_unsafeSliceData_row->ej
open Nat renaming zero_le->b4,le_trans->b5,le_refl->b9,min->cg,not_lt_zero->cu,add_zero->dp,lt_div_iff_mul_lt->eo
open UInt8 renaming toNat->b6
open BitVec renaming ofInt->ca,toNat->cq
open Option renaming isNone->ck,map_eq_some_iff->cz,map_some->eg
open Go.Builtin renaming zeroCells->cm,clear_->dx,unsafeSliceData_->ei,unsafeString_->ek
open Go.Value renaming string->cn
open Bool renaming noConfusion->ct,eq_iff_iff->dy
open Go.Shelf renaming Ren->cw
open ByteArray renaming size->dc
open Array renaming length_toList->df
open Go.Result renaming andThen->dq
open Go.Oper renaming upon_value->dr
open Go.Deep renaming nblk_setCell->ds,blk_setCell_other->dt
open And renaming intro->dv
open Go.World renaming shape?->eh,os_setCells->eu,output_setCells->ew,heap_setCells_other->ey
open Go.Proofs.Lays renaming n103->e5,n102->e9,n146->fa
open Go.Proofs.LaysM renaming n171->e7
open Go.Proofs.LaysC renaming n172->e8
open Go.Extern.AbiNoEscape renaming same->fb
namespace Go.Proofs.YtgokjhhcfemnhadGreatDoor
open Go.Vg
def Tryz.B:Cx:={eT:=94,τ:=[(2,(.int .i64)),(3,(.int .i64)),(4,.bool),(5,(.int .u8)),(7,(.prod (.int .i64) (.prod (.int .i64) (.prod .bool (.prod (.int .u8) .unit))))),(9,.str),(12,(.int .u64)),(13,(.prod .str (.prod (.int .u64) .unit))),(18,(.prod .gy .unit)),(21,(.int .i32)),(22,(.slice dC)),(23,.gy),(24,.gy),(25,.gy),(30,.err),(31,.err),(33,(.slice dH)),(36,(.slice .str)),(37,(.slice aB)),(40,(.slice (.int .i64))),(48,(.int .u64)),(50,(.slice aG)),(51,(.slice aR)),(52,aC),(53,aC),(54,dC),(55,dC),(66,.gy),(74,(.prod .gy (.prod .gy .unit))),(75,(.prod .gy (.prod .gy .unit))),(81,(.slice aS)),(82,(.slice bD)),(83,aB),(84,aB),(88,(.prod .str (.prod (.int .i64) .unit))),(89,(.prod .str (.prod (.int .i64) .unit))),(91,.gy),(92,(.prod .gy (.prod (.int .i64) .unit))),(93,(.prod .gy (.prod (.int .i64) .unit))),(94,(.int .i64)),(96,(.slice gR)),(97,Uv),(98,Uv),(99,gR),(100,gR),(107,dH),(108,dH),(112,aG),(113,aG),(114,(.slice aC)),(116,(.prod .gy (.prod (.int .i64) (.prod (.slice aC) .unit)))),(117,(.prod .gy (.prod (.int .i64) (.prod (.slice aC) .unit)))),(138,(.slice (.slice (.int .i64)))),(148,aR),(149,aR),(157,(.slice (.int .u8))),(162,aS),(163,aS),(164,bD),(165,bD),(168,(.prod .gy (.prod (.slice (.int .u8)) .unit))),(169,(.prod .gy (.prod (.slice (.int .u8)) .unit))),(175,(.int .u64)),(179,(.slice aY)),(180,aY),(181,aY),(197,(.int .u32)),(214,(.int .i64)),(227,(.prod (.int .u8) (.prod (.int .u8) .unit))),(228,(.prod (.int .u8) (.prod (.int .u8) .unit))),(233,(.prod .str (.prod .str (.prod .err .unit)))),(234,(.prod .str (.prod .str (.prod .err .unit)))),(242,(.prod .str .unit)),(243,(.prod .str .unit))],Ag:=[(221,(24,5)),(226,(256,5)),(229,(16,228)),(236,(20,48)),(237,(65,5)),(245,(32,5)),(246,(64,5)),(249,(0,16))],Γ:=[],N:=0,eqs:=[],oI:=[25,66,167],qA:=[(91,(9,89))],su:=[(169,5)]}
def Tryz.bQ:TyOK Tryz.prog Tryz.B:=U5 (n:=16) (by kernel_rfl)
structure Tryz.WI (w:World):Prop where
 pow:di Tryz.prog w "internal/strconv.uint64pow10" .u64 dj
 max:∃m,w.cell? ⟨0,0,none⟩=some (.int .i64 m)
 Xz:∃ev,w.cell? ⟨3,0,none⟩=some ev/\(ev=.nilIface\/∃te pe,ev=.iface te pe)
 XA:∃ev,w.cell? ⟨4,0,none⟩=some ev/\(ev=.nilIface\/∃te pe,ev=.iface te pe)
def Tryz.WJ:Tryz.prog.globalNamed "internal/strconv.uint64pow10" =some 5:=by kernel_rfl
def yD{w:World}{b o:Nat}{v:Value}(h:w.cell? ⟨b,o,none⟩=some v):b<w.heap.size:=by
 unfold World.cell? at h;by_cases hb:b<w.heap.size
 ·exact hb
 ·have h0:w.heap[b]?=none:=Array.getElem?_eq_none (by omega)
  simp[h0]at h
def vF{w w':World}{b o:Nat}(h:w'.heap[b]?=w.heap[b]?):w'.cell? ⟨b,o,none⟩=w.cell? ⟨b,o,none⟩:=by
 unfold World.cell?;rw[h]
def QQ{P:Program}{w w':World}{nm:String}{g:Nat}(hg:P.globalNamed nm=some g)(h:w'.heap[g]?=w.heap[g]?):w'.var? P nm=w.var? P nm:=by
 unfold World.var?;rw[hg];simp[h]
def Tryz.X:Ext:=
 {W8 with
  v7:=Tryz.WI
  DO:=[5,0,3,4]
  Gi:=fun{w} h b hb=>by
   obtain⟨h1,⟨m,h2⟩,⟨e3,h3,_⟩,⟨e4,h4,_⟩⟩:=h;simp only[List.mem_cons,List.not_mem_nil,or_false]at hb;rcases hb with rfl|rfl|rfl|rfl
   ·have h1':=World.var?_cell Tryz.WJ h1 0
    exact yD (v:=.int .u64 1) (by simpa[dj]using h1')
   ·exact yD h2
   ·exact yD h3
   ·exact yD h4
  Bo:=fun{w w'} h hb=>by
   obtain⟨h1,⟨m,h2⟩,⟨e3,h3,h5⟩,⟨e4,h4,h6⟩⟩:=h;refine⟨?_,⟨m,?_⟩,⟨e3,?_,h5⟩,⟨e4,?_,h6⟩⟩
   ·unfold di at h1 ⊢
    rw[QQ Tryz.WJ (hb 5 (by simp))];exact h1
   ·rw[vF (hb 0 (by simp))];exact h2
   ·rw[vF (hb 3 (by simp))];exact h3
   ·rw[vF (hb 4 (by simp))];exact h4}
end Go.Proofs.YtgokjhhcfemnhadGreatDoor

namespace Go.Proofs.YtgokjhhcfemnhadGreatDoor
open Go.Vg Go.Mrl
def ID(s:List UInt8):dO:=[(0,fun st=>{X:=Nat,inv:=fun i=>i<=s.length/\∀j,j<i->ki j (dP s j)=false,cA:=fun i=>s.length-i,bK:=fun i=>[(15,.s (.one (.d (.int .i64) i)))],aF:=fun _=>[],keep:=[0,14],gP:=[]})]
def TG(s:List UInt8)(hw:gA [.str] s):(dG Tryz.B [] Tryz.f45 (ID s) [.str] [.err] (fun x y=>y=(fun s=>aI (aP s)) x) s).holds:=by
 refine holds_of (p:=
  let za:=aI (aP s)
  let zb:=aK.no 1=za
  let zc:=bb s
  let zd:=fun(F:Nat)=>(↑(b6 (dP s F)):Int)
  let ze:=aK.no 3=za
  let zf:=fun(F:Nat)=>aJ (↑F:Int)->aJ 1->aJ ((↑F:Int)+1)/\∃(x':Nat),(x'<=zc/\∀(j:Nat),j<x'->ki j (dP s j)=false)/\zc-x'<zc-F/\((↑F:Int)+1=(↑x':Int)/\True)/\True
  let zg:=fun(F:Nat)=>((zd F != 95)=true->ze)/\((zd F != 95)=false->zf F)
  let zh:=fun(F:Nat)=>(((↑F:Int) == 0)=true->ze)/\(((↑F:Int) == 0)=false->((decide (zd F<48))=true->zg F)/\((decide (zd F<48))=false->((decide (zd F > 57))=true->zg F)/\((decide (zd F > 57))=false->zf F)))
  ((s == @bc UInt8)=true->zb)/\((s == @bc UInt8)=false->zc<=aL->((decide ((↑zc:Int) > 8))=true->zb)/\((decide ((↑zc:Int) > 8))=false->zc<=aL->(∃(x:Nat),(x<=zc/\∀(j:Nat),j<x->ki j (dP s j)=false)/\(0=(↑x:Int)/\True)/\True)/\∀F:Nat,(F<=zc/\∀(j:Nat),j<F->ki j (dP s j)=false)->((decide ((↑F:Int)<(↑zc:Int)))=true->(0<=(↑F:Int)/\(↑F:Int)<(↑zc:Int))/\((decide (zd F<97))=true->zh F)/\((decide (zd F<97))=false->((decide (zd F > 122))=true->zh F)/\((decide (zd F > 122))=false->zf F)))/\((decide ((↑F:Int)<(↑zc:Int)))=false->aK.nil=za)))) (by kernel_rfl) ?_
 dsimp -iota -proj -eta only;refine iQ (fun h0 =>?a) (fun h0 h1=>iL (fun h2 =>?b) (fun h2 h3=>⟨(⟨0,⟨by omega,fun j hj=>by omega⟩,⟨rfl,ba⟩,ba⟩),fun F q_0=>iL (fun h4=>⟨?c,iL (fun h5=>iQ (fun h6 =>?d) (fun h6=>iL (fun h7=>iN (fun h8 =>?e) (fun h8 h9 h10=>⟨?f,?g⟩)) (fun h7=>iL (fun h8=>iN (fun h9 =>?h) (fun h9 h10 h11=>⟨?i,?j⟩)) (fun h8 h9 h10=>⟨?k,?l⟩)))) (fun h5=>iL (fun h6=>iQ (fun h7 =>?m) (fun h7=>iL (fun h8=>iN (fun h9 =>?n) (fun h9 h10 h11=>⟨?o,?p⟩)) (fun h8=>iL (fun h9=>iN (fun h10 =>?q) (fun h10 h11 h12=>⟨?r,?s⟩)) (fun h9 h10 h11=>⟨?t,?u⟩)))) (fun h6 h7 h8=>⟨?v,?w⟩))⟩) (fun h4 =>?x)⟩))
 case a|b=>rw[FU (by first|omega|simp[h0])];rfl
 case c|f|o|r|t=>omega
 case d|e|h|m|n|q=>
  have hl:s.length≠0:=fun e=>h0 (dk.1 e)
  rw[B2 (i:=F) (by omega) (by omega) (Ek.2 (by omega))];rfl
 case g|j|l|p|s|u|w=>exact⟨F+1,⟨by omega,Sz q_0.2 (JJ.2 (by omega))⟩,by omega,⟨by omega,ba⟩,ba⟩
 case i|k|v=>simp only[aJ,aL]at*;omega
 case x=>
  have hl:s.length≠0:=fun e=>h0 (dk.1 e)
  rw[Dh (by omega) (fun i hi=>q_0.2 i (by omega))];rfl
def Tryz.jm:bW Tryz.prog Tryz.B.eT Tryz.X 45 [.str] [.err] (fun _=>True) (fun x y=>y=(fun s=>aI (aP s)) x):=
 cC (X:=Tryz.X) (bR Tryz.bQ) Tryz.func45 (by kernel_rfl) (fun x=>ID x) (fun x hw hp=>TG x hw)
def QS(e:aK)(hw:gA [.err] e):(dG Tryz.B [] Tryz.f17 [] [.err] [.int .i64] (fun x y=>y=(fun e=>jK e) x) e).holds:=by
 refine holds_of (p:=
  ((aK.isNil e)=true->0=jK e)/\((aK.isNil e)=false->((!aK.LW e)=true->(-1:Int)=jK e)/\((!aK.LW e)=false->aK.num e=jK e))) (by kernel_rfl) ?_
 refine⟨fun h0 =>?a,fun h0=>iB (fun h1 =>?b) (fun h1 =>?c)⟩
 case a|b|c=>cases e <;> simp_all [aK.isNil,aK.LW,aK.num,jK]
def Tryz.ir:bW Tryz.prog Tryz.B.eT Tryz.X 17 [.err] [.int .i64] (fun _=>True) (fun x y=>y=(fun e=>jK e) x):=
 cC (X:=Tryz.X) (bR Tryz.bQ) Tryz.func17 (by kernel_rfl) (fun _=>[]) (fun x hw hp=>QS x hw)
def Tryz.spZ0:Bool×aT:=(true,cB [.str] [.err] (fun _=>True) (fun s=>aI (aP s)))
def Tryz.spZ1:Bool×aT:=(true,cB [.err] [.int .i64] (fun _=>True) (fun e=>jK e))
def Tryz.Ls:List (FuncId×(Bool×aT)):=[(45,Tryz.spZ0),(17,Tryz.spZ1)]
def Tryz.QT:bO Tryz.prog Tryz.B Tryz.X Tryz.Ls:=
 aN (aE Tryz.jm) (aN (aE Tryz.ir) (bR Tryz.bQ))
def Lt(e:D aC):dO:=[
 (0,fun st=>{X:=Nat,inv:=fun i=>i<=bb e.2.1/\∀j,j<i->eD (nth aG e.2.1 j)=0,cA:=fun i=>bb e.2.1-i,bK:=fun i=>[(34,sI i)],keep:=[1,32,33]}),
 (2,fun st=>{X:=Nat,inv:=fun i=>i<=bb e.2.2.1/\∀j,j<i->eM e.2.1.length (nth aR e.2.2.1 j)=0,cA:=fun i=>bb e.2.2.1-i,bK:=fun i=>[(73,sI i)],keep:=[1,71,72]})]
def QU(e:D aC)(hw:gA [aC] e):(dG Tryz.B Tryz.Ls Tryz.f46 (Lt e) [aC] [.err] (fun x y=>y=(fun e=>aI (bC e)) x) e).holds:=by
 refine holds_of (p:=
  let za:=aI (aP e.1)
  let zb:=aI (bC e)
  let zc:=e.2.1
  let zd:=bb zc
  let ze:=zd<=aL
  let zf:=(↑zd:Int)
  let zg:=aK.no (2:Int)=zb
  let zh:=e.2.2.1
  let zi:=bb zh
  let zj:=fun(F:Nat)=>aI (aP (nth aG zc F).1)
  let zk:=aK.no (1:Int)=zb
  let zl:=fun(F:Nat)=>(nth aG zc F).2.2.1
  let zm:=fun(F:Nat)=>(↑F:Int)+(1:Int)
  let zn:=(e.1=e.1/\zc=zc/\zh=zh/\True)/\True
  True/\((!aK.isNil za)=true->za=zb)/\((!aK.isNil za)=false->ze->((decide (zf<(1:Int)))=true->zg)/\((decide (zf<(1:Int)))=false->ze->((decide (zf > (6:Int)))=true->zg)/\((decide (zf > (6:Int)))=false->zi<=aL->((decide ((↑zi:Int) > (36:Int)))=true->zg)/\((decide ((↑zi:Int) > (36:Int)))=false->ze->(∃(x:Nat),(x<=zd/\∀(j:Nat),j<x->eD (nth aG zc j)=(0:Int))/\((0:Int)=(↑x:Int)/\True)/\True)/\∀F:Nat,(F<=zd/\∀(j:Nat),j<F->eD (nth aG zc j)=(0:Int))->((decide ((↑F:Int)<zf))=true->((0:Int)<=(↑F:Int)/\(↑F:Int)<zf)/\True/\((!aK.isNil (zj F))=true->zj F=zb)/\((!aK.isNil (zj F))=false->((decide ((nth aG zc F).2.1<(1:Int)))=true->zk)/\((decide ((nth aG zc F).2.1<(1:Int)))=false->((decide ((nth aG zc F).2.1 > (1000000:Int)))=true->zk)/\((decide ((nth aG zc F).2.1 > (1000000:Int)))=false->((decide (zl F<(0:Int)))=true->zk)/\((decide (zl F<(0:Int)))=false->((decide (zl F>=(256:Int)))=true->zk)/\((decide (zl F>=(256:Int)))=false->(16:Int)≠(0:Int)/\∀I:Int,I=da (zl F) (16:Int)->((I != (0:Int))=true->zk)/\((I != (0:Int))=false->aJ (↑F:Int)->aJ (1:Int)->aJ (zm F)/\∃(x':Nat),(x'<=zd/\∀(j:Nat),j<x'->eD (nth aG zc j)=(0:Int))/\zd-x'<zd-F/\(zm F=(↑x':Int)/\True)/\zn)))))))/\((decide ((↑F:Int)<zf))=false->zi<=aL->(∃(x:Nat),(x<=zi/\∀(j:Nat),j<x->eM zd (nth aR zh j)=(0:Int))/\((0:Int)=(↑x:Int)/\True)/\True)/\∀I:Nat,(I<=zi/\∀(j:Nat),j<I->eM zd (nth aR zh j)=(0:Int))->((decide ((↑I:Int)<(↑zi:Int)))=true->((0:Int)<=(↑I:Int)/\(↑I:Int)<(↑zi:Int))/\((decide ((nth aR zh I).1<(0:Int)))=true->zk)/\((decide ((nth aR zh I).1<(0:Int)))=false->ze->((decide ((nth aR zh I).1>=zf))=true->zk)/\((decide ((nth aR zh I).1>=zf))=false->((decide ((nth aR zh I).2.1<(0:Int)))=true->zk)/\((decide ((nth aR zh I).2.1<(0:Int)))=false->((decide ((nth aR zh I).2.1>=(40:Int)))=true->zk)/\((decide ((nth aR zh I).2.1>=(40:Int)))=false->((decide ((nth aR zh I).2.2.1<(-2147483648:Int)))=true->zk)/\((decide ((nth aR zh I).2.2.1<(-2147483648:Int)))=false->((decide ((nth aR zh I).2.2.1 > (2147483647:Int)))=true->zk)/\((decide ((nth aR zh I).2.2.1 > (2147483647:Int)))=false->aJ (↑I:Int)->aJ (1:Int)->aJ (zm I)/\∃(x':Nat),(x'<=zi/\∀(j:Nat),j<x'->eM zd (nth aR zh j)=(0:Int))/\zi-x'<zi-I/\(zm I=(↑x':Int)/\True)/\zn)))))))/\((decide ((↑I:Int)<(↑zi:Int)))=false->aK.nil=zb))))))) (by kernel_rfl) ?_
 dsimp -iota -proj -eta only;refine⟨ba,iB (fun h0=>(by rw[zM (mY (eU _) h0)])) (fun h0 h1=>iL (fun h2=>(by rw[qu (dF (by assumption:(aI (aP e.1)).isNil=true)) (.inl (by omega))];rfl)) (fun h2 h3=>iL (fun h4=>(by rw[qu (dF (by assumption:(aI (aP e.1)).isNil=true)) (.inr (.inl (by omega)))];rfl)) (fun h4 h5=>iL (fun h6=>(by rw[qu (dF (by assumption:(aI (aP e.1)).isNil=true)) (.inr (.inr (by omega)))];rfl)) (fun h6 h7=>⟨?a,fun F q_0=>iL (fun h8=>⟨?b,ba,iB (fun h9=>(by have hp:=mY (eU _) h9;rw[(jz (dF (by assumption:(aI (aP e.1)).isNil=true)) (iK (by omega) (by omega) (by omega)) q_0.2 (by omega) (Ng hp) (by omega))])) (fun h9=>iL (fun h10=>(by rw[(jz (dF (by assumption:(aI (aP e.1)).isNil=true)) (iK (by omega) (by omega) (by omega)) q_0.2 (by omega) (qM (dF h9) (.inl ‹_›)) (by decide))];rfl)) (fun h10=>iL (fun h11=>(by rw[(jz (dF (by assumption:(aI (aP e.1)).isNil=true)) (iK (by omega) (by omega) (by omega)) q_0.2 (by omega) (qM (dF h9) (.inr (.inl ‹_›))) (by decide))];rfl)) (fun h11=>iL (fun h12=>(by rw[(jz (dF (by assumption:(aI (aP e.1)).isNil=true)) (iK (by omega) (by omega) (by omega)) q_0.2 (by omega) (qM (dF h9) (.inr (.inr (.inl ‹_›)))) (by decide))];rfl)) (fun h12=>iE (fun h13=>(by rw[(jz (dF (by assumption:(aI (aP e.1)).isNil=true)) (iK (by omega) (by omega) (by omega)) q_0.2 (by omega) (qM (dF h9) (.inr (.inr (.inr (.inl ‹_›))))) (by decide))];rfl)) (fun h13=>⟨(by trivial),fun I q_1=>iN (fun h14=>(by have hb:=HT h12 q_1;rw[(jz (dF (by assumption:(aI (aP e.1)).isNil=true)) (iK (by omega) (by omega) (by omega)) q_0.2 (by omega) (qM (dF h9) (.inr (.inr (.inr (.inr (by rw[hb]at h14;exact(Int.lt_iff_le_and_ne.2 ⟨Int.emod_nonneg _ (by decide),fun e'=>h14 e'.symm⟩))))))) (by decide))];rfl)) (fun h14 h15 h16=>⟨?c,(by have hb:=HT h12 q_1;exact⟨F+1,⟨by omega,lX q_0.2 (HS (dF h9) h10 h11 h12 (dz (show _<(255:Int)+1 from h13)) (hb.symm.trans h14))⟩,by omega,⟨by omega,ba⟩,(by trivial)⟩)⟩)⟩)))))⟩) (fun h8 h9=>⟨?d,fun I q_1=>iL (fun h10=>⟨?e,iL (fun h11=>(by rw[(jA (dF (by assumption:(aI (aP e.1)).isNil=true)) (iK (by omega) (by omega) (by omega)) (fun j hj=>q_0.2 j (by omega)) q_1.2 (by omega) (oY (.inl ‹_›)))];rfl)) (fun h11 h12=>iE (fun h13=>(by rw[(jA (dF (by assumption:(aI (aP e.1)).isNil=true)) (iK (by omega) (by omega) (by omega)) (fun j hj=>q_0.2 j (by omega)) q_1.2 (by omega) (oY (.inr (.inl ‹_›))))];rfl)) (fun h13=>iL (fun h14=>(by rw[(jA (dF (by assumption:(aI (aP e.1)).isNil=true)) (iK (by omega) (by omega) (by omega)) (fun j hj=>q_0.2 j (by omega)) q_1.2 (by omega) (oY (.inr (.inr (.inl ‹_›)))))];rfl)) (fun h14=>iE (fun h15=>(by rw[(jA (dF (by assumption:(aI (aP e.1)).isNil=true)) (iK (by omega) (by omega) (by omega)) (fun j hj=>q_0.2 j (by omega)) q_1.2 (by omega) (oY (.inr (.inr (.inr (.inl ‹_›))))))];rfl)) (fun h15=>iL (fun h16=>(by rw[(jA (dF (by assumption:(aI (aP e.1)).isNil=true)) (iK (by omega) (by omega) (by omega)) (fun j hj=>q_0.2 j (by omega)) q_1.2 (by omega) (oY (.inr (.inr (.inr (.inr (.inl ‹_›)))))))];rfl)) (fun h16=>iL (fun h17=>(by rw[(jA (dF (by assumption:(aI (aP e.1)).isNil=true)) (iK (by omega) (by omega) (by omega)) (fun j hj=>q_0.2 j (by omega)) q_1.2 (by omega) (oY (.inr (.inr (.inr (.inr (.inr ‹_›)))))))];rfl)) (fun h17 h18 h19=>⟨?f,(⟨I+1,⟨by omega,lX q_1.2 (Co ‹_› ‹_› ‹_› (dz (show _<(39:Int)+1 from h15)) ‹_› ‹_›)⟩,by omega,⟨by omega,ba⟩,(by trivial)⟩)⟩))))))⟩) (fun h10=>(by rw[EN (dF (by assumption:(aI (aP e.1)).isNil=true)) (iK (by omega) (by omega) (by omega)) (fun j hj=>q_0.2 j (by omega)) (fun j hj=>q_1.2 j (by omega))];rfl))⟩)⟩))))⟩
 case a|d=>exact⟨0,⟨b4 _,fun j hj=>absurd hj (cu _)⟩,⟨rfl,ba⟩,ba⟩
 case b|e=>omega
 case c|f=>simp only[aJ,aL]at*;omega
def Tryz.Fa:bW Tryz.prog Tryz.B.eT Tryz.X 46 [aC] [.err] (fun _=>True) (fun x y=>y=(fun e=>aI (bC e)) x):=
 cC (X:=Tryz.X) Tryz.QT Tryz.func46 (by kernel_rfl) (fun x=>Lt x) (fun x hw hp=>QU x hw)
end Go.Proofs.YtgokjhhcfemnhadGreatDoor

namespace Go.Proofs.YtgokjhhcfemnhadGreatDoor
open Go.Shelf
def Tryz.Kc:cw:=⟨fun|103=>81|210=>102|206=>119|n=>n,fun|9=>9|4=>4|24=>159|3=>3|n=>n,fun|n=>n⟩
def Tryz.VA:e5 Tryz.prog Tryz.Kc:={
 mixed:=by kernel_rfl
 f103:=Tryz.func81.trans (congrArg some (by kernel_rfl))
 f206:=Tryz.func119.trans (congrArg some (by kernel_rfl))
 f210:=Tryz.func102.trans (congrArg some (by kernel_rfl))
 t3:=Tryz.underlying3
 a3:=Tryz.isAgg3
 z3:=Tryz.sizeOf3
 v3:=Tryz.zeroValue3
 t4:=Tryz.underlying4
 a4:=Tryz.isAgg4
 z4:=Tryz.sizeOf4
 v4:=Tryz.zeroValue4
 t9:=Tryz.underlying9
 a9:=Tryz.isAgg9
 z9:=Tryz.sizeOf9
 v9:=Tryz.zeroValue9
 t24:=Tryz.underlying159
 a24:=Tryz.isAgg159
 z24:=Tryz.sizeOf159
 v24:=Tryz.zeroValue159}
open Go.RowKit in
def Tryz.strings_CutPrefix(s p:ByteArray)(w:World) :
  Calls Tryz.prog 81 #[.string s,.string p] w fun e w'=>e=.returned (.tuple #[.string ⟨(cb s.data.toList p.data.toList).toArray⟩,.bool (cy s.data.toList p.data.toList)])/\w'=w:=Any.strings_CutPrefix Tryz.VA s p w
def Tryz.IE:cw:=⟨fun|171=>84|243=>107|246=>124|283=>139|284=>140|285=>141|286=>142|129=>149|317=>148|318=>150|319=>151|320=>152|337=>155|338=>156|n=>n,fun|3=>3|9=>9|2=>2|4=>4|171=>221|0=>0|53=>48|37=>157|5=>5|173=>224|212=>236|51=>197|20=>20|213=>237|46=>175|232=>245|233=>246|n=>n,fun|17=>5|18=>6|19=>7|n=>n⟩
def Tryz.TH:e7 Tryz.prog Tryz.IE:={
 mixed:=by kernel_rfl
 f129:=Tryz.func149.trans (congrArg some (by kernel_rfl))
 f171:=Tryz.func84.trans (congrArg some (by kernel_rfl))
 f243:=Tryz.func107.trans (congrArg some (by kernel_rfl))
 f246:=Tryz.func124.trans (congrArg some (by kernel_rfl))
 f283:=Tryz.func139.trans (congrArg some (by kernel_rfl))
 f284:=Tryz.func140.trans (congrArg some (by kernel_rfl))
 f285:=Tryz.func141.trans (congrArg some (by kernel_rfl))
 f286:=Tryz.func142.trans (congrArg some (by kernel_rfl))
 f317:=Tryz.func148.trans (congrArg some (by kernel_rfl))
 f318:=Tryz.func150.trans (congrArg some (by kernel_rfl))
 f319:=Tryz.func151.trans (congrArg some (by kernel_rfl))
 f320:=Tryz.func152.trans (congrArg some (by kernel_rfl))
 f337:=Tryz.func155.trans (congrArg some (by kernel_rfl))
 f338:=Tryz.func156.trans (congrArg some (by kernel_rfl))
 t0:=Tryz.underlying0
 a0:=Tryz.isAgg0
 z0:=Tryz.sizeOf0
 v0:=Tryz.zeroValue0
 t2:=Tryz.underlying2
 a2:=Tryz.isAgg2
 z2:=Tryz.sizeOf2
 v2:=Tryz.zeroValue2
 t3:=Tryz.underlying3
 a3:=Tryz.isAgg3
 z3:=Tryz.sizeOf3
 v3:=Tryz.zeroValue3
 t4:=Tryz.underlying4
 a4:=Tryz.isAgg4
 z4:=Tryz.sizeOf4
 v4:=Tryz.zeroValue4
 t5:=Tryz.underlying5
 a5:=Tryz.isAgg5
 z5:=Tryz.sizeOf5
 v5:=Tryz.zeroValue5
 t9:=Tryz.underlying9
 a9:=Tryz.isAgg9
 z9:=Tryz.sizeOf9
 v9:=Tryz.zeroValue9
 t20:=Tryz.underlying20
 a20:=Tryz.isAgg20
 z20:=Tryz.sizeOf20
 v20:=Tryz.zeroValue20
 t37:=Tryz.underlying157
 a37:=Tryz.isAgg157
 z37:=Tryz.sizeOf157
 v37:=Tryz.zeroValue157
 t46:=Tryz.underlying175
 a46:=Tryz.isAgg175
 z46:=Tryz.sizeOf175
 v46:=Tryz.zeroValue175
 t51:=Tryz.underlying197
 a51:=Tryz.isAgg197
 z51:=Tryz.sizeOf197
 v51:=Tryz.zeroValue197
 t53:=Tryz.underlying48
 a53:=Tryz.isAgg48
 z53:=Tryz.sizeOf48
 v53:=Tryz.zeroValue48
 t171:=Tryz.underlying221
 a171:=Tryz.isAgg221
 z171:=Tryz.sizeOf221
 v171:=Tryz.zeroValue221
 t173:=Tryz.underlying224
 a173:=Tryz.isAgg224
 z173:=Tryz.sizeOf224
 v173:=Tryz.zeroValue224
 t212:=Tryz.underlying236
 a212:=Tryz.isAgg236
 z212:=Tryz.sizeOf236
 v212:=Tryz.zeroValue236
 t213:=Tryz.underlying237
 a213:=Tryz.isAgg237
 z213:=Tryz.sizeOf237
 t232:=Tryz.underlying245
 a232:=Tryz.isAgg245
 z232:=Tryz.sizeOf245
 v232:=Tryz.zeroValue245
 t233:=Tryz.underlying246
 a233:=Tryz.isAgg246
 z233:=Tryz.sizeOf246
 v233:=Tryz.zeroValue246
 g17:=by kernel_rfl
 g18:=by kernel_rfl
 g19:=by kernel_rfl
 i0:=by kernel_rfl
 i2:=by kernel_rfl
 i3:=by kernel_rfl
 i4:=by kernel_rfl
 i5:=by kernel_rfl
 i9:=by kernel_rfl
 i20:=by kernel_rfl
 i37:=by kernel_rfl
 i46:=by kernel_rfl
 i51:=by kernel_rfl
 i53:=by kernel_rfl
 i171:=by kernel_rfl
 i173:=by kernel_rfl
 i212:=by kernel_rfl
 i232:=by kernel_rfl
 i233:=by kernel_rfl
 m17:=by kernel_rfl
 m18:=by kernel_rfl
 m19:=by kernel_rfl}
open Go.RowKit Go.Sort Go.Lib in
def Tryz.strconv_Itoa(n:Int)(h0 : -9223372036854775808<=n)(h1:n<=9223372036854775807)(w:World)(htab:di Tryz.prog w "internal/strconv.uint64pow10" .u64 dj) :
  Calls Tryz.prog 84 #[.int .i64 n] w fun e w'=>e=.returned (.string ⟨(bp n).toArray⟩)/\∃k os,w'=grow (w.drewN k) os:=Any.strconv_Itoa Tryz.TH n h0 h1 w htab
def Tryz.IF:cw:=⟨fun|172=>103|244=>120|245=>121|247=>133|279=>134|280=>135|281=>136|282=>137|287=>145|316=>146|171=>84|205=>147|321=>153|322=>154|243=>107|246=>124|283=>139|284=>140|285=>141|286=>142|129=>149|317=>148|318=>150|319=>151|320=>152|337=>155|338=>156|n=>n,fun|9=>9|3=>3|75=>31|76=>171|4=>4|5=>5|167=>214|37=>157|0=>0|85=>215|2=>2|168=>217|53=>48|175=>231|46=>175|210=>234|127=>192|145=>243|143=>241|21=>21|171=>221|173=>224|212=>236|51=>197|20=>20|213=>237|232=>245|233=>246|80=>174|n=>n,fun|15=>3|16=>4|17=>5|18=>6|19=>7|n=>n⟩
def Tryz.A6:e8 Tryz.prog Tryz.IF:={
 mixed:=by kernel_rfl
 f129:=Tryz.func149.trans (congrArg some (by kernel_rfl))
 f171:=Tryz.func84.trans (congrArg some (by kernel_rfl))
 f172:=Tryz.func103.trans (congrArg some (by kernel_rfl))
 f205:=Tryz.func147.trans (congrArg some (by kernel_rfl))
 f243:=Tryz.func107.trans (congrArg some (by kernel_rfl))
 f244:=Tryz.func120.trans (congrArg some (by kernel_rfl))
 f245:=Tryz.func121.trans (congrArg some (by kernel_rfl))
 f246:=Tryz.func124.trans (congrArg some (by kernel_rfl))
 f247:=Tryz.func133.trans (congrArg some (by kernel_rfl))
 f279:=Tryz.func134.trans (congrArg some (by kernel_rfl))
 f280:=Tryz.func135.trans (congrArg some (by kernel_rfl))
 f281:=Tryz.func136.trans (congrArg some (by kernel_rfl))
 f282:=Tryz.func137.trans (congrArg some (by kernel_rfl))
 f283:=Tryz.func139.trans (congrArg some (by kernel_rfl))
 f284:=Tryz.func140.trans (congrArg some (by kernel_rfl))
 f285:=Tryz.func141.trans (congrArg some (by kernel_rfl))
 f286:=Tryz.func142.trans (congrArg some (by kernel_rfl))
 f287:=Tryz.func145.trans (congrArg some (by kernel_rfl))
 f316:=Tryz.func146.trans (congrArg some (by kernel_rfl))
 f317:=Tryz.func148.trans (congrArg some (by kernel_rfl))
 f318:=Tryz.func150.trans (congrArg some (by kernel_rfl))
 f319:=Tryz.func151.trans (congrArg some (by kernel_rfl))
 f320:=Tryz.func152.trans (congrArg some (by kernel_rfl))
 f321:=Tryz.func153.trans (congrArg some (by kernel_rfl))
 f322:=Tryz.func154.trans (congrArg some (by kernel_rfl))
 f337:=Tryz.func155.trans (congrArg some (by kernel_rfl))
 f338:=Tryz.func156.trans (congrArg some (by kernel_rfl))
 t0:=Tryz.underlying0
 a0:=Tryz.isAgg0
 z0:=Tryz.sizeOf0
 v0:=Tryz.zeroValue0
 t2:=Tryz.underlying2
 a2:=Tryz.isAgg2
 z2:=Tryz.sizeOf2
 v2:=Tryz.zeroValue2
 t3:=Tryz.underlying3
 a3:=Tryz.isAgg3
 z3:=Tryz.sizeOf3
 v3:=Tryz.zeroValue3
 t4:=Tryz.underlying4
 a4:=Tryz.isAgg4
 z4:=Tryz.sizeOf4
 v4:=Tryz.zeroValue4
 t5:=Tryz.underlying5
 a5:=Tryz.isAgg5
 z5:=Tryz.sizeOf5
 v5:=Tryz.zeroValue5
 t9:=Tryz.underlying9
 a9:=Tryz.isAgg9
 z9:=Tryz.sizeOf9
 v9:=Tryz.zeroValue9
 t20:=Tryz.underlying20
 a20:=Tryz.isAgg20
 z20:=Tryz.sizeOf20
 v20:=Tryz.zeroValue20
 t21:=Tryz.underlying21
 a21:=Tryz.isAgg21
 z21:=Tryz.sizeOf21
 v21:=Tryz.zeroValue21
 t37:=Tryz.underlying157
 a37:=Tryz.isAgg157
 z37:=Tryz.sizeOf157
 v37:=Tryz.zeroValue157
 t46:=Tryz.underlying175
 a46:=Tryz.isAgg175
 z46:=Tryz.sizeOf175
 v46:=Tryz.zeroValue175
 t51:=Tryz.underlying197
 a51:=Tryz.isAgg197
 z51:=Tryz.sizeOf197
 v51:=Tryz.zeroValue197
 t53:=Tryz.underlying48
 a53:=Tryz.isAgg48
 z53:=Tryz.sizeOf48
 v53:=Tryz.zeroValue48
 t75:=Tryz.underlying31
 a75:=Tryz.isAgg31
 z75:=Tryz.sizeOf31
 v75:=Tryz.zeroValue31
 t76:=Tryz.underlying171
 a76:=Tryz.isAgg171
 z76:=Tryz.sizeOf171
 v76:=Tryz.zeroValue171
 t85:=Tryz.underlying215
 a85:=Tryz.isAgg215
 z85:=Tryz.sizeOf215
 v85:=Tryz.zeroValue215
 t127:=Tryz.underlying192
 a127:=Tryz.isAgg192
 z127:=Tryz.sizeOf192
 v127:=Tryz.zeroValue192
 t143:=Tryz.underlying241
 a143:=Tryz.isAgg241
 z143:=Tryz.sizeOf241
 v143:=Tryz.zeroValue241
 t145:=Tryz.underlying243
 a145:=Tryz.isAgg243
 z145:=Tryz.sizeOf243
 v145:=Tryz.zeroValue243
 t167:=Tryz.underlying214
 a167:=Tryz.isAgg214
 z167:=Tryz.sizeOf214
 v167:=Tryz.zeroValue214
 t168:=Tryz.underlying217
 a168:=Tryz.isAgg217
 z168:=Tryz.sizeOf217
 v168:=Tryz.zeroValue217
 t171:=Tryz.underlying221
 a171:=Tryz.isAgg221
 z171:=Tryz.sizeOf221
 v171:=Tryz.zeroValue221
 t173:=Tryz.underlying224
 a173:=Tryz.isAgg224
 z173:=Tryz.sizeOf224
 v173:=Tryz.zeroValue224
 t175:=Tryz.underlying231
 a175:=Tryz.isAgg231
 z175:=Tryz.sizeOf231
 v175:=Tryz.zeroValue231
 t210:=Tryz.underlying234
 a210:=Tryz.isAgg234
 z210:=Tryz.sizeOf234
 v210:=Tryz.zeroValue234
 t212:=Tryz.underlying236
 a212:=Tryz.isAgg236
 z212:=Tryz.sizeOf236
 v212:=Tryz.zeroValue236
 t213:=Tryz.underlying237
 a213:=Tryz.isAgg237
 z213:=Tryz.sizeOf237
 t232:=Tryz.underlying245
 a232:=Tryz.isAgg245
 z232:=Tryz.sizeOf245
 v232:=Tryz.zeroValue245
 t233:=Tryz.underlying246
 a233:=Tryz.isAgg246
 z233:=Tryz.sizeOf246
 v233:=Tryz.zeroValue246
 g15:=by kernel_rfl
 g16:=by kernel_rfl
 g17:=by kernel_rfl
 g18:=by kernel_rfl
 g19:=by kernel_rfl
 t80:=Tryz.underlying174
 a80:=Tryz.isAgg174
 z80:=Tryz.sizeOf174
 v80:=Tryz.zeroValue174
 i0:=by kernel_rfl
 i2:=by kernel_rfl
 i3:=by kernel_rfl
 i4:=by kernel_rfl
 i5:=by kernel_rfl
 i9:=by kernel_rfl
 i20:=by kernel_rfl
 i21:=by kernel_rfl
 i37:=by kernel_rfl
 i46:=by kernel_rfl
 i51:=by kernel_rfl
 i53:=by kernel_rfl
 i75:=by kernel_rfl
 i76:=by kernel_rfl
 i80:=by kernel_rfl
 i85:=by kernel_rfl
 i127:=by kernel_rfl
 i143:=by kernel_rfl
 i145:=by kernel_rfl
 i167:=by kernel_rfl
 i168:=by kernel_rfl
 i171:=by kernel_rfl
 i173:=by kernel_rfl
 i175:=by kernel_rfl
 i210:=by kernel_rfl
 i212:=by kernel_rfl
 i232:=by kernel_rfl
 i233:=by kernel_rfl
 m15:=by kernel_rfl
 m16:=by kernel_rfl
 m17:=by kernel_rfl
 m18:=by kernel_rfl
 m19:=by kernel_rfl
 c0:=by kernel_rfl
 c2:=by kernel_rfl
 c3:=by kernel_rfl
 c4:=by kernel_rfl
 c5:=by kernel_rfl
 c9:=by kernel_rfl
 c20:=by kernel_rfl
 c21:=by kernel_rfl
 c37:=by kernel_rfl
 c46:=by kernel_rfl
 c51:=by kernel_rfl
 c53:=by kernel_rfl
 c75:=by kernel_rfl
 c76:=by kernel_rfl
 c80:=by kernel_rfl
 c85:=by kernel_rfl
 c127:=by kernel_rfl
 c143:=by kernel_rfl
 c145:=by kernel_rfl
 c167:=by kernel_rfl
 c168:=by kernel_rfl
 c171:=by kernel_rfl
 c173:=by kernel_rfl
 c175:=by kernel_rfl
 c210:=by kernel_rfl
 c212:=by kernel_rfl
 c213:=by kernel_rfl
 c232:=by kernel_rfl
 c233:=by kernel_rfl}
open Go.RowKit in
def Tryz.strconv_Atoi_ok(s:ByteArray)(hmax:s.size<=9223372036854775806)(v:Int)(h:db s.data.toList=.ok v)(w:World) :
  Calls Tryz.prog 103 #[.string s] w fun e w'=>e=.returned (.tuple #[.int .i64 v,.nilIface])/\(w'=w\/∃t,w'=Lib.bytesWorld w 5 t):=Any.strconv_Atoi_ok Tryz.A6 s hmax v h w
open Go.RowKit in
def Tryz.strconv_Atoi_syntax(s:ByteArray)(hlim:s.size<=281474976710656)(h:db s.data.toList=Go.Lib.NumEnd.syntax)(ev:Value)(w:World)(hv:w.cell? ⟨3,0,none⟩=some ev)(hev:ev=.nilIface\/∃te pe,ev=.iface te pe) :
  Calls Tryz.prog 103 #[.string s] w fun e w'=>∃N,e=.returned (.tuple #[.int .i64 (0),.iface 217 (.pointer (some ⟨N,0,none⟩))])/\w.heap.size<=N/\w'.heap[N]?=some (.cells #[.string ⟨#[65,116,111,105]⟩,.string s,ev] 234 (0,0))/\Below w.heap.size w w':=Any.strconv_Atoi_syntax Tryz.A6 s hlim h ev w hv hev
open Go.RowKit in
def Tryz.strconv_Atoi_range(s:ByteArray)(hlim:s.size<=281474976710656)(h:db s.data.toList=.range)(ev:Value)(w:World)(hv:w.cell? ⟨4,0,none⟩=some ev)(hev:ev=.nilIface\/∃te pe,ev=.iface te pe) :
  Calls Tryz.prog 103 #[.string s] w fun e w'=>∃N,e=.returned (.tuple #[.int .i64 (dm s.data.toList),.iface 217 (.pointer (some ⟨N,0,none⟩))])/\w.heap.size<=N/\w'.heap[N]?=some (.cells #[.string ⟨#[65,116,111,105]⟩,.string s,ev] 234 (0,0))/\Below w.heap.size w w':=Any.strconv_Atoi_range Tryz.A6 s hlim h ev w hv hev
def Tryz.Kd:cw:=⟨fun|102=>52|209=>80|207=>101|n=>n,fun|9=>9|4=>4|3=>3|n=>n,fun|n=>n⟩
def Tryz.VB:e9 Tryz.prog Tryz.Kd:={
 mixed:=by kernel_rfl
 f102:=Tryz.func52.trans (congrArg some (by kernel_rfl))
 f207:=Tryz.func101.trans (congrArg some (by kernel_rfl))
 f209:=Tryz.func80.trans (congrArg some (by kernel_rfl))
 t3:=Tryz.underlying3
 a3:=Tryz.isAgg3
 z3:=Tryz.sizeOf3
 v3:=Tryz.zeroValue3
 t4:=Tryz.underlying4
 a4:=Tryz.isAgg4
 z4:=Tryz.sizeOf4
 v4:=Tryz.zeroValue4
 t9:=Tryz.underlying9
 a9:=Tryz.isAgg9
 z9:=Tryz.sizeOf9
 v9:=Tryz.zeroValue9}
open Go.RowKit Go.Lib in
def Tryz.strings_TrimSuffix(s p:ByteArray)(w:World)(hs:s.size<=9223372036854775807) :
  Calls Tryz.prog 52 #[.string s,.string p] w fun e w'=>e=.returned (.string ⟨(br s.data.toList p.data.toList).toArray⟩)/\w'=w:=Any.strings_TrimSuffix Tryz.VB s p w hs
def Tryz.Ke:cw:=⟨fun|146=>51|221=>79|268=>98|138=>99|143=>100|195=>115|197=>116|218=>117|219=>118|260=>128|217=>129|225=>130|224=>131|267=>132|266=>143|314=>144|n=>n,fun|9=>9|31=>36|3=>3|4=>4|0=>0|105=>202|21=>21|5=>5|46=>175|119=>226|139=>229|138=>228|146=>198|51=>197|n=>n,fun|1=>0|3=>1|4=>2|n=>n⟩
def Tryz.Lu:fa Tryz.prog Tryz.Ke:={
 mixed:=by kernel_rfl
 f138:=Tryz.func99.trans (congrArg some (by kernel_rfl))
 f143:=Tryz.func100.trans (congrArg some (by kernel_rfl))
 f146:=Tryz.func51.trans (congrArg some (by kernel_rfl))
 f195:=Tryz.func115.trans (congrArg some (by kernel_rfl))
 f197:=Tryz.func116.trans (congrArg some (by kernel_rfl))
 f217:=Tryz.func129.trans (congrArg some (by kernel_rfl))
 f218:=Tryz.func117.trans (congrArg some (by kernel_rfl))
 f219:=Tryz.func118.trans (congrArg some (by kernel_rfl))
 f221:=Tryz.func79.trans (congrArg some (by kernel_rfl))
 f224:=Tryz.func131.trans (congrArg some (by kernel_rfl))
 f225:=Tryz.func130.trans (congrArg some (by kernel_rfl))
 f260:=Tryz.func128.trans (congrArg some (by kernel_rfl))
 f266:=Tryz.func143.trans (congrArg some (by kernel_rfl))
 f267:=Tryz.func132.trans (congrArg some (by kernel_rfl))
 f268:=Tryz.func98.trans (congrArg some (by kernel_rfl))
 f314:=Tryz.func144.trans (congrArg some (by kernel_rfl))
 t0:=Tryz.underlying0
 a0:=Tryz.isAgg0
 z0:=Tryz.sizeOf0
 v0:=Tryz.zeroValue0
 t3:=Tryz.underlying3
 a3:=Tryz.isAgg3
 z3:=Tryz.sizeOf3
 v3:=Tryz.zeroValue3
 t4:=Tryz.underlying4
 a4:=Tryz.isAgg4
 z4:=Tryz.sizeOf4
 v4:=Tryz.zeroValue4
 t5:=Tryz.underlying5
 a5:=Tryz.isAgg5
 z5:=Tryz.sizeOf5
 v5:=Tryz.zeroValue5
 t9:=Tryz.underlying9
 a9:=Tryz.isAgg9
 z9:=Tryz.sizeOf9
 v9:=Tryz.zeroValue9
 t21:=Tryz.underlying21
 a21:=Tryz.isAgg21
 z21:=Tryz.sizeOf21
 v21:=Tryz.zeroValue21
 t31:=Tryz.underlying36
 a31:=Tryz.isAgg36
 z31:=Tryz.sizeOf36
 v31:=Tryz.zeroValue36
 t46:=Tryz.underlying175
 a46:=Tryz.isAgg175
 z46:=Tryz.sizeOf175
 v46:=Tryz.zeroValue175
 t51:=Tryz.underlying197
 a51:=Tryz.isAgg197
 z51:=Tryz.sizeOf197
 v51:=Tryz.zeroValue197
 t105:=Tryz.underlying202
 a105:=Tryz.isAgg202
 z105:=Tryz.sizeOf202
 v105:=Tryz.zeroValue202
 t119:=Tryz.underlying226
 a119:=Tryz.isAgg226
 z119:=Tryz.sizeOf226
 t138:=Tryz.underlying228
 a138:=Tryz.isAgg228
 z138:=Tryz.sizeOf228
 v138:=Tryz.zeroValue228
 t139:=Tryz.underlying229
 a139:=Tryz.isAgg229
 z139:=Tryz.sizeOf229
 v139:=Tryz.zeroValue229
 t146:=Tryz.underlying198
 a146:=Tryz.isAgg198
 z146:=Tryz.sizeOf198
 v146:=Tryz.zeroValue198
 g1:=by kernel_rfl
 g3:=by kernel_rfl
 g4:=by kernel_rfl}
open Go.RowKit Go.Lib in
def Tryz.strings_Split(s sep:ByteArray)(m:Int)(w:World)(hs:s.size<4294967281)(hm:w.cell? ⟨0,0,none⟩=some (.int .i64 m))(h1:1<=sep.size) :
  Calls Tryz.prog 51 #[.string s,.string sep] w fun e w'=>
   e=.returned (.slice (some ⟨w.heap.size,0,none⟩) (bq s sep+1) (bq s sep+1))/\w'=w.alloc (.cells ((b8 sep 0 (bq s sep) s).map cn).toArray 9):=Any.strings_Split Tryz.Lu (by kernel_rfl) s sep m w hs hm h1
end Go.Proofs.YtgokjhhcfemnhadGreatDoor

namespace Go.Proofs.YtgokjhhcfemnhadGreatDoor
open Go.Vg Go.Mrl
def NQ(w:World)(k:Nat)(os:Array Obj):Vg.Below w.heap.size w (Sort.grow (w.drewN k) os):=by
 refine⟨rfl,rfl,?_,fun i hi =>?_⟩
 ·show w.heap.size<=(w.heap++os).size
  simp
 ·show(w.heap++os)[i]?=w.heap[i]?
  rw[Array.getElem?_append,if_pos hi]
def VD{eT:TypeId}{n:Int}{O:aH}{w:World}{v:Value}(h:VR eT (.int .i64) n O w v):v=.int .i64 n/\-9223372036854775808<=n/\n<=9223372036854775807:=by
 obtain⟨h1,h2,h3⟩:=VR.one rfl h;exact⟨by simpa using h1,h2,h3⟩
def nO{eT:TypeId}{s:List UInt8}{O:aH}{w:World}{v:Value}(h:VR eT .str s O w v):v=.string ⟨s.toArray⟩/\s.length<=aL:=by
 obtain⟨h1,h2⟩:=VR.one rfl h;exact⟨by simpa using h1,h2⟩
def IG{eT:TypeId}{s:List UInt8}{O:aH}{w:World}(h:s.length<=aL):VR eT .str s O w (.string ⟨s.toArray⟩):=VR.cI rfl ⟨rfl,h⟩
def vG:∀(k u:Nat),u<10^(k+1)->Lib.nDigits u<=k+1
 |0,u,h=>by rw[dT (by simpa using h)];exact b9 _
 |k+1,u,h=>by
  by_cases hu:u<10
  ·rw[dT hu];omega
  ·rw[Lib.nDigits_big hu]
   have:=vG k (u / 10) (by rw[Nat.pow_succ]at h;omega);omega
def TI{n:Int}(h0 : -9223372036854775808<=n)(h1:n<=9223372036854775807):(bp n).length<=21:=by
 unfold bp;split
 ·rw[bw,ec]
  have:=vG 19 n.natAbs (by omega);omega
 ·rw[ec]
  have:=vG 19 n.toNat (by omega);omega
def Tryz.oR:bW Tryz.prog Tryz.B.eT Tryz.X 84 [.int .i64] [.str] (fun _=>True) (fun n y=>y=bp n):=by
 refine⟨⟨Tryz.f84,Tryz.func84,by kernel_rfl,by kernel_rfl⟩,fun O w n vs hG hO ha _ =>?_⟩;obtain⟨v,rfl,hv⟩:=ha;obtain⟨rfl,h0,h1⟩:=VD hv;refine(Tryz.strconv_Itoa n h0 h1 w hG.pow).mono ?_;rintro e w' ⟨rfl,k,os,rfl⟩;exact⟨[.string ⟨(bp n).toArray⟩],bp n,rfl,rfl,⟨_,rfl,IG (by have:=TI h0 h1;unfold aL;omega)⟩,NQ w k os⟩
def Tryz.sh:bW Tryz.prog Tryz.B.eT Tryz.X 103 [.str] [.int .i64,.err] (fun s=>s.length<=281474976710656) (fun s y=>y=dV s):=by
 refine⟨⟨Tryz.f103,Tryz.func103,by kernel_rfl,by kernel_rfl⟩,fun O w s vs hG hO ha hs =>?_⟩;obtain⟨v,rfl,hv⟩:=ha;obtain⟨rfl,hl⟩:=nO hv;have hsz:(⟨s.toArray⟩:ByteArray).size=s.length:=by simp[dc]
 have hsl:(⟨s.toArray⟩:ByteArray).data.toList=s:=by simp
 cases ha:db s with
 |ok n=>
  refine(Tryz.strconv_Atoi_ok ⟨s.toArray⟩ (by rw[hsz];omega) n (by rw[hsl];exact ha) w).mono ?_;rintro e w' ⟨rfl,hw⟩;obtain⟨b0,b1⟩:=Lib.atoiAll_bounds ha;refine⟨[.int .i64 n,.nilIface],(n,.nil),rfl,by unfold dV;rw[ha],⟨_,_,rfl,VR.cI rfl ⟨rfl,b0,b1⟩,⟨_,rfl,VR.cI rfl ⟨_,rfl,rfl⟩⟩⟩,?_⟩;rcases hw with rfl|⟨t,rfl⟩
  ·exact Vg.Below.refl _ _
  ·exact .of (Lib.bytesWorld_below _ _ _)
 |range=>
  obtain⟨ev,hv,he⟩:=hG.XA;obtain⟨b0,b1⟩:=Lib.atoiSat_bounds s;have hA:=Tryz.strconv_Atoi_range ⟨s.toArray⟩ (by rw[hsz];exact hs) (by rw[hsl];exact ha) ev w hv he;rw[hsl]at hA;refine hA.mono ?_;rintro e w' ⟨N,rfl,_,_,hb⟩;exact⟨[.int .i64 (dm s),_],(dm s,.other),rfl,by unfold dV;rw[ha],⟨_,_,rfl,VR.cI rfl ⟨rfl,b0,b1⟩,⟨_,rfl,VR.cI rfl ⟨_,rfl,_,_,rfl,by decide+kernel⟩⟩⟩,.of hb⟩
 |_=>
  obtain⟨ev,hv,he⟩:=hG.Xz;refine(Tryz.strconv_Atoi_syntax ⟨s.toArray⟩ (by rw[hsz];exact hs) (by rw[hsl];exact ha) ev w hv he).mono ?_;rintro e w' ⟨N,rfl,_,_,hb⟩;exact⟨[.int .i64 0,_],(0,.other),rfl,by unfold dV;rw[ha],⟨_,_,rfl,VR.cI rfl ⟨rfl,by decide,by decide⟩,⟨_,rfl,VR.cI rfl ⟨_,rfl,_,_,rfl,by decide+kernel⟩⟩⟩,.of hb⟩
def Tryz.nq:bW Tryz.prog Tryz.B.eT Tryz.X 81 [.str,.str] [.str,.bool] (fun _=>True) (fun x y=>y=(cb x.1 x.2,cy x.1 x.2)):=by
 refine⟨⟨Tryz.f81,Tryz.func81,by kernel_rfl,by kernel_rfl⟩,fun O w x vs hG hO ha _ =>?_⟩;obtain⟨s,p⟩:=x;obtain⟨v,vs',rfl,hv,u,rfl,hu⟩:=ha;obtain⟨rfl,hl⟩:=nO hv;obtain⟨rfl,_⟩:=nO hu;refine(Tryz.strings_CutPrefix ⟨s.toArray⟩ ⟨p.toArray⟩ w).mono ?_;rintro e w' ⟨rfl,rfl⟩;have hle:(cb s p).length<=s.length:=by unfold cb;split <;> simp
 exact⟨[.string ⟨(cb s p).toArray⟩,.bool (cy s p)],_,rfl,rfl,⟨_,_,rfl,IG (b5 hle hl),_,rfl,VR.cI rfl rfl⟩,Vg.Below.refl _ _⟩
def Tryz.mr:bW Tryz.prog Tryz.B.eT Tryz.X 52 [.str,.str] [.str] (fun _=>True) (fun x y=>y=br x.1 x.2):=by
 refine⟨⟨Tryz.f52,Tryz.func52,by kernel_rfl,by kernel_rfl⟩,fun O w x vs hG hO ha _ =>?_⟩;obtain⟨s,p⟩:=x;obtain⟨v,vs',rfl,hv,u,rfl,hu⟩:=ha;obtain⟨rfl,hl⟩:=nO hv;obtain⟨rfl,_⟩:=nO hu;have hl:s.length<=aL:=hl;have hsz:(⟨s.toArray⟩:ByteArray).size=s.length:=by simp[dc]
 refine(Tryz.strings_TrimSuffix ⟨s.toArray⟩ ⟨p.toArray⟩ w (by rw[hsz];exact hl)).mono ?_;rintro e w' ⟨rfl,rfl⟩;have hle:(br s p).length<=s.length:=by unfold br;split <;> simp
 exact⟨[.string ⟨(br s p).toArray⟩],_,rfl,rfl,⟨_,rfl,IG (b5 hle hl)⟩,Vg.Below.refl _ _⟩
def Tryz.si:bW Tryz.prog Tryz.B.eT Tryz.X 51 [.str,.str] [.slice .str] (fun x=>x.1.length<4294967281/\x.2.length=1) (fun x y=>y=parts (Ht x.2) x.1):=by
 refine⟨⟨Tryz.f51,Tryz.func51,by kernel_rfl,by kernel_rfl⟩,fun O w x vs hG hO ha hp =>?_⟩;obtain⟨s,p⟩:=x;obtain⟨hs,hp⟩:=hp;obtain⟨c,rfl⟩:∃c,p=[c]:=dn.1 hp
 obtain⟨v,vs',rfl,hv,u,rfl,hu⟩:=ha;obtain⟨rfl,hl⟩:=nO hv;obtain⟨rfl,_⟩:=nO hu;obtain⟨m,hm⟩:=hG.max;have hsz:(⟨s.toArray⟩:ByteArray).size=s.length:=by simp[dc]
 have h1:1<=(⟨#[c]⟩:ByteArray).size:=b9 1;refine(Tryz.strings_Split ⟨s.toArray⟩ ⟨#[c]⟩ m w (by rw[hsz];exact hs) hm h1).mono ?_;rintro e w' ⟨rfl,rfl⟩;have hlen:=ed ⟨#[c]⟩ h1 0 _ ⟨s.toArray⟩ rfl;have hdat:=ee ⟨#[c]⟩ 0 (bq ⟨s.toArray⟩ ⟨#[c]⟩) ⟨s.toArray⟩;have hcb:=Lib.countB_le ⟨#[c]⟩ h1 _ ⟨s.toArray⟩ (b9 _);have hd:(b8 ⟨#[c]⟩ 0 (bq ⟨s.toArray⟩ ⟨#[c]⟩) ⟨s.toArray⟩).map (·.data.toList)=parts c s:=by rw[hdat,<-r8,<-Lib.count_one]
 have hlf:(parts c s).length=bq ⟨s.toArray⟩ ⟨#[c]⟩ +1:=by rw[<-hd,bx,hlen]
 refine⟨[_],parts c s,rfl,rfl,⟨_,rfl,VR.cI rfl ⟨_,rfl,?_,.inr ⟨w.heap.size,0,bq ⟨s.toArray⟩ ⟨#[c]⟩ +1,by rw[hlf],by rw[hlf];exact b9 _,fun i y hy =>?_⟩⟩⟩,(Vg.Below.refl _ w).alloc (b9 _) _⟩
 ·rw[hlf];have hs:s.length<4294967281:=hs;rw[hsz]at hcb;unfold aL;omega
 ·have hyl:=oM c s y (ef hy)
  refine⟨[.string ⟨y.toArray⟩],⟨rfl,b5 hyl hl⟩,fun j u hj=>⟨?_,fun hh =>?_⟩⟩
  ·have hj0:j=0:=by
    rcases j with _|j
    ·rfl
    ·simp at hj
   subst hj0;simp at hj;subst hj;rw[<-hd,List.getElem?_map,cz]at hy;obtain⟨q,hq,rfl⟩:=hy;have hh:(w.alloc (.cells ((b8 ⟨#[c]⟩ 0 (bq ⟨s.toArray⟩ ⟨#[c]⟩) ⟨s.toArray⟩).map cn).toArray 9)).heap[w.heap.size]?=some (.cells ((b8 ⟨#[c]⟩ 0 (bq ⟨s.toArray⟩ ⟨#[c]⟩) ⟨s.toArray⟩).map cn).toArray 9 (0,0)):=heap_alloc_new w _;rw[cc hh];simp only[Ty.size,Nat.mul_one,Nat.zero_add,dp,List.getElem?_toArray,List.getElem?_map,hq,eg]
  ·have:=hO _ _ hh
   simp at this
def Tryz.spZ2:Bool×aT:=(true,cB [.int .i64] [.str] (fun _=>True) (fun n=>bp n))
def Tryz.spZ3:Bool×aT:=(true,cB [aC] [.err] (fun _=>True) (fun e=>aI (bC e)))
def Tryz.IH:List (FuncId×(Bool×aT)):=[(45,Tryz.spZ0),(17,Tryz.spZ1),(84,Tryz.spZ2),(46,Tryz.spZ3)]
def Tryz.NR:bO Tryz.prog Tryz.B Tryz.X Tryz.IH:=
 aN (aE Tryz.jm) (aN (aE Tryz.ir) (aN (aE Tryz.oR) (aN (aE Tryz.Fa) (bR Tryz.bQ))))
def II(e:D aC):dO:=[
 (0,fun st=>{X:=Nat,inv:=fun i=>i<=bb e.2.1,cA:=fun i=>bb e.2.1-i,bK:=fun i=>[(35,sI i),(6,sS (jH e i))],keep:=[1,2,3,5,33,34]}),
 (2,fun st=>{X:=Nat,inv:=fun i=>i<=bb e.2.2.1,cA:=fun i=>bb e.2.2.1-i,bK:=fun i=>[(60,sI i),(6,sS (js e i))],keep:=[2,3,5,58,59]})]
def TJ(e:D aC)(hw:gA [aC] e):(dG (lW Tryz.B [23,30,47,53,68,74,80]) Tryz.IH Tryz.f90 (II e) [aC] [.str,.err] (fun x y=>y=(fun e=>dJ e) x) e).holds:=by
 refine holds_of (p:=
  let za:=aI (bC e)
  let zb:=[(32:UInt8)]
  let zc:=bb zb
  let zd:=e.2.1
  let ze:=bb zd
  let zf:=e.2.2.1
  let zg:=bb zf
  let zh:=bp (↑ze:Int)
  let zi:=e.1++zb++zh
  let zj:=bp (↑zg:Int)
  let zk:=fun(F:Nat)=>zb++(nth aG zd F).1
  let zl:=fun(F:Nat)=>bp (nth aG zd F).2.1
  let zm:=fun(F:Nat)=>zk F++zb++zl F++zb
  let zn:=fun(F:Nat)=>bp (nth aG zd F).2.2.1
  let zo:=fun(F:Nat)=>(↑F:Int)+1
  let zp:=(e.1=e.1/\zd=zd/\zf=zf/\True)/\True
  let zq:=fun(I:Nat)=>zb++bp (nth aR zf I).1
  let zr:=fun(I:Nat)=>zq I++zb++bp (nth aR zf I).2.1
  let zs:=fun(I:Nat)=>bp (nth aR zf I).2.2.1
  True/\((!aK.isNil za)=true->([],za)=dJ e)/\((!aK.isNil za)=false->bb e.1+zc<=aL/\(ze<=aL->zg<=aL->True/\bb (e.1++zb)+bb zh<=aL/\bb zi+zc<=aL/\True/\bb (zi++zb)+bb zj<=aL/\(ze<=aL->(∃(x:Nat),x<=ze/\(0=(↑x:Int)/\zi++zb++zj=jH e x/\True)/\True)/\∀F:Nat,F<=ze->((decide ((↑F:Int)<(↑ze:Int)))=true->(0<=(↑F:Int)/\(↑F:Int)<(↑ze:Int))/\zc+bb (nth aG zd F).1<=aL/\bb (zk F)+zc<=aL/\True/\bb (zk F++zb)+bb (zl F)<=aL/\bb (zk F++zb++zl F)+zc<=aL/\True/\bb (zm F)+bb (zn F)<=aL/\bb (jH e F)+bb (zm F++zn F)<=aL/\(aJ (↑F:Int)->aJ 1->aJ (zo F)/\∃(x':Nat),x'<=ze/\ze-x'<ze-F/\(zo F=(↑x':Int)/\jH e F++(zm F++zn F)=jH e x'/\True)/\zp))/\((decide ((↑F:Int)<(↑ze:Int)))=false->zg<=aL->(∃(x:Nat),x<=zg/\(0=(↑x:Int)/\jH e F=js e x/\True)/\True)/\∀I:Nat,I<=zg->((decide ((↑I:Int)<(↑zg:Int)))=true->(0<=(↑I:Int)/\(↑I:Int)<(↑zg:Int))/\True/\zc+bb (bp (nth aR zf I).1)<=aL/\bb (zq I)+zc<=aL/\True/\bb (zq I++zb)+bb (bp (nth aR zf I).2.1)<=aL/\bb (zr I)+zc<=aL/\True/\bb (zr I++zb)+bb (zs I)<=aL/\bb (js e I)+bb (zr I++zb++zs I)<=aL/\(aJ (↑I:Int)->aJ 1->aJ (zo I)/\∃(x':Nat),x'<=zg/\zg-x'<zg-I/\(zo I=(↑x':Int)/\js e I++(zr I++zb++zs I)=js e x'/\True)/\zp))/\((decide ((↑I:Int)<(↑zg:Int)))=false->bb (js e I)+bb [(10:UInt8)]<=aL/\(js e I++[(10:UInt8)],aK.nil)=dJ e)))))) (by kernel_rfl) ?_
 dsimp -iota -proj -eta only;refine⟨ba,iB (fun h0=>(Nq (fun e=>by rw[aQ.2 e]at h0;cases h0))) (fun h0=>⟨?a,fun h1 h2=>⟨ba,?b,?c,ba,?d,fun h3=>⟨(⟨0,by omega,⟨rfl,(Nh e).symm,ba⟩,ba⟩),fun F q_0=>iL (fun h4=>⟨?e,?f,?g,ba,?h,?i,ba,?j,?k,fun h5 h6=>⟨?l,(⟨F+1,by omega,by omega,⟨by omega,No (by omega),ba⟩,(by trivial)⟩)⟩⟩) (fun h4 h5=>⟨(⟨0,by omega,⟨rfl,by rw[Ni,show F=e.2.1.length by omega],ba⟩,ba⟩),fun I q_1=>iL (fun h6=>⟨?m,ba,?n,?o,ba,?p,?q,ba,?r,?s,fun h7 h8=>⟨?t,(⟨I+1,by omega,by omega,⟨by omega,Np (by omega),ba⟩,(by trivial)⟩)⟩⟩) (fun h6=>⟨(by have a:=(lF (aQ.1 h0)).AK I;simp only[bt,bw,bz,aL];omega),(P2 (aQ.1 h0) (by omega))⟩)⟩)⟩⟩⟩)⟩
 case a|b|c|d=>have a:=(lF (aQ.1 h0)).lens;simp only[bt,bw,bz,aL];omega
 case e|m=>omega
 case f|g|h|i|j|k=>have a:=(lF (aQ.1 h0)).Xa (i:=F) (by omega);simp only[bt,bw,bz,aL];omega
 case l|t=>simp only[aJ,aL]at*;omega
 case n|o|p|q|r|s=>have a:=(lF (aQ.1 h0)).Xb (i:=I) (by omega);simp only[bt,bw,bz,aL];omega
def Tryz.IJ:bW Tryz.prog Tryz.B.eT Tryz.X 90 [aC] [.str,.err] (fun _=>True) (fun x y=>y=(fun e=>dJ e) x):=
 cC (B:=(lW Tryz.B [23,30,47,53,68,74,80])) (X:=Tryz.X) (bO.hint (l:=[23,30,47,53,68,74,80]) Tryz.NR) Tryz.func90 (by kernel_rfl) (fun x=>II x) (fun x hw hp=>TJ x hw)
end Go.Proofs.YtgokjhhcfemnhadGreatDoor

namespace Go.Proofs.YtgokjhhcfemnhadGreatDoor
open Go.RowKit Go.Vg
def Tryz.Xn:(Tryz.prog.info? 169).map (·.size)=some 2:=by kernel_rfl
def Tryz.XB:liesAt Tryz.prog Tryz.prog.depth 169 (2 / Tryz.prog.cellsOf 169) 0 169 1=true:=by kernel_rfl
set_option maxHeartbeats 1000000 in
set_option maxRecDepth 100000 in
def Tryz.NS(b:Nat)(v:Value)(w:World)(hb:w.heap[b]?=some (.cells #[.pointer (some ⟨b,0,none⟩),v] 169 (0,0))) :
  Calls Tryz.prog 108 #[.pointer (some ⟨b,0,none⟩)] w fun e w'=>e=.returned (.tuple #[])/\w'=w:=by
 obtain⟨j,hj,_⟩:=cz.1 Tryz.Xn;have h0:w.cell? ⟨b,0,none⟩=some (.pointer (some ⟨b,0,none⟩)):=by rw[cc hb];rfl
 go_enter Tryz.func108,Tryz.ntmps108
 go_wp2
 rw[Lib.run_neq_ptr_same w _ Tryz.underlying167 hj]
 go_wp2
 go_end0
 exact⟨rfl,rfl⟩
set_option maxHeartbeats 1000000 in
set_option maxRecDepth 100000 in
def Tryz.Kf(b:Nat)(v:Value)(w:World)(hb:w.heap[b]?=some (.cells #[.pointer none,v] 169 (0,0))) :
  Calls Tryz.prog 108 #[.pointer (some ⟨b,0,none⟩)] w fun e w'=>e=.returned (.tuple #[])/\w'=w.setCell ⟨b,0,none⟩ (.pointer (some ⟨b,0,none⟩)):=by
 obtain⟨j,hj,hjs⟩:=cz.1 Tryz.Xn;have h0:w.cell? ⟨b,0,none⟩=some (.pointer none):=by rw[cc hb];rfl
 have hsh:w.shape? b=some (169,2):=by simp[eh,hb]
 have hfz:w.frozen? ⟨b,0,none⟩=false:=dd hb 0
 go_enter Tryz.func108,Tryz.ntmps108
 go_wp2
 rw[Lib.run_to_unsafe w ⟨b,0,none⟩ Tryz.underlying167 Tryz.underlying209 hj (by rw[hjs];decide) hsh (Nat.zero_lt_succ 1)];simp only[dq];rw[dr]
 go_wp2
 rw[run_callFunc_extern Tryz.func125 (by kernel_rfl) (by kernel_rfl) (by kernel_rfl) (e:=fb) (by kernel_rfl)];rw[Lib.run_noEscape];simp only[dq];rw[dr]
 go_wp2
 rw[Lib.run_from_unsafe w ⟨b,0,none⟩ Tryz.underlying209 Tryz.underlying167 hj hsh Tryz.XB];simp only[dq];rw[dr]
 go_wp2
 go_end0
 exact⟨rfl,rfl⟩
def Tryz.XC:(Tryz.prog.info? 5).map (fun i=>(i.zero,i.size,i.bytes))=some (some (.int .u8 0),1,1):=by kernel_rfl
def Tryz.Xv:Tryz.prog.cellsOf 5=1:=by kernel_rfl
set_option maxHeartbeats 2000000 in
set_option maxRecDepth 100000 in
def Tryz.QV(b:Nat)(p v:Value)(xs:List Value)(s:ByteArray)(w:World)(hb:w.heap[b]?=some (.cells #[p,v] 169 (0,0)))(hp:p=.pointer none\/p=.pointer (some ⟨b,0,none⟩))
  (hown:w.ownsRow 0 5 1 v xs.length xs)(hne:v.ownBlock≠some b)(hcap:∀a n c,v=.slice (some a) n c->0<c)(hlen:xs.length+s.size<=140737488355328) :
  Calls Tryz.prog 85 #[.pointer (some ⟨b,0,none⟩),.string s] w fun e w'=>e=.returned (.tuple #[.int .i64 s.size,.nilIface])/\
   ∃v',w'.heap[b]?=some (.cells #[.pointer (some ⟨b,0,none⟩),v'] 169 (0,0))/\w'.ownsRow 0 5 1 v' (xs.length+s.size) (xs++Lib.strCells s)/\v'.ownBlock≠some b/\Kept b v w w'/\
    (∀a n c,v'=.slice (some a) n c->0<c)/\(∀g,v'.ownBlock=some g->v.ownBlock=some g\/w.heap.size<=g):=by
 obtain⟨i0,hi,hz0⟩:=cz.1 Tryz.XC;simp only[Prod.mk.injEq]at hz0;obtain⟨hz0,hz1,hz2⟩:=hz0;have hchk:Calls Tryz.prog 108 #[.pointer (some ⟨b,0,none⟩)] w fun e w1=>e=.returned (.tuple #[])/\w1.heap[b]?=some (.cells #[.pointer (some ⟨b,0,none⟩),v] 169 (0,0))/\
   w1.os=w.os/\w1.output=w.output/\w1.heap.size=w.heap.size/\∀k,k≠b->w1.heap[k]?=w.heap[k]?:=by
  rcases hp with rfl|rfl
  ·refine(Tryz.Kf b v w hb).mono ?_
   rintro e w1 ⟨rfl,rfl⟩;exact⟨rfl,(Sx hb).trans (by simp),rfl,rfl,ds _ _ _,fun k hk=>dt _ _ _ _ hk⟩
  ·refine(Tryz.NS b v w hb).mono ?_
   rintro e w1 ⟨rfl,rfl⟩;exact⟨rfl,hb,rfl,rfl,rfl,fun _ _=>rfl⟩
 go_enter Tryz.func85,Tryz.ntmps85
 go_wp2_with (go_at_call 108;refine hchk.mono ?_)
 rintro e w1 ⟨rfl,hb1,ho1,hu1,hs1,hk1⟩;have hown1:w1.ownsRow 0 5 1 v xs.length xs:=by
  refine⟨hown.1,?_⟩;rcases hown.2 with h|⟨g,cap,cur,h1,h2,h3,h4⟩
  ·exact .inl h
  ·refine .inr ⟨g,cap,cur,h1,h2,?_,h4⟩
   rw[hk1 g (fun e=>hne (by rw[h1,e];rfl))];exact h3
 have c0:w1.cell? ⟨b,0,none⟩=some (.pointer (some ⟨b,0,none⟩)):=by rw[cc hb1];rfl
 have c1:w1.cell? ⟨b,1,none⟩=some v:=by rw[cc hb1];rfl
 obtain⟨v',w2,hrun,hown',hgrow,hcap',hnew⟩:=U6 (t:=157) (u:=9) (ty:=157) Tryz.underlying157 Tryz.underlying9 hi hz0 hz1 hz2 hown1 hcap s hlen;have hlt:b<w1.heap.size:=(Array.getElem?_eq_some_iff.1 hb1).1;have hb2:w2.heap[b]?=some (.cells #[.pointer (some ⟨b,0,none⟩),v] 169 (0,0)):=by rw[hgrow.block b hlt (fun e=>hne e.symm)];exact hb1
 have d1:w2.cell? ⟨b,1,none⟩=some v:=by rw[cc hb2];rfl
 have f1:w2.frozen? ⟨b,1,none⟩=false:=dd hb2 1;have hne':v'.ownBlock≠some b:=by
  intro e;rcases hown'.2 with⟨h,_⟩|⟨g',cap,cur,h,_,h3,_⟩
  ·rw[h]at e;cases e
  ·rw[h]at e
   cases e;rw[hb2]at h3;cases h3
 have hv1:∃a n c,v'=.slice a n c:=by
  rcases hown'.2 with⟨h,_⟩|⟨g',cap,cur,h,_⟩ <;> exact⟨_,_,_,h⟩
 obtain⟨va,vn,vc,rfl⟩:=hv1;rw[hs1]at hnew
 go_wp2_with (at_builtin;refine yG rfl _ _ 157 9 rfl rfl rfl hrun ?_)
 go_ret2
 refine⟨rfl,.slice va vn vc,(Sx hb2).trans (by simp),⟨hown'.1,?_⟩,hne',⟨hgrow.os.trans ho1,hgrow.output.trans hu1,?_,fun k h1 h2 h3 =>?_⟩,hcap',hnew⟩
 ·rcases hown'.2 with h|⟨g,cap,cur,h1,h2,h3,h4⟩
  ·exact .inl h
  ·refine .inr ⟨g,cap,cur,h1,h2,?_,h4⟩
   rw[dt _ _ _ _ (fun e=>hne' (by rw[h1,show g=b from e];rfl))];exact h3
 ·rw[ds];have:=hgrow.size;omega
 ·rw[dt _ _ _ _ (show k≠b from h2),hgrow.block k (by omega) (fun e=>h3 e.symm),hk1 k h2]
set_option maxHeartbeats 2000000 in
set_option maxRecDepth 100000 in
def Tryz.NT(b:Nat)(p v:Value)(l:List UInt8)(w:World)(hb:w.heap[b]?=some (.cells #[p,v] 169 (0,0)))(hown:w.ownsRow 0 5 1 v l.length (l.map fun c=>Value.int .u8 c.toNat))(hcap:∀a n c,v=.slice (some a) n c->0<c) :
  Calls Tryz.prog 88 #[.pointer (some ⟨b,0,none⟩)] w fun e w'=>e=.returned (.string ⟨l.toArray⟩)/\My v w w':=by
 have c1:w.drew.cell? ⟨b,1,none⟩=some v:=by
  have:w.drew.heap[b]?=some (.cells #[p,v] 169 (0,0)):=hb;rw[cc this];rfl
 have mixed:Tryz.prog.follows .mixedOrders=true:=by kernel_rfl
 by_cases h0:l=[]
 ·subst h0
  obtain⟨q,n,c,rfl,hn,hSD⟩:∃q n c,v=.slice q n c/\n=0/\(ei #[157] 192 #[v]).run Tryz.prog w.drew=.ok (.pointer q) w.drew:=by
   rcases hown.2 with⟨rfl,_⟩|⟨g,cap,cur,rfl,_⟩
   ·exact⟨none,0,0,rfl,rfl,Lib.run_unsafeSliceData_nil _ _ _ _ _⟩
   ·exact⟨_,_,_,rfl,rfl,ej _ _ _ _ _ _ (by have:=hcap _ _ _ rfl;omega)⟩
  subst hn;have hUS:(ek #[192,3] 9 #[.pointer q,.int .i64 0]).run Tryz.prog w.drew=.ok (.string .empty) w.drew:=Lib.run_unsafeString_none _ _ _ _ q
  go_enter Tryz.func88,Tryz.ntmps88
  go_wp2
  go_region_o
  all_goals (go_wp2;go_ret;exact⟨rfl,rfl,rfl,rfl,fun _ _=>rfl⟩)
 ·have hl0:l.length≠0:=by simpa using h0
  rcases hown.2 with⟨_,hz⟩|⟨g,cap,cur,rfl,hbg,hg,hnc,hcm,hcs,htake⟩
  ·exact absurd hz hl0
  have hSD:(ei #[157] 192 #[.slice (some ⟨g,0,none⟩) l.length cap]).run Tryz.prog w.drew=.ok (.pointer (some ⟨g,0,none⟩)) w.drew:=ej _ _ _ _ _ _ (by omega);have hUS:(ek #[192,3] 9 #[.pointer (some ⟨g,0,none⟩),.int .i64 l.length]).run Tryz.prog w.drew=.ok (.string ⟨l.toArray⟩) (w.drew.freeze ⟨g,0,none⟩ l.length):=by
   refine Lib.run_unsafeString_row w.drew 192 3 9 5 Tryz.underlying192 Tryz.Xv g cur.size (by have hg':w.drew.heap[g]?=some (.cells cur 5 (0,0)):=hg;simp[eh,hg']) l h0 (by omega) (by unfold maxLen at hcm;omega) ?_;intro j x hx;exact hown.cells (g:=g) rfl j (.int .u8 x.toNat) (by simp[hx])
  go_enter Tryz.func88,Tryz.ntmps88
  go_wp2
  go_region_o
  all_goals (go_wp2;go_ret;exact⟨rfl,JH⟩)
def Tryz.VE(b:Nat)(p _q:Value)(a:Option Addr)(n c:Nat)(w:World)(hb:w.heap[b]?=some (.cells #[p,.slice a n c] 169 (0,0))) :
  Calls Tryz.prog 87 #[.pointer (some ⟨b,0,none⟩)] w fun r w'=>r=.returned (.int .i64 n)/\w'=w:=by
 have c1:w.cell? ⟨b,1,none⟩=some (.slice a n c):=by rw[cc hb];rfl
 go_enter Tryz.func87,Tryz.ntmps87
 go_wp2
 go_ret
 exact⟨rfl,rfl⟩
def Tryz.z7:bX Tryz.prog Tryz.B.eT Tryz.X 85 false (rY 169 5):=
 B1 ⟨Tryz.f85,Tryz.func85,by kernel_rfl,by kernel_rfl⟩ Tryz.QV
def Tryz.xO:bX Tryz.prog Tryz.B.eT Tryz.X 88 false (qJ 169 5):=
 AD ⟨Tryz.f88,Tryz.func88,by kernel_rfl,by kernel_rfl⟩ Tryz.NT
def Tryz.Fb:bX Tryz.prog Tryz.B.eT Tryz.X 87 true (wS 169 5):=
 FT ⟨Tryz.f87,Tryz.func87,by kernel_rfl,by kernel_rfl⟩ Tryz.VE
end Go.Proofs.YtgokjhhcfemnhadGreatDoor

namespace Go.Proofs.YtgokjhhcfemnhadGreatDoor
open Go.Vg Go.Mrl
@[reducible] def Tryz.bA:List Ob:=[.box 98 [.obj 1,.obj 2,.obj 3,.d (.int .i64),.d .bool],.row true .str,.row true .str,.tok gR]
def VF(s:List UInt8)(hw:gA [.str] s)(hp:(fun s=>s.length<=64) s):(dG Tryz.B [] Tryz.f68 [] [.str] [.str] (fun x y=>y=(fun s=>eH s) x) s).holds:=by
 refine holds_of (p:=
  let za:=bb s
  let zb:=64-(↑za:Int)
  let zc:=ch (bd zb) (bY (Ty.int cd))
  za<=aL->aJ 64->aJ (↑za:Int)->aJ zb/\(0<=zb/\zb=zb/\zb<=1000000000)/\bb zc<=aL/\za+bb (bytesOf zc)<=aL/\s++bytesOf zc=eH s) (by kernel_rfl) ?_
 dsimp -iota -proj -eta only;exact fun h0 h1 h2=>⟨(by simp only[aJ,aL]at*;omega),(by omega),(by simp only[cp,Gg];omega),(by simp only[bytesOf,bx,cp,Gg];omega),(by show s++bytesOf (ch _ 0)=_;rw[ME,eH,show bd (64-(s.length:Int))=64-s.length by omega])⟩
def Tryz.Lv:bW Tryz.prog Tryz.B.eT Tryz.X 68 [.str] [.str] (fun s=>s.length<=64) (fun x y=>y=(fun s=>eH s) x):=
 cC (X:=Tryz.X) (bR Tryz.bQ) Tryz.func68 (by kernel_rfl) (fun _=>[]) (fun x hw hp=>VF x hw hp)
def TK(x:Int)(y:Int)(hw:gA [.int .u64,.int .u64] (x,y))(hp:(fun z=>z.1=1/\0<=z.2/\z.2<=1000000) (x,y)):(dG Tryz.B [] Tryz.f114 [] [.int .u64,.int .u64] [.int .u64,.int .u64] (fun x y=>y=(fun z=>xc z) x) (x,y)).holds:=by
 refine holds_of (p:=
  let za:=cj bu
  let zb:=ca za (4294967295:Int)
  let zc:=(0:Int)<=(32:Int)
  let zd:=(2:Int)^min 32 za
  let ze:=fun(R Q:Int)=>R=bk bu Q
  ∀F:Int,F=bk bu (↑(cq (ca za x&&&zb)):Int)->zc/\∀I:Int,I=cf x zd->∀K:Int,K=bk bu (↑(cq (ca za y&&&zb)):Int)->zc/\∀M:Int,M=cf y zd->∀Q:Int,Q=F*K->∀R:Int,ze R Q->∀V:Int,V=I*K->∀Y:Int,ze Y V->zc/\∀x_8:Int,x_8=cf R zd->∀U:Int,U=bk bu (Y+x_8)->∀Z:Int,Z=bk bu (↑(cq (ca za U&&&zb)):Int)->zc/\∀x_11:Int,x_11=cf U zd->∀x_12:Int,x_12=F*M->∀x_13:Int,ze x_13 x_12->∀x_14:Int,x_14=bk bu (Z+x_13)->∀x_15:Int,x_15=I*M->∀x_16:Int,ze x_16 x_15->∀x_17:Int,x_17=bk bu (x_16+x_11)->zc/\∀x_18:Int,x_18=cf x_14 zd->∀x_19:Int,x_19=bk bu (x_17+x_18)->∀x_20:Int,x_20=x*y->∀x_21:Int,ze x_21 x_20->(x_19,x_21)=xc (x,y)) (by kernel_rfl) ?_
 dsimp -iota -proj -eta only;dsimp only at hp;refine fun F q_0=>⟨?a,fun I q_1 K q_2=>⟨?b,fun M q_3 Q q_4 R q_5 V q_6 Y q_7=>⟨?c,fun x_8 q_8 U q_9 Z q_10=>⟨?d,fun x_11 q_11 x_12 q_12 x_13 q_13 x_14 q_14 x_15 q_15 x_16 q_16 x_17 q_17=>⟨?e,fun x_18 q_18 x_19 q_19 x_20 q_20 x_21 q_21 =>?f⟩⟩⟩⟩⟩
 case a|b|c|d|e=>trivial
 case f=>
  have a0:=SK q_0 (by omega) (by omega);have a1:=Hk q_1 rfl (by omega) (by omega);have a2:=SK q_2 (by omega) (by omega);have a3:=Hk q_3 rfl (by omega) (by omega);have a4:Q=y:=by rw[q_4,a0,a2,hp.1,du]
  have a5:R=y:=by rw[q_5,a4];exact lz (by omega) (by omega)
  have a6:V=0:=by rw[q_6,a1,Int.zero_mul]
  have a7:Y=0:=by rw[q_7,a6];rfl
  have a8:=Hk q_8 rfl (by omega) (by omega);have a9:U=0:=by rw[q_9,a7,a8];rfl
  have a10:Z=0:=by rw[SK q_10 (by omega) (by omega)];exact a9
  have a11:=Hk q_11 rfl (by omega) (by omega);have a12:x_12=0:=by rw[q_12,a3,Int.mul_zero]
  have a13:x_13=0:=by rw[q_13,a12];rfl
  have a14:x_14=0:=by rw[q_14,a10,a13];rfl
  have a15:x_15=0:=by rw[q_15,a1,Int.zero_mul]
  have a16:x_16=0:=by rw[q_16,a15];rfl
  have a17:x_17=0:=by rw[q_17,a16,a11];rfl
  have a18:=Hk q_18 rfl (by omega) (by omega);have a19:x_19=0:=by rw[q_19,a17,a18];rfl
  have a21:x_21=y:=by rw[q_21,q_20,hp.1,du];exact lz (by omega) (by omega)
  rw[a19,a21];simp[xc,hp.1]
def Tryz.TL:bW Tryz.prog Tryz.B.eT Tryz.X 114 [.int .u64,.int .u64] [.int .u64,.int .u64] (fun z=>z.1=1/\0<=z.2/\z.2<=1000000) (fun x y=>y=(fun z=>xc z) x):=
 cC (X:=Tryz.X) (bR Tryz.bQ) Tryz.func114 (by kernel_rfl) (fun _=>[]) (fun x hw hp=>TK x.1 x.2 hw hp)
def Tryz.spZ4:Bool×aT:=(true,cB [.int .u64,.int .u64] [.int .u64,.int .u64] (fun z=>z.1=1/\0<=z.2/\z.2<=1000000) (fun z=>xc z))
def Tryz.IK:List (FuncId×(Bool×aT)):=[(114,Tryz.spZ4)]
def Tryz.NU:bO Tryz.prog Tryz.B Tryz.X Tryz.IK:=
 aN (aE Tryz.TL) (bR Tryz.bQ)
def WK(x:Int)(y:Int)(hw:gA [.int .u64,.int .u64] (x,y))(hp:(fun z=>z.1=1/\0<=z.2/\z.2<=1000000) (x,y)):(dG Tryz.B Tryz.IK Tryz.f94 [] [.int .u64,.int .u64] [.int .u64,.int .u64] (fun x y=>y=(fun z=>xc z) x) (x,y)).holds:=by
 refine holds_of (p:=
  (x=1/\0<=y/\y<=1000000)/\(0,x*y)=xc (x,y)) (by kernel_rfl) ?_
 dsimp only at hp;refine⟨?a,?b⟩
 case a|b=>trivial
def Tryz.WL:bW Tryz.prog Tryz.B.eT Tryz.X 94 [.int .u64,.int .u64] [.int .u64,.int .u64] (fun z=>z.1=1/\0<=z.2/\z.2<=1000000) (fun x y=>y=(fun z=>xc z) x):=
 cC (X:=Tryz.X) Tryz.NU Tryz.func94 (by kernel_rfl) (fun _=>[]) (fun x hw hp=>WK x.1 x.2 hw hp)
def Tryz.QW:List (FuncId×(Bool×aT)):=[(94,Tryz.spZ4)]
def Tryz.TM:bO Tryz.prog Tryz.B Tryz.X Tryz.QW:=
 aN (aE Tryz.WL) (bR Tryz.bQ)
def Fc(x:List (List UInt8))(n:Int):dO:=[(0,fun st=>{X:=Nat,inv:=fun k=>1<=k/\k<=n.toNat,cA:=fun k=>n.toNat-k,bK:=fun k=>[(8,sI k)],aF:=fun k=>[(bG st 7,.aV .str (lZ (nth .str x 0) n.toNat k))],keep:=[4,7],gQ:=[bG st 7]})]
def vH:List (Alt [] [.d (.slice .str),.d (.int .i64)]):=[{bN:=[.row false .str],res:=[.obj 0],out:=fun a _=>(ch a.2.1.toNat (nth .str a.1 0),()),ret:=fun _ _=>()}]
def QX(x:List (List UInt8))(n:Int)(hw:gH [.d (.slice .str),.d (.int .i64)] (x,n,()))(hp:(fun a _=>a.1.length=1/\1<=a.2.1/\a.2.1<=1000000) (x,n,()) ()):(cR Tryz.B Tryz.QW Tryz.f67 (Fc x n) [] [.d (.slice .str),.d (.int .i64)] vH (x,n,()) ()).holds:=by
 refine holds_of (p:=
  let za:=bb x
  let zb:=bk bu (↑za:Int)
  let zc:=bk bu n
  let zd:=bk bm (zb*zc)
  let ze:=ch (bd zd) (bY Ty.str)
  let zf:=bb ze
  let zg:=bd n
  let zh:=min za zf
  let zi:=nth Ty.str x 0
  let zj:=fun(F:Nat)=>lZ zi zg F
  let zk:=fun(F:Nat)=>bb (zj F)
  let zl:=fun(F:Nat)=>(↑(zk F):Int)
  let zm:=fun(F:Nat)=>bf (F-0) (bj 0 (zj F))
  let zn:=fun(F:Nat)=>min (bb (zm F)) (zk F-F)
  let zo:=fun(F:Nat)=>(↑F:Int)+(↑(zn F):Int)
  ((decide (n<(0:Int)))=true->False)/\((decide (n<(0:Int)))=false->za<=aL->(zb=(1:Int)/\(0:Int)<=zc/\zc<=(1000000:Int))/\((decide ((0:Int) > (0:Int)))=true->False)/\((decide ((0:Int) > (0:Int)))=false->((decide (zb*zc > (9223372036854775807:Int)))=true->False)/\((decide (zb*zc > (9223372036854775807:Int)))=false->((0:Int)<=zd/\zd=zd/\zd<=(1000000000:Int))/\(True/\0+zf<=zf)/\(∃(I:Nat),(1<=I/\I<=zg)/\((↑zh:Int)=(↑I:Int)/\True)/\bf 0 ze++bf zh x++bj (0+zh) ze=lZ zi zg I/\True)/\∀F:Nat,1<=F/\F<=zg->zk F<=aL->((decide ((↑F:Int)<zl F))=true->((0:Int)<=(↑F:Int)/\(↑F:Int)<=zl F/\zl F<=zl F)/\((0:Int)<=(0:Int)/\(0:Int)<=(↑F:Int)/\(↑F:Int)<=zl F)/\(0+(F-0)<=zk F/\F+(zk F-F)<=zk F)/\(aJ (↑F:Int)->aJ (↑(zn F):Int)->aJ (zo F)/\∃(x':Nat),(1<=x'/\x'<=zg)/\zg-x'<zg-F/\(zo F=(↑x':Int)/\True)/\bf F (zj F)++bf (zn F) (zm F)++bj (F+zn F) (zj F)=lZ zi zg x'/\@bc (List UInt8)=@bc (List UInt8)/\True))/\((decide ((↑F:Int)<zl F))=false->True/\(zj F,())=(ch zg zi,())/\()=()))))) (by kernel_rfl) ?_
 dsimp -iota -proj -eta only;dsimp only at hp;have e1:bk bu n=n:=lz (by omega) (by omega);have e2:bk bu (x.length:Int)=1:=by rw[hp.1];exact lz (by decide) (by decide)
 have e3:bk bm (1*n)=n:=by rw[du];exact lA (by omega) (by omega)
 refine iL (fun h0 =>?a) (fun h0 h1=>⟨(by rw[e1,e2];omega),⟨fun h2=>absurd (show false=true from h2) (by decide),fun h2=>iL (fun h3=>(by rw[e1,e2]at*;omega)) (fun h3=>⟨(by rw[e1,e2,e3];omega),(by simp_all),?b,fun F q_0 h4=>iL (fun h5=>⟨?c,?d,?e,fun h6 h7=>⟨(by simp only[aJ,aL]at*;omega),?f⟩⟩) (fun h5=>(by rw[show F=bd n by have hl:=Hl (s:=nth .str x 0) (n:=bd n) (k:=F) (by omega);omega,Pk];exact⟨ba,rfl,rfl⟩))⟩)⟩⟩)
 case a|c|d|e=>omega
 case b=>
  rw[e1,e2,e3];obtain⟨s,rfl⟩:=dn.1 hp.1;refine⟨1,by omega,⟨?_,ba⟩,?_,(by trivial)⟩
  ·simp only[b3,cp];omega
  ·have hm:min (bb [s]) (bb (ch (bd n) (bY Ty.str)))=1:=by simp only[b3,cp];omega
   rw[hm];exact MF (n:=bd n) (by omega) rfl [s] rfl
 case f=>
  have hl:=Hl (s:=nth .str x 0) (n:=bd n) (k:=F) (by omega);have e6:min (bb (bf (F-0) (bj 0 (lZ (nth .str x 0) (bd n) F)))) (bb (lZ (nth .str x 0) (bd n) F)-F)=min F (bd n-F):=by
   simp only[b7,c6];omega
  rw[e6];refine⟨F+min F (bd n-F),by omega,by omega,⟨by omega,ba⟩,?_,(by trivial)⟩;rw[Nat.sub_zero,c6];exact Pj (by omega) (by omega)
def Tryz.QY:bX Tryz.prog Tryz.B.eT Tryz.X 67 false (aU [] [.d (.slice .str),.d (.int .i64)] (fun a _=>a.1.length=1/\1<=a.2.1/\a.2.1<=1000000) vH):=
 bE (X:=Tryz.X) Tryz.TM Tryz.func67 (by kernel_rfl) (fun(a:CD [.d (.slice .str),.d (.int .i64)]) (x:PD [])=>Fc a.1 a.2.1) (fun(a:CD [.d (.slice .str),.d (.int .i64)]) (x:PD []) hw hp=>QX a.1 a.2.1 hw hp)
def xP:List (Alt [.row true .str] [.obj 0]):=[{bN:=[.row true .str,.row false .str],res:=[.obj 1],ok:=fun _ x=>x.1≠[],out:=fun _ x=>(x.1,x.1,()),ret:=fun _ _=>()}]
def QZ(l:List (List UInt8))(hw:gH [.obj 0] ())(hp:(fun _ x=>x.1≠[]/\x.1.length<=1000000) () (l,())):(cR Tryz.B [] Tryz.f69 [] [.row true .str] [.obj 0] xP () (l,())).holds:=by
 refine holds_of (p:=
  ∀F:Bool,(0<bb l->F=false)->(F=true->False)/\(F=false->bb l<=1000000000/\l≠@bc (List UInt8)/\(l,l,())=(l,l,())/\()=())) (by kernel_rfl) ?_
 dsimp only at hp;refine fun F q_0=>⟨fun h0 =>?a,fun h0=>⟨(by omega),?b⟩⟩
 case a|b=>simp_all
def Tryz.Q0:bX Tryz.prog Tryz.B.eT Tryz.X 69 false (aU [.row true .str] [.obj 0] (fun _ x=>x.1≠[]/\x.1.length<=1000000) xP):=
 bE (X:=Tryz.X) (bR Tryz.bQ) Tryz.func69 (by kernel_rfl) (fun(a:CD [.obj 0]) (x:PD [.row true .str])=>[]) (fun(a:CD [.obj 0]) (x:PD [.row true .str]) hw hp=>QZ x.1 hw hp)
def Tryz.spZ5:Bool×aT:=(true,cB [.str] [.str] (fun s=>s.length<=64) (fun s=>eH s))
def Tryz.IL:List (FuncId×(Bool×aT)):=[(68,Tryz.spZ5),(67,(false,aU [] [.d (.slice .str),.d (.int .i64)] (fun a _=>a.1.length=1/\1<=a.2.1/\a.2.1<=1000000) vH)),(69,(false,aU [.row true .str] [.obj 0] (fun _ x=>x.1≠[]/\x.1.length<=1000000) xP))]
def Tryz.NV:bO Tryz.prog Tryz.B Tryz.X Tryz.IL:=
 aN (aE Tryz.Lv) (aN (Tryz.QY) (aN (Tryz.Q0) (bR Tryz.bQ)))
def Tryz.A7:List (Alt Tryz.bA [.obj 0]):=[{bN:=Tryz.bA,res:=[.d .err],out:=fun _ x=>(stepOf x).1,ret:=fun _ x=>(aI (stepOf x).2,())}]
def VG(d:Dk)(hw:gH [.obj 0] ())(hp:(fun _ x =>-1<=x.1.1) () d):(cR Tryz.B [] Tryz.f95 [] Tryz.bA [.obj 0] Tryz.A7 () d).holds:=by
 refine holds_of (p:=
  let za:=d.2.2.2.1=d.2.2.2.1
  let zb:=(-1:Int)
  let zc:=(stepOf d).1
  let zd:=(aI (stepOf d).2,())
  let ze:=(aK.no 9,())=zd
  let zf:=zb-1
  let zg:=(aK.nil,())=zd
  let zh:=d.1.1-1
  let zi:=((d.1.2.1)=true->za/\True/\d=zc/\ze)/\((d.1.2.1)=false->aJ d.1.1->aJ 1->aJ zh/\za/\True/\((if zb > zh then zb else zh,d.1.2),d.2)=zc/\zg)
  ((!d.1.2.1)=true->((d.1.1 == 0)=true->(true=true->za/\True/\((zb,true,()),d.2)=zc/\ze)/\(true=false->aJ zb->aJ 1->aJ zf/\za/\True/\((if zb > zf then zb else zf,true,()),d.2)=zc/\zg))/\((d.1.1 == 0)=false->zi))/\((!d.1.2.1)=false->zi)) (by kernel_rfl) ?_
 dsimp -iota -proj -eta only;refine iB (fun h0=>iQ (fun h1=>⟨fun h2=>(by rw[JU (by simp_all) ‹_›];exact⟨rfl,ba,rfl,rfl⟩),fun h2=>absurd (show true=false from h2) (by decide)⟩) (fun h1=>⟨fun h2 =>?a,fun h2 h3 h4=>⟨?b,(by rw[Pn (by simp_all) ‹_› hp];exact⟨rfl,ba,rfl,rfl⟩)⟩⟩)) (fun h0=>⟨fun h1 =>?c,fun h1 h2 h3=>⟨?d,(by simp_all)⟩⟩)
 case a|c=>rw[JT (by simp_all)];exact⟨rfl,ba,rfl,rfl⟩
 case b|d=>simp only[aJ]at*;omega
def Tryz.VH:bX Tryz.prog Tryz.B.eT Tryz.X 95 false (aU Tryz.bA [.obj 0] (fun _ x =>-1<=x.1.1) Tryz.A7):=
 bE (X:=Tryz.X) (bR Tryz.bQ) Tryz.func95 (by kernel_rfl) (fun(a:CD [.obj 0]) (x:PD Tryz.bA)=>[]) (fun(a:CD [.obj 0]) (x:PD Tryz.bA) hw hp=>VG x hw hp)
def Tryz.A8:List (FuncId×(Bool×aT)):=[(68,Tryz.spZ5),(95,(false,aU Tryz.bA [.obj 0] (fun _ x =>-1<=x.1.1) Tryz.A7))]
def Tryz.CJ:bO Tryz.prog Tryz.B Tryz.X Tryz.A8:=
 aN (aE Tryz.Lv) (aN (Tryz.VH) (bR Tryz.bQ))
def Tryz.xQ:List (Alt Tryz.bA [.obj 0,.d (.int .i64),.d .str]):=[{bN:=Tryz.bA,res:=[.d .err],out:=fun a x=>(bL x a.1 a.2.1).1,ret:=fun a x=>(aI (bL x a.1 a.2.1).2,())}]
def Q1(at_:Int)(s:List UInt8)(d:Dk)(hw:gH [.obj 0,.d (.int .i64),.d .str] (at_,s,()))(hp:(fun _ x =>-1<=x.1.1/\x.2.2.2.1.length<=900000000) (at_,s,()) d):(cR Tryz.B Tryz.A8 Tryz.f70 [] Tryz.bA [.obj 0,.d (.int .i64),.d .str] Tryz.xQ (at_,s,()) d).holds:=by
 refine holds_of (p:=
  let za:=d.2.2.2.1=d.2.2.2.1
  let zb:=bL d at_ s
  let zc:=(aI zb.2,())
  let zd:=za/\True/\d=zb.1/\(aK.no 1,())=zc
  let ze:=bb d.2.2.1
  let zf:=bb s
  let zg:=aI (stepOf d).2
  let zh:=(stepOf d).1
  let zi:=bb zh.2.2.1
  let zj:=bd at_
  let zk:=c7 zh.2.2.1 zj (eH s)
  let zl:=zh.2.2.2.1
  let zm:=[(at_,nth Ty.str zk zj,())]
  let zn:=zl++zm
  let zo:=(zg,())=zc
  ((decide (at_<0))=true->zd)/\((decide (at_<0))=false->ze<=aL->((decide (at_>=(↑ze:Int)))=true->zd)/\((decide (at_>=(↑ze:Int)))=false->zf<=aL->((decide ((↑zf:Int) > 64))=true->zd)/\((decide ((↑zf:Int) > 64))=false->za/\(-1:Int)<=d.1.1/\(True->((aK.isNil zg)=true->zf<=64/\(0<=at_/\at_<(↑zi:Int))/\zj<zi/\(0<=at_/\at_<(↑(bb zk):Int))/\zj<bb zk/\(zl=zl/\bb zl+bb zm<=1000000000)/\zn=zn/\True/\(zh.1,zh.2.1,zk,zn,())=zb.1/\zo)/\((aK.isNil zg)=false->zl=zl/\True/\zh=zb.1/\zo)))))) (by kernel_rfl) ?_
 dsimp -iota -proj -eta only;refine iL (fun h0 =>?a) (fun h0 h1=>iE (fun h2 =>?b) (fun h2 h3=>iL (fun h4 =>?c) (fun h4=>⟨rfl,?d,fun h5=>⟨fun h6=>⟨?e,?f,?g,?h,?i,?j,?k⟩,fun h6=>(by rw[JS (by omega) (fun h=>by have:=aQ.2 h;simp_all)];exact⟨rfl,ba,rfl,rfl⟩)⟩⟩)))
 case a|b|c=>rw[MG (by omega)];exact⟨rfl,ba,rfl,rfl⟩
 case d|e=>omega
 case f|g=>
  have hlen:(stepOf d).fst.snd.snd.fst=d.snd.snd.fst:=congrArg (fun z=>z.2.1) (eV d);have hwt:(stepOf d).fst.snd.snd.snd.fst=d.snd.snd.snd.fst:=congrArg (fun z=>z.2.2.1) (eV d);have hkp:(stepOf d).fst.snd.fst=d.snd.fst:=congrArg (fun z=>z.1) (eV d);rw[hlen];omega
 case h|i=>
  have hlen:(stepOf d).fst.snd.snd.fst=d.snd.snd.fst:=congrArg (fun z=>z.2.1) (eV d);have hwt:(stepOf d).fst.snd.snd.snd.fst=d.snd.snd.snd.fst:=congrArg (fun z=>z.2.2.1) (eV d);have hkp:(stepOf d).fst.snd.fst=d.snd.fst:=congrArg (fun z=>z.1) (eV d);rw[en,hlen];omega
 case j=>
  have hlen:(stepOf d).fst.snd.snd.fst=d.snd.snd.fst:=congrArg (fun z=>z.2.1) (eV d);have hwt:(stepOf d).fst.snd.snd.snd.fst=d.snd.snd.snd.fst:=congrArg (fun z=>z.2.2.1) (eV d);have hkp:(stepOf d).fst.snd.fst=d.snd.fst:=congrArg (fun z=>z.1) (eV d);rw[hwt];simp only[b3,true_and];omega
 case k=>
  have hlen:(stepOf d).fst.snd.snd.fst=d.snd.snd.fst:=congrArg (fun z=>z.2.1) (eV d);have hwt:(stepOf d).fst.snd.snd.snd.fst=d.snd.snd.snd.fst:=congrArg (fun z=>z.2.2.1) (eV d);have hkp:(stepOf d).fst.snd.fst=d.snd.fst:=congrArg (fun z=>z.1) (eV d);rw[Pl (by omega) (aQ.1 ‹_›),Vc (t:=.str) (by rw[hlen];omega),hlen,hwt,hkp];exact⟨rfl,ba,rfl,by simp[aQ.1 ‹(aI (stepOf d).snd).isNil=true›]⟩
def Tryz.s4:bX Tryz.prog Tryz.B.eT Tryz.X 70 false (aU Tryz.bA [.obj 0,.d (.int .i64),.d .str] (fun _ x =>-1<=x.1.1/\x.2.2.2.1.length<=900000000) Tryz.xQ):=
 bE (X:=Tryz.X) Tryz.CJ Tryz.func70 (by kernel_rfl) (fun(a:CD [.obj 0,.d (.int .i64),.d .str]) (x:PD Tryz.bA)=>[]) (fun(a:CD [.obj 0,.d (.int .i64),.d .str]) (x:PD Tryz.bA) hw hp=>Q1 a.1 a.2.1 x hw hp)
def Tryz.A9:List (Alt Tryz.bA [.obj 0,.d (.int .i64)]):=[{bN:=Tryz.bA,res:=[.d .str,.d .err],out:=fun _ x=>x,ret:=fun a x=>((qp x a.1).1,aI (qp x a.1).2,())}]
def TN(at_:Int)(d:Dk)(hw:gH [.obj 0,.d (.int .i64)] (at_,())):(cR Tryz.B [] Tryz.f58 [] Tryz.bA [.obj 0,.d (.int .i64)] Tryz.A9 (at_,()) d).holds:=by
 refine holds_of (p:=
  let za:=d.2.2.2.1=d.2.2.2.1
  let zb:=((qp d at_).1,aI (qp d at_).2,())
  let zc:=za/\True/\d=d/\([],aK.no 1,())=zb
  let zd:=bb d.2.2.1
  ((d.1.2.1)=true->za/\True/\d=d/\([],aK.no 9,())=zb)/\((d.1.2.1)=false->((decide (at_<0))=true->zc)/\((decide (at_<0))=false->zd<=aL->((decide (at_>=(↑zd:Int)))=true->zc)/\((decide (at_>=(↑zd:Int)))=false->(0<=at_/\at_<(↑zd:Int))/\bd at_<zd/\za/\True/\d=d/\(nth Ty.str d.2.2.1 (bd at_),aK.nil,())=zb)))) (by kernel_rfl) ?_
 dsimp -iota -proj -eta only;refine⟨fun h0=>(by rw[MH ‹_›];exact⟨rfl,ba,rfl,rfl⟩),fun h0=>iL (fun h1 =>?a) (fun h1 h2=>iE (fun h3 =>?b) (fun h3=>⟨(by trivial),(by omega),(by rw[SN ‹_› (by omega)];exact⟨rfl,ba,rfl,rfl⟩)⟩))⟩
 case a|b=>rw[Po ‹_› (by omega)];exact⟨rfl,ba,rfl,rfl⟩
def Tryz.IM:bX Tryz.prog Tryz.B.eT Tryz.X 58 false (aU Tryz.bA [.obj 0,.d (.int .i64)] (fun _ _=>True) Tryz.A9):=
 bE (X:=Tryz.X) (bR Tryz.bQ) Tryz.func58 (by kernel_rfl) (fun(a:CD [.obj 0,.d (.int .i64)]) (x:PD Tryz.bA)=>[]) (fun(a:CD [.obj 0,.d (.int .i64)]) (x:PD Tryz.bA) hw hp=>TN a.1 x hw)
def Tryz.xR:List (Alt Tryz.bA [.obj 0]):=[{bN:=Tryz.bA,res:=[.d .err],out:=fun _ x=>(bP x).1,ret:=fun _ x=>(aI (bP x).2,())}]
def Q2(d:Dk)(hw:gH [.obj 0] ())(hp:(fun _ x =>-1<=x.1.1/\x.2.1.length=x.2.2.1.length) () d):(cR Tryz.B Tryz.A8 Tryz.f71 [] Tryz.bA [.obj 0] Tryz.xR () d).holds:=by
 refine holds_of (p:=
  let za:=aI (stepOf d).2
  let zb:=(stepOf d).1
  let zc:=bb zb.2.1
  let zd:=zb.2.2.1
  let ze:=min (bb zd) zc
  let zf:=(za,())=(aI (bP d).2,())
  d.2.2.2.1=d.2.2.2.1/\(-1:Int)<=d.1.1/\(True->((aK.isNil za)=true->(True/\0+zc<=zc)/\(@bc (Int×List UInt8×Unit)=@bc (Int×List UInt8×Unit)/\True/\(zb.1,bf 0 zb.2.1++bf ze zd++bj (0+ze) zb.2.1,zd,[],())=(bP d).1/\zf))/\((aK.isNil za)=false->zb.2.2.2.1=zb.2.2.2.1/\True/\zb=(bP d).1/\zf))) (by kernel_rfl) ?_
 dsimp -iota -proj -eta only;refine⟨rfl,(by omega),fun h0=>⟨fun h1=>⟨(by simp_all),?a⟩,fun h1=>(by rw[zA (fun h=>by have:=aQ.2 h;simp_all)];exact⟨rfl,ba,rfl,rfl⟩)⟩⟩
 case a=>
  have hlen:(stepOf d).fst.snd.snd.fst=d.snd.snd.fst:=congrArg (fun z=>z.2.1) (eV d);have hwt:(stepOf d).fst.snd.snd.snd.fst=d.snd.snd.snd.fst:=congrArg (fun z=>z.2.2.1) (eV d);have hkp:(stepOf d).fst.snd.fst=d.snd.fst:=congrArg (fun z=>z.1) (eV d);have h0:=aQ.1 ‹(aI (stepOf d).snd).isNil=true›;rw[Er h0,hlen,hkp,Hm hp.2,h0];exact⟨rfl,ba,rfl,rfl⟩
def Tryz.s5:bX Tryz.prog Tryz.B.eT Tryz.X 71 false (aU Tryz.bA [.obj 0] (fun _ x =>-1<=x.1.1/\x.2.1.length=x.2.2.1.length) Tryz.xR):=
 bE (X:=Tryz.X) Tryz.CJ Tryz.func71 (by kernel_rfl) (fun(a:CD [.obj 0]) (x:PD Tryz.bA)=>[]) (fun(a:CD [.obj 0]) (x:PD Tryz.bA) hw hp=>Q2 x hw hp)
def Tryz.DD:List (Alt Tryz.bA [.obj 0,.d (.int .i64)]):=[{bN:=Tryz.bA,res:=[],out:=fun a x=>Wy x a.1,ret:=fun _ _=>()}]
def VI(n:Int)(d:Dk)(hw:gH [.obj 0,.d (.int .i64)] (n,())):(cR Tryz.B [] Tryz.f18 [] Tryz.bA [.obj 0,.d (.int .i64)] Tryz.DD (n,()) d).holds:=by
 refine holds_of (p:=
  d.2.2.2.1=d.2.2.2.1/\True/\((if(-1:Int) > n then(-1:Int)else n,d.1.2),d.2)=Wy d n/\()=()) (by kernel_rfl) ?_
 exact⟨rfl,ba,rfl,rfl⟩
def Tryz.Lw:bX Tryz.prog Tryz.B.eT Tryz.X 18 false (aU Tryz.bA [.obj 0,.d (.int .i64)] (fun _ _=>True) Tryz.DD):=
 bE (X:=Tryz.X) (bR Tryz.bQ) Tryz.func18 (by kernel_rfl) (fun(a:CD [.obj 0,.d (.int .i64)]) (x:PD Tryz.bA)=>[]) (fun(a:CD [.obj 0,.d (.int .i64)]) (x:PD Tryz.bA) hw hp=>VI a.1 x hw)
def Tryz.Ba:List (Alt Tryz.bA [.obj 0]):=[{bN:=Tryz.bA,res:=[.d .bool],out:=fun _ x=>x,ret:=fun _ x=>(x.1.2.1,())}]
def TO(d:Dk)(hw:gH [.obj 0] ()):(cR Tryz.B [] Tryz.f19 [] Tryz.bA [.obj 0] Tryz.Ba () d).holds:=by
 refine holds_of (p:=
  d.2.2.2.1=d.2.2.2.1/\True/\d=d/\d.1.2=d.1.2) (by kernel_rfl) ?_
 exact(by trivial)
def Tryz.Bb:bX Tryz.prog Tryz.B.eT Tryz.X 19 false (aU Tryz.bA [.obj 0] (fun _ _=>True) Tryz.Ba):=
 bE (X:=Tryz.X) (bR Tryz.bQ) Tryz.func19 (by kernel_rfl) (fun(a:CD [.obj 0]) (x:PD Tryz.bA)=>[]) (fun(a:CD [.obj 0]) (x:PD Tryz.bA) hw hp=>TO x hw)
def Tryz.tE:List (Alt Tryz.bA [.obj 0]):=[{bN:=Tryz.bA,res:=[.d (.int .i64)],out:=fun _ x=>x,ret:=fun _ x=>((x.2.2.1.length:Int),())}]
def Kg(d:Dk)(hw:gH [.obj 0] ()):(cR Tryz.B [] Tryz.f57 [] Tryz.bA [.obj 0] Tryz.tE () d).holds:=by
 refine holds_of (p:=
  let za:=bb d.2.2.1
  let zb:=((↑za:Int),())
  za<=aL->d.2.2.2.1=d.2.2.2.1/\True/\d=d/\zb=zb) (by kernel_rfl) ?_
 dsimp -iota -proj -eta only;exact fun h0=>(by trivial)
def Tryz.qx:bX Tryz.prog Tryz.B.eT Tryz.X 57 false (aU Tryz.bA [.obj 0] (fun _ _=>True) Tryz.tE):=
 bE (X:=Tryz.X) (bR Tryz.bQ) Tryz.func57 (by kernel_rfl) (fun(a:CD [.obj 0]) (x:PD Tryz.bA)=>[]) (fun(a:CD [.obj 0]) (x:PD Tryz.bA) hw hp=>Kg x hw)
def Tryz.oq:List (Alt Tryz.bA [.obj 0,.d (.int .u64)]):=[{bN:=Tryz.bA,res:=[],out:=fun a x=>kX x a.1,ret:=fun _ _=>()}]
def CK(k:Int)(d:Dk):dO:=[(0,fun st=>{X:=Nat,inv:=fun i=>i<=d.2.2.2.1.length,cA:=fun i=>d.2.2.2.1.length-i,bK:=fun i=>[(11,sI i)],aF:=fun i=>[(1,.aV .str (kQ k d.2.2.2.1 d.2.1 i))],keep:=[0,1,9,10],gQ:=[1]})]
def Kh(k:Int)(d:Dk)(hw:gH [.obj 0,.d (.int .u64)] (k,()))(hp:(fun _ x=>x.2.1.length=x.2.2.1.length/\∀i,i<x.2.2.2.1.length->0<=((nth gR x.2.2.2.1 i).1:Int)/\((nth gR x.2.2.2.1 i).1:Int)<x.2.2.1.length) (k,()) d):(cR Tryz.B [] Tryz.f20 (CK k d) Tryz.bA [.obj 0,.d (.int .u64)] Tryz.oq (k,()) d).holds:=by
 refine holds_of (p:=
  let za:=d.2.2.2.1
  let zb:=bb za
  let zc:=d.2.1
  let zd:=fun(F:Nat)=>(nth gR za F).1
  let ze:=fun(F:Nat)=>kQ k za zc F
  let zf:=fun(F:Nat)=>(↑F:Int)+(1:Int)
  let zg:=d.2.2.1
  let zh:=(C.aV 1=C.aV 1/\C.aV 2=C.aV 2/\za=za/\d.1.1=d.1.1/\d.1.2.1=d.1.2.1/\True)/\zg=zg/\za=za/\True
  let zi:=bb zg
  zb<=aL->(∃(x:Nat),x<=zb/\((0:Int)=(↑x:Int)/\True)/\zc=kQ k za zc x/\True)/\∀F:Nat,F<=zb->((decide ((↑F:Int)<(↑zb:Int)))=true->((0:Int)<=(↑F:Int)/\(↑F:Int)<(↑zb:Int))/\(64:Int)≠(0:Int)/\∀I:Int,I=da (↑F:Int) (64:Int)->(0:Int)<=I/\∀K:Int,K=cf k ((2:Int)^min (bd I) (cj bu))->∀M:Int,M=bk bu (↑(cq (ca (cj bu) K&&&ca (cj bu) (1:Int))):Int)->((M == (1:Int))=true->((0:Int)<=zd F/\zd F<(↑(bb (ze F)):Int))/\bd (zd F)<bb (ze F)/\(aJ (↑F:Int)->aJ (1:Int)->aJ (zf F)/\∃(x':Nat),x'<=zb/\zb-x'<zb-F/\(zf F=(↑x':Int)/\True)/\c7 (ze F) (bd (zd F)) (nth gR za F).2.1=kQ k za zc x'/\zh))/\((M == (1:Int))=false->aJ (↑F:Int)->aJ (1:Int)->aJ (zf F)/\∃(x':Nat),x'<=zb/\zb-x'<zb-F/\(zf F=(↑x':Int)/\True)/\ze F=kQ k za zc x'/\zh))/\((decide ((↑F:Int)<(↑zb:Int)))=false->(True/\0+zi<=zi)/\(@bc (Int×List UInt8×Unit)=@bc (Int×List UInt8×Unit)/\True/\(((-1:Int),false,()),ze F,bf 0 zg++bf (min (bb (ze F)) zi) (ze F)++bj (0+min (bb (ze F)) zi) zg,[],())=kX d k/\()=()))) (by kernel_rfl) ?_
 dsimp -iota -proj -eta only;refine fun h0=>⟨?a,fun F q_0=>iL (fun h1=>⟨(by omega),(by trivial),fun I q_1=>⟨(by have:=Ux F;rw[Int.tmod_eq_emod_of_nonneg (by omega)]at*;omega),fun K q_2 M q_3=>iQ (fun h2=>⟨?b,?c,fun h3 h4=>⟨?d,?e⟩⟩) (fun h2 h3 h4=>⟨?f,?g⟩)⟩⟩) (fun h1=>⟨(by simp_all),?h⟩)⟩
 case a=>refine⟨0,?_⟩;(repeat' (first|exact trivial|rfl|omega|assumption|apply dv))
 case b|c=>have:=hp.2 F (by omega);rw[xe];(try dsimp only[D]at*);omega
 case d|f=>simp only[aJ,aL]at*;omega
 case e|g=>
  have hb:=SL (k:=k) (i:=F) (x:=K) (y:=M) ‹_› (by rw[‹I=_›];exact Ux F) ‹_›
  first|exact⟨F+1,by omega,by omega,⟨by omega,ba⟩,SM (hb.1 ‹_›),(by trivial)⟩|exact⟨F+1,by omega,by omega,⟨by omega,ba⟩,Pm ((not_congr hb).1 ‹_›),(by trivial)⟩
 case h=>
  obtain rfl:F=d.2.2.2.1.length:=by omega
  rw[Hm (by rw[xe];exact hp.1.symm)];exact⟨rfl,ba,rfl,rfl⟩
def Tryz.tG:bX Tryz.prog Tryz.B.eT Tryz.X 20 false (aU Tryz.bA [.obj 0,.d (.int .u64)] (fun _ x=>x.2.1.length=x.2.2.1.length/\∀i,i<x.2.2.2.1.length->0<=((nth gR x.2.2.2.1 i).1:Int)/\((nth gR x.2.2.2.1 i).1:Int)<x.2.2.1.length) Tryz.oq):=
 bE (X:=Tryz.X) (bR Tryz.bQ) Tryz.func20 (by kernel_rfl) (fun(a:CD [.obj 0,.d (.int .u64)]) (x:PD Tryz.bA)=>CK a.1 x) (fun(a:CD [.obj 0,.d (.int .u64)]) (x:PD Tryz.bA) hw hp=>Kh a.1 x hw hp)
def Tryz.Bc:List (Alt [] [.d (.int .i64)]):=[
 {bN:=[],res:=[.gV,.d .err],ok:=fun a _=>a.1<1\/120<a.1,out:=fun _ _=>(),ret:=fun _ _=>(aK.no 1,())},
 {bN:=Tryz.bA,res:=[.obj 0,.d .err],ok:=fun a _=>1<=a.1/\a.1<=120,out:=fun a _=>qX a.1,ret:=fun _ _=>(aK.nil,())}]
def VJ(n:Int)(hw:gH [.d (.int .i64)] (n,())):(cR Tryz.B Tryz.IL Tryz.f43 [] [] [.d (.int .i64)] Tryz.Bc (n,()) ()).holds:=by
 refine holds_of (p:=
  let za:=(aK.no 1,())
  let zb:=(n<1\/120<n)/\()=()/\za=za
  let zc:=[eH (@bc UInt8)]
  let zd:=ch (bd n) (nth Ty.str zc 0)
  let ze:=zd≠@bc (List UInt8)
  ((decide (n<1))=true->zb)/\((decide (n<1))=false->((decide (n > 120))=true->zb)/\((decide (n > 120))=false->bb (@bc UInt8)<=64/\(bb zc=1/\1<=n/\n<=1000000)/\(True->(ze/\bb zd<=1000000)/\(ze->(@bc (Int×List UInt8×Unit)=@bc (Int×List UInt8×Unit)/\(1<=n/\n<=120)/\(((-1:Int),false,()),zd,zd,[],())=qX n/\(aK.nil,())=(aK.nil,()))))))) (by kernel_rfl) ?_
 dsimp -iota -proj -eta only;refine iL (fun h0 =>?a) (fun h0=>iL (fun h1 =>?b) (fun h1=>⟨(by trivial),⟨rfl,by omega,by omega⟩,fun h2=>⟨?c,fun h3=>⟨rfl,by omega,rfl,rfl⟩⟩⟩))
 case a|b=>exact⟨by omega,rfl,rfl⟩
 case c=>
  refine⟨fun h =>?_,by simp only[cp];omega⟩;have:=congrArg bb h;simp only[cp,bz]at this;omega
def Tryz.Lx:bX Tryz.prog Tryz.B.eT Tryz.X 43 false (aU [] [.d (.int .i64)] (fun _ _=>True) Tryz.Bc):=
 bE (X:=Tryz.X) Tryz.NV Tryz.func43 (by kernel_rfl) (fun(a:CD [.d (.int .i64)]) (x:PD [])=>[]) (fun(a:CD [.d (.int .i64)]) (x:PD []) hw hp=>VJ a.1 hw)
def VK(n:Int)(hw:gA [.int .i64] n):(dG Tryz.B [] Tryz.f96 [] [.int .i64] [.str] (fun x y=>y=(fun n=>jV n) x) n).holds:=by
 refine holds_of (p:=
  (0:Int)<=(8:Int)/\∀F:Int,F=cf n ((2:Int)^min 8 (cj bm))->(0:Int)<=(16:Int)/\∀I:Int,I=cf n ((2:Int)^min 16 (cj bm))->(0:Int)<=(24:Int)/\∀K:Int,K=cf n ((2:Int)^min 24 (cj bm))->bb [bk cd n,bk cd F,bk cd I,bk cd K]<=aL/\bytesOf [bk cd n,bk cd F,bk cd I,bk cd K]=jV n) (by kernel_rfl) ?_
 refine⟨?a,fun F q_0=>⟨?b,fun I q_1=>⟨?c,fun K q_2=>⟨((by decide:4<=aL)),(by subst q_0;subst q_1;subst q_2;rfl)⟩⟩⟩⟩
 case a|b|c=>trivial
def Tryz.VL:bW Tryz.prog Tryz.B.eT Tryz.X 96 [.int .i64] [.str] (fun _=>True) (fun x y=>y=(fun n=>jV n) x):=
 cC (X:=Tryz.X) (bR Tryz.bQ) Tryz.func96 (by kernel_rfl) (fun _=>[]) (fun x hw hp=>VK x hw)
def Tryz.Ly:List (FuncId×(Bool×aT)):=[(96,(true,cB [.int .i64] [.str] (fun _=>True) (fun n=>jV n)))]
def Tryz.Q3:bO Tryz.prog Tryz.B Tryz.X Tryz.Ly:=
 aN (aE Tryz.VL) (bR Tryz.bQ)
def TP(a:Int)(b:Int)(hw:gA [.int .i64,.int .i64] (a,b)):(dG Tryz.B Tryz.Ly Tryz.f72 [] [.int .i64,.int .i64] [.str] (fun x y=>y=(fun x=>fG x.1 x.2) x) (a,b)).holds:=by
 refine holds_of (p:=
  let za:=[(83:UInt8)]++jV a
  True/\bb [(83:UInt8)]+bb (jV a)<=aL/\True/\bb za+bb (jV b)<=aL/\za++jV b=fG a b) (by kernel_rfl) ?_
 dsimp -iota -proj -eta only;exact⟨ba,(by rw[sV];exact(by decide:1+4<=aL)),ba,(by rw[bt,sV,sV];exact(by decide:1+4+4<=aL)),(by trivial)⟩
def Tryz.IN:bW Tryz.prog Tryz.B.eT Tryz.X 72 [.int .i64,.int .i64] [.str] (fun _=>True) (fun x y=>y=(fun x=>fG x.1 x.2) x):=
 cC (X:=Tryz.X) Tryz.Q3 Tryz.func72 (by kernel_rfl) (fun _=>[]) (fun x hw hp=>TP x.1 x.2 hw)
def Q4(s:List UInt8)(hw:gA [.str] s)(hp:(fun s=>4<=s.length) s):(dG Tryz.B [] Tryz.f59 [] [.str] [.int .i64] (fun s y=>(y:Int)=iP s) s).holds:=by
 refine holds_of (p:=
  let za:=(↑(bb s):Int)
  let zb:=cj bm
  let zc:=fun(M I K:Int)=>M=bk bm (↑(cq (ca zb I ||| ca zb K)):Int)
  ((0:Int)<=(0:Int)/\(0:Int)<za)/\((0:Int)<=(1:Int)/\(1:Int)<za)/\(0:Int)<=(8:Int)/\∀F:Int,F=bk bm ((↑(b6 (dP s 1)):Int)*(2:Int)^min 8 zb)->∀I:Int,I=bk bm (↑(cq (ca zb (↑(b6 (dP s 0)):Int) ||| ca zb F)):Int)->((0:Int)<=(2:Int)/\(2:Int)<za)/\(0:Int)<=(16:Int)/\∀K:Int,K=bk bm ((↑(b6 (dP s 2)):Int)*(2:Int)^min 16 zb)->∀M:Int,zc M I K->((0:Int)<=(3:Int)/\(3:Int)<za)/\(0:Int)<=(24:Int)/\∀Q:Int,Q=bk bm ((↑(b6 (dP s 3)):Int)*(2:Int)^min 24 zb)->∀R:Int,zc R M Q->R=iP s) (by kernel_rfl) ?_
 dsimp -iota -proj -eta only;refine⟨?a,?b,?c,fun F q_0 I q_1=>⟨?d,?e,fun K q_2 M q_3=>⟨?f,?g,fun Q q_4 R q_5=>(by subst_vars;rfl)⟩⟩⟩
 case a|b|d|f=>omega
 case c|e|g=>trivial
def Tryz.Q5:bW Tryz.prog Tryz.B.eT Tryz.X 59 [.str] [.int .i64] (fun s=>4<=s.length) (fun s y=>(y:Int)=iP s):=
 cC (X:=Tryz.X) (bR Tryz.bQ) Tryz.func59 (by kernel_rfl) (fun _=>[]) (fun x hw hp=>Q4 x hw hp)
def Tryz.spZ6:Bool×aT:=(true,cB [aC] [.str,.err] (fun _=>True) (fun e=>dJ e))
def Tryz.Fe:List (FuncId×(Bool×aT)):=[(85,(false,rY 169 5)),(88,(false,qJ 169 5)),(87,(true,wS 169 5)),(90,Tryz.spZ6)]
def Tryz.Ki:bO Tryz.prog Tryz.B Tryz.X Tryz.Fe:=
 aN (Tryz.z7) (aN (Tryz.xO) (aN (Tryz.Fb) (aN (aE Tryz.IJ) (bR Tryz.bQ))))
def Ff(l:List (D aC)):dO:=[
 (0,fun st=>{X:=Nat,inv:=fun i=>i<=l.length/\∀j,j<i->bC (nth aC l j)=0,cA:=fun i=>l.length-i,bK:=fun i=>[(11,sI i)],keep:=[4,9,10],aF:=fun i=>[(bG st 4,.ext 2 ku (bI (fH (l.take i)),(169:Int),(5:Int),()))],gQ:=[bG st 4]})]
def TQ(l:List (D aC))(hw:gA [.slice aC] l)(hp:(fun l=>l.length<=100) l):(dG (lW Tryz.B [17]) Tryz.Fe Tryz.f77 (Ff l) [.slice aC] [.str,.err] (fun x y=>y=(fun l=>dN l) x) l).holds:=by
 refine holds_of (p:=
  let za:=bb l
  let zb:=(↑(169:Nat):Int)
  let zc:=fun(b:UInt8)=>(↑(b6 b):Int)
  let zd:=((169:Int),(5:Int),())
  let ze:=(↑(5:Nat):Int)
  let zf:=fun(F:Nat)=>bo zc (fH (bf F l))
  za<=aL->(∃(x:Nat),(x<=za/\∀(j:Nat),j<x->bC (nth aC l j)=(0:Int))/\((0:Int)=(↑x:Int)/\True)/\([],zb,(↑(5:TypeId):Int),())=(bo zc (fH (bf x l)),zd)/\True)/\∀F:Nat,(F<=za/\∀(j:Nat),j<F->bC (nth aC l j)=(0:Int))->((decide ((↑F:Int)<(↑za:Int)))=true->((0:Int)<=(↑F:Int)/\(↑F:Int)<(↑za:Int))/\True/\((!aK.isNil (dJ (nth aC l F)).2)=true->([],(dJ (nth aC l F)).2)=dN l)/\((!aK.isNil (dJ (nth aC l F)).2)=false->((169:Int)=zb/\(5:Int)=ze/\bb (zf F)+bb (dJ (nth aC l F)).1<=(140737488355328:Nat))/\(aJ (↑F:Int)->aJ (1:Int)->aJ ((↑F:Int)+(1:Int))/\∃(x':Nat),(x'<=za/\∀(j:Nat),j<x'->bC (nth aC l j)=(0:Int))/\za-x'<za-F/\((↑F:Int)+(1:Int)=(↑x':Int)/\True)/\(zf F++bo zc (dJ (nth aC l F)).1,zb,ze,())=(bo zc (fH (bf x' l)),zd)/\True)))/\((decide ((↑F:Int)<(↑za:Int)))=false->((169:Int)=zb/\(5:Int)=ze)/\(bytesOf (zf F),aK.nil)=dN l)) (by kernel_rfl) ?_
 dsimp -iota -proj -eta only;refine fun h0=>⟨(⟨0,⟨b4 _,fun j hj=>absurd hj (cu _)⟩,⟨rfl,ba⟩,rfl,ba⟩),fun F q_0=>iL (fun h1=>⟨(by omega),ba,iB (fun h2=>(Qo q_0.2 (by omega) h2)) (fun h2=>⟨?a,fun h3 h4=>⟨(by simp only[aJ,aL]at*;omega),(⟨F+1,⟨by omega,lX q_0.2 (vu h2).1⟩,by omega,⟨by omega,ba⟩,oO (Qp (by omega) h2),ba⟩)⟩⟩)⟩) (fun h1=>⟨(by trivial),(by rw[show bytesOf (bo _ (fH (bf F l)))=_ from u9 _];exact Tk q_0.2 (by omega))⟩)⟩
 case a=>refine⟨rfl,rfl,?_⟩;rw[bx];have h1:=Qq hp (i:=F) (by omega) q_0.2;have h2:=Nv h2;omega
def Tryz.TR:bW Tryz.prog Tryz.B.eT Tryz.X 77 [.slice aC] [.str,.err] (fun l=>l.length<=100) (fun x y=>y=(fun l=>dN l) x):=
 cC (B:=(lW Tryz.B [17])) (X:=Tryz.X) (bO.hint (l:=[17]) Tryz.Ki) Tryz.func77 (by kernel_rfl) (fun x=>Ff x) (fun x hw hp=>TQ x hw hp)
end Go.Proofs.YtgokjhhcfemnhadGreatDoor

namespace Go.Proofs.YtgokjhhcfemnhadGreatDoor
open Go.Vg Go.Shelf Go.RowKit
attribute [local go_sem] Oper.semAt_some
def CL(p j k:Nat):Prop:=p=j*k
def WM{n k m:Nat}(h:min k n=m):(if n<k then((n:Nat):Int)else(k:Int))=(m:Int):=by split <;> omega
def Tryz.XD(b1 b2:Nat)(a:Option Addr)(len cap k:Nat)(w0:World)(h1k:1<=k)(hk9:k<=1000000000)(hl9:len<=1000000000)(hlc:len<=cap)(hsome:0<len->∃b o,a=some ⟨b,o,none⟩)
  (l:Nat)(J Jx:List Nat->World->Prop)(hJd:∀s W,J s W->J s W.drew)
  (hY:∀pre x W1,J pre W1->pre.length<fI len k->YieldAt Fence.wide 1 Tryz.prog l #[kq a len k x] W1 fun e W'=>
   (e=.returned (.bool true)/\J (pre++[x]) W'/\(W'.cell? ⟨b1,0,none⟩=W1.cell? ⟨b1,0,none⟩/\W'.cell? ⟨b2,0,none⟩=W1.cell? ⟨b2,0,none⟩))\/(e=.returned (.bool false)/\Jx (pre++[x]) W'))
  (W:World)(hc1:W.cell? ⟨b1,0,none⟩=some (.slice a len cap))(hc2:W.cell? ⟨b2,0,none⟩=some (.int .i64 k))(h0:J [] W) :
  CallsIn Fence.wide 2 Tryz.prog 97 #[.func (.yield l) #[] #[],.pointer (some ⟨b1,0,none⟩),.pointer (some ⟨b2,0,none⟩)] W fun e W'=>(∃v,e=.returned v)/\((∃xs,xs=cr (fI len k)/\J xs W')\/(∃pre,(∃j,pre=cr j)/\Jx pre W')):=by
 refine callsIn_of_wp Tryz.func97 rfl trivial ?_ rfl;have hn:Tryz.f97.ntmps=31:=rfl;simp only[hn,List.size_toArray,bw,bz,Nat.reduceAdd,Nat.reduceSub,Array.replicate_succ,Array.replicate_zero,List.push_toArray,List.append_toArray,List.nil_append,List.cons_append]
 gi_wp2
 gi_loopw [4] (fun i wr=>∃j p:Nat,CL p j k/\j<=fI len k/\i=.int .i64 (p:Int)/\J (cr j) wr/\wr.cell? ⟨b1,0,none⟩=some (.slice a len cap)/\wr.cell? ⟨b2,0,none⟩=some (.int .i64 k))
  (fun i _=>len+k-(intOf i).toNat)
 case atStart=>exact⟨0,0,(Nat.zero_mul k).symm,b4 _,rfl,h0,hc1,hc2⟩
 case round=>
  obtain⟨j,p,hp,hj,rfl,hJs,hw1,hw2⟩:=hrel;by_cases hlt:p<len
  ·have hlt':(p:Int)<(len:Int):=Int.ofNat_lt.2 hlt
   obtain⟨b,o,rfl⟩:=hsome (by omega);obtain⟨m,hm⟩:∃m:Nat,m=min k (len-p):=⟨_,rfl⟩
   have hm0:0<m:=by omega
   have hm00:¬m=0:=by omega
   have hm2:p+m<=len:=by omega
   have hb1:(((p:Nat):Int)+(m:Int))<=1000000000:=by omega
   have hb0:(0:Int)<=((p:Nat):Int)+(m:Int):=by omega
   have hjN:j<fI len k:=by
    unfold fI;rw[eo (by omega)];unfold CL at hp;omega
   obtain⟨fn,tmps,assign,body,hy,hR⟩:=hY (cr j) j wr.drew (hJd _ _ hJs) (by rw[List.length_range];exact hjN);rw[show kq (some ⟨b,o,none⟩) len k j=.slice (some ⟨b,o+p,none⟩) m m by unfold CL at hp;subst hp;subst hm;rfl]at hy
   gi_wp2
   gi_region
   try rw[WM (show min k (len-p)=m from hm.symm)]
   try rw[show min ((k:Nat):Int) ((len-p:Nat):Int)=(m:Int) by omega]
   try rw[<-hm]
   clear hm
   gi_wp2
   refine hR.mono ?_;rintro e W3 (⟨rfl,hJ3,hk3⟩|⟨rfl,hJx3⟩)
   ·have hw3:=hk3.1.trans hw1
    have hw4:=hk3.2.trans hw2;have hs1:(0:Int)<=(p:Int)+(k:Int):=by omega
    have hs2:(p:Int)+(k:Int)<=2000000000:=by omega
    gi_wp2
    go_roundw
    case rel=>exact⟨j+1,p+k,by unfold CL at*;rw[hp,Nat.add_mul,Nat.one_mul],hjN,by simp,by rw[ep];exact hJ3,hw3,hw4⟩
    case measure=>simp[intOf];omega
   ·gi_wp2
    refine bodyPost_ret (results_none rfl _ _ _) rfl ?_;exact⟨⟨_,rfl⟩,.inr ⟨_,⟨j+1,ep.symm⟩,hJx3⟩⟩
  ·have hjN:j=fI len k:=by
    refine Nat.le_antisymm hj (Nat.le_of_not_lt fun hc=>hlt ?_);unfold fI at hc;rw[eo (by omega)]at hc;unfold CL at hp;omega
   gi_wp2
   go_end0
   exact⟨⟨_,rfl⟩,.inl ⟨_,rfl,by rw[<-hjN];exact hJs⟩⟩
def Tryz.VM:um Tryz.prog 97:=fun b1 b2 a len cap k w h1k hk9 hl9 hlc hsome hb1 hb2 hc1 hc2 l J Jx W hW hJ _ hY h0=>
 Tryz.XD b1 b2 a len cap k w h1k hk9 hl9 hlc hsome l J Jx (fun s W hs=>hJ s W W.drew none hs ⟨rfl,rfl,rfl,b9 _,fun _ _ _=>rfl⟩ (fun r e=>by cases e)) hY W
  ((hW.cell (p:=⟨b1,0,none⟩) hb1).trans hc1) ((hW.cell (p:=⟨b2,0,none⟩) hb2).trans hc2) h0
end Go.Proofs.YtgokjhhcfemnhadGreatDoor

namespace Go.Proofs.YtgokjhhcfemnhadGreatDoor
open Go.Vg Go.Mrl
@[reducible] def Tryz.bT:List Ob:=[.box 117 [.obj 1,.d (.int .i64),.d (.slice aC)],.box 98 [.obj 2,.obj 3,.obj 4,.d (.int .i64),.d .bool],.row true .str,.row true .str,.tok gR]
@[reducible] def Tryz.VN:List Ob:=[.box 66 [.obj 1],.box 117 [.obj 2,.d (.int .i64),.d (.slice aC)],.box 98 [.obj 3,.obj 4,.obj 5,.d (.int .i64),.d .bool],.row true .str,.row true .str,.tok gR,.box 31 [.d .err],.box 31 [.d .err],.box 3 [.d (.int .i64)]]
def Tryz.spZ7:Bool×aT:=(true,cB [.int .i64,.int .i64] [.str] (fun _=>True) (fun x=>fG x.1 x.2))
def Tryz.spZ8:Bool×aT:=(false,aU Tryz.bA [.obj 0,.d (.int .i64),.d .str] (fun _ x =>-1<=x.1.1/\x.2.2.2.1.length<=900000000) Tryz.xQ)
def Tryz.spZ9:Bool×aT:=(false,aU Tryz.bA [.obj 0] (fun _ x =>-1<=x.1.1/\x.2.1.length=x.2.2.1.length) Tryz.xR)
def Tryz.Lz:List (FuncId×(Bool×aT)):=[(77,(true,cB [.slice aC] [.str,.err] (fun l=>l.length<=100) (fun l=>dN l))),(72,Tryz.spZ7),(78,(false,gu Tryz.B [] Tryz.f78 [])),(70,Tryz.spZ8),(71,Tryz.spZ9)]
def Tryz.Q6:bO Tryz.prog Tryz.B Tryz.X Tryz.Lz:=
 aN (aE Tryz.TR) (aN (aE Tryz.IN) (aN (eP (bR Tryz.bQ) Tryz.func78 (by kernel_rfl) []) (aN (Tryz.s4) (aN (Tryz.s5) (bR Tryz.bQ)))))
def Tryz.IP(l:List (D aC))(r:Int)(o:List (D aC))(d:Dk):List (Nat×(St->lG)):=[
 (0,fun st=>{inv:=fun pre=>(im l r d pre).2=0,keep:=[1,2,4,5,6,7,8,29],aM:=Tryz.VN,refs:=[(2,0),(4,6),(6,7),(8,8)],pd:=fun pre=>((),(r,o,()),(im l r d pre).1.1,(im l r d pre).1.2.1,(im l r d pre).1.2.2.1,(im l r d pre).1.2.2.2.1,(aK.nil,()),(aK.nil,()),((2+(r+1).tmod 2*55+(pre.length:Int):Int),()),())})]
def Tryz.Bd:List (Alt Tryz.bT [.obj 0,.d (.slice aC)]):=[{bN:=Tryz.bT,res:=[.d .err],out:=fun a x=>(if(eI x.2 x.1.1 a.1).2=0 then(x.1.1+1,a.1,())else x.1,(eI x.2 x.1.1 a.1).1),ret:=fun a x=>(aI (eI x.2 x.1.1 a.1).2,())}]
def VO(l:List (D aC))(r:Int)(o:List (D aC))(d:Dk)(hw:gH [.obj 0,.d (.slice aC)] (l,()))(hp:(fun a x=>a.1.length<=100/\0<=(x.1.1:Int)/\(x.1.1:Int)<=1000000000/\cW x.2 1000000) (l,()) ((r,o,()),d)):(Dw Tryz.B Tryz.Lz 97 Tryz.f50 (Tryz.IP l r o d) Tryz.bT [.obj 0,.d (.slice aC)] Tryz.Bd (l,()) ((r,o,()),d)).holds:=by
 refine holds_of (p:=
  let za:=d.2.2.2.1
  let zb:=(r,o,())
  let zc:=eI d r l
  let zd:=r+(1:Int)
  let ze:=(zd,l,())
  let zf:=(if zc.2=(0:Int)then ze else zb,zc.1)
  let zg:=((dN l).2,())
  let zh:=(aI zc.2,())
  let zi:=(2:Int)≠(0:Int)
  let zj:=da zd (2:Int)
  let zk:=bo (fun(b:UInt8)=>(↑(b6 b):Int)) (dN l).1
  let zl:=(aK.nil,())
  let zm:=(2:Int)+zj*(55:Int)
  let zn:=(bb zk+(64:Nat)-(1:Nat)) / (64:Nat)
  let zo:=fun(M:Nat)=>bf (64:Nat) (bj (M*(64:Nat)) zk)
  let zp:=fun(K:List Nat)=>(im l r d K).1
  let zq:=(-1:Int)
  let zr:=fun(K:List Nat)=>zm+(↑(bb K):Int)
  let zs:=fun(K:List Nat) (M:Nat)=>aI (bL (zp K) (zr K) (bytesOf (zo M))).2
  let zt:=fun(K:List Nat) (M:Nat)=>(bL (zp K) (zr K) (bytesOf (zo M))).1
  let zu:=fun(M:Nat) (K:List Nat)=>(bb (zo M)<=aL)/\((zp K).2.2.2.1=(zp K).2.2.2.1)/\(zq<=(zp K).1.1/\bb (zp K).2.2.2.1<=(900000000:Nat))/\((True)->(((!aK.isNil (zs K M))=true->((K=cr M)->((zt K M).2.2.2.1=(zt K M).2.2.2.1/\True/\(zb,zt K M)=zf/\(zs K M,())=zh)))/\((!aK.isNil (zs K M))=false->((aJ (zr K))->((aJ (1:Int))->(aJ (zr K+(1:Int)))/\((zt K M).2.2.2.1=(zt K M).2.2.2.1/\∃(x':List Nat),(im l r d x').2=(0:Int)/\x'=K++[M]/\True/\True/\true=true/\((),zb,(zt K M).1,(zt K M).2.1,(zt K M).2.2.1,(zt K M).2.2.2.1,zl,(zs K M,()),(zr K+(1:Int),()),())=((),zb,(im l r d x').1.1,(im l r d x').1.2.1,(im l r d x').1.2.2.1,(im l r d x').1.2.2.2.1,zl,zl,(zm+(↑(bb x'):Int),()),())))))))
  let zv:=im l r d (cr zn)
  let zw:=zv.1.2.2.2.1
  let zx:=aI (bP zv.1).2
  let zy:=aK.isNil zx
  let zz:=bb (dN l).1
  let zaa:=(bP zv.1).1
  let zab:=zaa.2.2.2.1
  let zac:=zab=zab
  let zad:=zq<=zaa.1.1
  let zae:=fun(K:Int)=>bL zaa K (fG zd (↑zz:Int))
  let zaf:=fun(K:Int)=>(zae K).1.2.2.2.1=(zae K).1.2.2.2.1
  let zag:=fun(K:Int)=>(bP (zae K).1).1
  let zah:=fun(K:Int)=>(zag K).2.2.2.1=(zag K).2.2.2.1
  let zai:=fun(K:Int)=>(aI (bP (zae K).1).2,())=zh
  let zaj:=fun(K:Int)=>(aI (zae K).2,())=zh
  let zak:=aI (bP zaa).2
  let zal:=(bP zaa).1
  let zam:=zal.2.2.2.1=zal.2.2.2.1
  let zan:=(zak,())=zh
  let zao:=(zx,())=zh
  (bb l<=(100:Nat))/\(((!aK.isNil (dN l).2)=true->(za=za/\True/\(zb,d)=zf/\zg=zh))/\((!aK.isNil (dN l).2)=false->((aJ r)->((aJ (1:Int))->(aJ zd)/\(zi)/\(∀F:Int,((F=zj)->(∀I:Int,((I=F*(55:Int))->((aJ F)->((aJ (55:Int))->(aJ I)/\((aJ (2:Int))->((aJ I)->(aJ ((2:Int)+I))/\(((decide ((64:Int)<(1:Int)))=true->(False))/\((decide ((64:Int)<(1:Int)))=false->((((1:Int)<=(64:Int)/\(64:Int)<=(1000000000:Int)/\bb zk<=(1000000000:Nat)))/\((za=za/\∃(x':List Nat),(im l r d x').2=(0:Int)/\x'=@bc Nat/\True/\True/\true=true/\((),zb,d.1,d.2.1,d.2.2.1,za,zl,zg,((2:Int)+I,()),())=((),zb,(im l r d x').1.1,(im l r d x').1.2.1,(im l r d x').1.2.2.1,(im l r d x').1.2.2.2.1,zl,zl,(zm+(↑(bb x'):Int),()),())))/\((∀K:List Nat,(((im l r d K).2=(0:Int))->(∀M:Nat,((bb K<zn)->((((fun a0 a1:Prop=>a0/\a0/\a1) (((fun a0:Prop=>a0/\a0) ((zu M K)))) ((zu M K))))/\(((((fun a0:Prop=>a0/\a0) ((zu M K))))/\((zu M K))))/\((zu M K))))))))/\(((zv.2=(0:Int))->(zw=zw)/\(zq<=zv.1.1.1/\bb zv.1.2.1=bb zv.1.2.2.1)/\((True)->(((zy)=true->(zi)/\(∀K:Int,((K=zj)->((zz<=aL)->(True)/\(zac)/\(zad/\bb zab<=(900000000:Nat))/\((True)->(((aK.isNil (aI (zae K).2))=true->(zaf K)/\(zq<=(zae K).1.1.1/\bb (zae K).1.2.1=bb (zae K).1.2.2.1)/\((True)->(((aK.isNil (aI (bP (zae K).1).2))=true->((fun a0:Prop=>a0/\a0) ((zah K/\True/\(ze,zag K)=zf/\zai K))))/\((aK.isNil (aI (bP (zae K).1).2))=false->(zah K/\True/\(zb,zag K)=zf/\zai K)))))/\((aK.isNil (aI (zae K).2))=false->(((aK.isNil (aI (zae K).2))=true->((fun a0:Prop=>a0/\a0) ((zaf K/\True/\(ze,(zae K).1)=zf/\zaj K))))/\((aK.isNil (aI (zae K).2))=false->(zaf K/\True/\(zb,(zae K).1)=zf/\zaj K))))))))))/\((zy)=false->(((zy)=true->(zac)/\(zad/\bb zaa.2.1=bb zaa.2.2.1)/\((True)->(((aK.isNil zak)=true->((fun a0:Prop=>a0/\a0) ((zam/\True/\(ze,zal)=zf/\zan))))/\((aK.isNil zak)=false->(zam/\True/\(zb,zal)=zf/\zan)))))/\((zy)=false->(((zy)=true->((fun a0:Prop=>a0/\a0) ((zac/\True/\(ze,zaa)=zf/\zao))))/\((zy)=false->(zac/\True/\(zb,zaa)=zf/\zao)))))))))))))))))))))))))) (by kernel_rfl) ?_
 dsimp -iota -proj -eta only;dsimp only at hp;refine⟨hp.1,iB (fun h0 =>?a) (fun h0 h1 h2=>⟨(by have hr:=hp.2.1;have hr2:=hp.2.2.1;simp only[aJ]at*;dsimp only[D]at*;omega),?b,fun F q_0 I q_1 h3 h4=>⟨?c,fun h5 h6=>⟨?d,⟨fun h7=>absurd (show false=true from h7) (by decide),fun h7=>⟨?e,?f,fun K q_2 M q_3=>⟨(show ∀{a0 a1:Prop},a0->a1->a0/\a0/\a1 from fun g0 g1=>⟨g0,g0,g1⟩) ((show ∀{a0:Prop},a0->a0/\a0 from fun g0=>⟨g0,g0⟩) (⟨?g,rfl,?h,fun h8=>iB (fun h9 h10 =>?i) (fun h9 h10 h11=>⟨?j,?k⟩)⟩)) (⟨?l,rfl,?m,fun h8=>iB (fun h9 h10 =>?n) (fun h9 h10 h11=>⟨?o,?p⟩)⟩),⟨(show ∀{a0:Prop},a0->a0/\a0 from fun g0=>⟨g0,g0⟩) (⟨?q,rfl,?r,fun h8=>iB (fun h9 h10 =>?s) (fun h9 h10 h11=>⟨?t,?u⟩)⟩),⟨?v,rfl,?w,fun h8=>iB (fun h9 h10 =>?x) (fun h9 h10 h11=>⟨?y,?z⟩)⟩⟩,⟨?a0,rfl,?a1,fun h8=>iB (fun h9 h10 =>?a2) (fun h9 h10 h11=>⟨?a3,?a4⟩)⟩⟩,fun h8=>⟨rfl,(by have hf:=A0 (r:=r) hp.1 hp.2.2.2;exact⟨hf.lI,hf.len⟩),fun h9=>⟨fun h10=>⟨?a5,fun K q_2 h11=>⟨ba,rfl,(by have hf:=rq (A0 (r:=r) hp.1 hp.2.2.2);exact⟨hf.lI,b5 hf.mm (by decide)⟩),fun h12=>⟨fun h13=>⟨rfl,(by have hf:=ma (rq (A0 (r:=r) hp.1 hp.2.2.2)) K (fG (r+1) (dN l).1.length);exact⟨hf.lI,hf.len⟩),fun h14=>⟨fun h15=>(show ∀{a0:Prop},a0->a0/\a0 from fun g0=>⟨g0,g0⟩) ((by subst q_2;exact⟨rfl,ba,Qs (E0 h0 h8 (aQ.1 h10) (aQ.1 h13)) (aQ.1 h15)⟩)),fun h15=>(by subst q_2;exact⟨rfl,ba,se (E0 h0 h8 (aQ.1 h10) (aQ.1 h13)) (dX h15)⟩)⟩⟩,fun h13=>⟨fun h14=>(show ∀{a0:Prop},a0->a0/\a0 from fun g0=>⟨g0,g0⟩) ((ct (h13.symm.trans h14))),fun h14=>(by subst q_2;exact⟨rfl,ba,se (Vp h0 h8 (aQ.1 h10) (dX h13)) (dX h13)⟩)⟩⟩⟩⟩,fun h10=>⟨fun h11=>⟨rfl,?a6,fun h12=>⟨fun h13=>(show ∀{a0:Prop},a0->a0/\a0 from fun g0=>⟨g0,g0⟩) (?a7),fun h13 =>?a8⟩⟩,fun h11=>⟨fun h12=>(show ∀{a0:Prop},a0->a0/\a0 from fun g0=>⟨g0,g0⟩) ((ct (h10.symm.trans h12))),fun h12=>⟨rfl,ba,se (Vo h0 h8 (dX h10)) (dX h10)⟩⟩⟩⟩⟩⟩⟩⟩⟩⟩)⟩
 case a=>
  obtain⟨e1,e2,e3⟩:=Qr d r h0;rw[e3];exact⟨rfl,ba,se (z:=(d,lH l)) e1 e2⟩
 case b|a5=>trivial
 case c|d=>have ht:=UG (r:=r) hp.2.1;simp only[aJ]at*;dsimp only[D]at*;omega
 case e=>refine⟨by decide,by decide,?_⟩;rw[bx];have:=EZ hp.1;omega
 case f=>
  refine⟨rfl,[],rfl,rfl,ba,ba,rfl,?_⟩;rw[(qQ h0).1,q_1,q_0];simp[im,mq]
 case g|l|q|v|a0=>rw[b7];exact b5 (Nat.min_le_left _ _) (by decide)
 case h|m|r|w|a1=>
  have hf:=Ij (l:=l) (r:=r) hp.2.2.2 K;have h5000:=vA hp.1;exact⟨hf.lI,b5 hf.mm (by have:K.length<fI (bI (dN l).1).length 64:=q_3;omega)⟩
 case i|n|s|x|a2=>exact⟨rfl,ba,se (NA h0 q_2 h10 q_3 (dX h9)) (dX h9)⟩
 case j|o|t|y|a3=>
  have ht:=UG (r:=r) hp.2.1;have h5000:=vA hp.1;have:K.length<fI (bI (dN l).1).length 64:=q_3;simp only[aJ]at*;dsimp only[D]at*;omega
 case k|p|u|z|a4=>
  have hz:=aQ.1 h9;refine⟨rfl,K++[M],?_,rfl,ba,ba,rfl,?_⟩
  ·rw[Il M q_2];exact hz
  ·rw[Il M q_2,bt]
   refine congrArg (fun z=>((),(r,o,()),z)) ?_;rw[show aI _=aK.nil from congrArg aI hz];simp only[b3,Int.natCast_add,Int.natCast_one,Int.add_assoc];rfl
 case a6|a7|a8=>exact ct (h10.symm.trans h11)
def Tryz.LA:bX Tryz.prog Tryz.B.eT Tryz.X 50 false (aU Tryz.bT [.obj 0,.d (.slice aC)] (fun a x=>a.1.length<=100/\0<=(x.1.1:Int)/\(x.1.1:Int)<=1000000000/\cW x.2 1000000) Tryz.Bd):=
 Dx (X:=Tryz.X) Tryz.Q6 Tryz.VM Tryz.func97 (by kernel_rfl) Tryz.func50 (by kernel_rfl) (fun(a:CD [.obj 0,.d (.slice aC)]) (x:PD Tryz.bT)=>Tryz.IP a.1 x.1.1 x.1.2.1 x.2) (fun(a:CD [.obj 0,.d (.slice aC)]) (x:PD Tryz.bT) hw hp=>VO a.1 x.1.1 x.1.2.1 x.2 hw hp)
def Tryz.CM:List (FuncId×(Bool×aT)):=[(74,(false,gu Tryz.B [] Tryz.f74 []))]
def Tryz.IQ:bO Tryz.prog Tryz.B Tryz.X Tryz.CM:=
 aN (eP (bR Tryz.bQ) Tryz.func74 (by kernel_rfl) []) (bR Tryz.bQ)
def Fg:dO:=[(0,fun st=>{X:=Nat,inv:=fun i=>i<=(cZ (.slice aC) st 0).length/\∀j,j<i->(nth aC (cZ (.slice aC) st 0) j).1≠Sv .str st (Mx st 1 0),cA:=fun i=>(cZ (.slice aC) st 0).length-i,bK:=fun i=>[(8,sI i)],keep:=[0,1,7]})]
def Tryz.LB:List (FuncId×(Bool×aT)):=[(73,(false,gu Tryz.B Tryz.CM Tryz.f73 Fg))]
def Tryz.Q7:bO Tryz.prog Tryz.B Tryz.X Tryz.LB:=
 aN (eP Tryz.IQ Tryz.func73 (by kernel_rfl) Fg) (bR Tryz.bQ)
def Tryz.Be:List (Alt Tryz.bT [.obj 0,.d .str]):=[{bN:=Tryz.bT,res:=[.d (.int .i64)],out:=fun _ x=>x,ret:=fun a x=>(eA x.1.2.1 a.1,())}]
def VP(s:List UInt8)(r:Int)(o:List (D aC))(d:Dk)(hw:gH [.obj 0,.d .str] (s,())):(cR Tryz.B Tryz.LB Tryz.f48 [] Tryz.bT [.obj 0,.d .str] Tryz.Be (s,()) ((r,o,()),d)).holds:=by
 refine holds_of (p:=
  let za:=bb o
  let zb:=d.2.2.2.1=d.2.2.2.1
  let zc:=((r,o,()),d)
  let zd:=(eA o s,())
  let ze:=C.ref 1 0
  za<=aL->(∃(x:Nat),(x<=za/\∀(j:Nat),j<x->(nth aC o j).1≠s)/\(0=(↑x:Int)/\True)/\True)/\∀F:Nat,(F<=za/\∀(j:Nat),j<F->(nth aC o j).1≠s)->((decide ((↑F:Int)<(↑za:Int)))=true->(0<=(↑F:Int)/\(↑F:Int)<(↑za:Int))/\(((nth aC o F).1 == s)=true->zb/\True/\zc=zc/\((↑F:Int),())=zd)/\(((nth aC o F).1 == s)=false->aJ (↑F:Int)->aJ 1->aJ ((↑F:Int)+1)/\∃(x':Nat),(x'<=za/\∀(j:Nat),j<x'->(nth aC o j).1≠s)/\za-x'<za-F/\((↑F:Int)+1=(↑x':Int)/\True)/\(s=s/\True)/\(ze=ze/\r=r/\o=o/\True)/\(C.aV 2=C.aV 2/\C.aV 3=C.aV 3/\zb/\d.1.1=d.1.1/\d.1.2.1=d.1.2.1/\True)/\d.2.1=d.2.1/\d.2.2.1=d.2.2.1/\zb/\True))/\((decide ((↑F:Int)<(↑za:Int)))=false->zb/\True/\zc=zc/\((-1:Int),())=zd)) (by kernel_rfl) ?_
 dsimp -iota -proj -eta only;exact fun h0=>⟨(⟨0,⟨b4 _,fun j hj=>absurd hj (cu _)⟩,⟨rfl,ba⟩,ba⟩),fun F q_0=>iL (fun h1=>⟨(by omega),iQ (fun h2=>⟨rfl,ba,rfl,by rw[AY (by omega) q_0.2 h2]⟩) (fun h2 h3 h4=>⟨(by simp only[aJ,aL]at*;omega),(⟨F+1,⟨by omega,lX q_0.2 h2⟩,by omega,⟨by omega,ba⟩,(by trivial)⟩)⟩)⟩) (fun h1=>⟨rfl,ba,rfl,by rw[rp fun j hj=>q_0.2 j (by omega)]⟩)⟩
def Tryz.DE:bX Tryz.prog Tryz.B.eT Tryz.X 48 false (aU Tryz.bT [.obj 0,.d .str] (fun _ _=>True) Tryz.Be):=
 bE (X:=Tryz.X) Tryz.Q7 Tryz.func48 (by kernel_rfl) (fun(a:CD [.obj 0,.d .str]) (x:PD Tryz.bT)=>[]) (fun(a:CD [.obj 0,.d .str]) (x:PD Tryz.bT) hw hp=>VP a.1 x.1.1 x.1.2.1 x.2 hw)
def NW(l:List (D aG))(hw:gA [.slice aG] l)(hp:(fun l=>l.length<=1000000) l):(dG Tryz.B [] Tryz.f75 [] [.slice aG] [.slice aG] (fun x y=>y=(fun l=>l) x) l).holds:=by
 refine holds_of (p:=
  ∀F:Bool,(0<bb l->F=false)->(F=true->(@bc (List UInt8×Int×Int×Unit)=l))/\(F=false->bb l<=1000000000/\l=l)) (by kernel_rfl) ?_
 exact fun F q_0=>⟨fun h0=>(by simp_all),fun h0=>⟨(by omega),rfl⟩⟩
def Tryz.NX:bW Tryz.prog Tryz.B.eT Tryz.X 75 [.slice aG] [.slice aG] (fun l=>l.length<=1000000) (fun x y=>y=(fun l=>l) x):=
 cC (X:=Tryz.X) (bR Tryz.bQ) Tryz.func75 (by kernel_rfl) (fun _=>[]) (fun x hw hp=>NW x hw hp)
def NY(l:List (D aR))(hw:gA [.slice aR] l)(hp:(fun l=>l.length<=1000000) l):(dG Tryz.B [] Tryz.f76 [] [.slice aR] [.slice aR] (fun x y=>y=(fun l=>l) x) l).holds:=by
 refine holds_of (p:=
  ∀F:Bool,(0<bb l->F=false)->(F=true->(@bc (Int×Int×Int×Unit)=l))/\(F=false->bb l<=1000000000/\l=l)) (by kernel_rfl) ?_
 exact fun F q_0=>⟨fun h0=>(by simp_all),fun h0=>⟨(by omega),rfl⟩⟩
def Tryz.NZ:bW Tryz.prog Tryz.B.eT Tryz.X 76 [.slice aR] [.slice aR] (fun l=>l.length<=1000000) (fun x y=>y=(fun l=>l) x):=
 cC (X:=Tryz.X) (bR Tryz.bQ) Tryz.func76 (by kernel_rfl) (fun _=>[]) (fun x hw hp=>NY x hw hp)
def Tryz.Fh:List (FuncId×(Bool×aT)):=[(75,(true,cB [.slice aG] [.slice aG] (fun l=>l.length<=1000000) (fun l=>l))),(76,(true,cB [.slice aR] [.slice aR] (fun l=>l.length<=1000000) (fun l=>l)))]
def Tryz.Kj:bO Tryz.prog Tryz.B Tryz.X Tryz.Fh:=
 aN (aE Tryz.NX) (aN (aE Tryz.NZ) (bR Tryz.bQ))
def Q8(e:D aC)(hw:gA [aC] e)(hp:(fun e=>e.2.1.length<=1000000/\e.2.2.1.length<=1000000) e):(dG Tryz.B Tryz.Fh Tryz.f49 [] [aC] [aC] (fun x y=>y=(fun e=>e) x) e).holds:=by
 refine holds_of (p:=
  bb e.2.1<=1000000/\bb e.2.2.1<=1000000/\e=e) (by kernel_rfl) ?_
 refine⟨?a,?b,rfl⟩
 case a|b=>omega
def Tryz.Fi:bW Tryz.prog Tryz.B.eT Tryz.X 49 [aC] [aC] (fun e=>e.2.1.length<=1000000/\e.2.2.1.length<=1000000) (fun x y=>y=(fun e=>e) x):=
 cC (X:=Tryz.X) Tryz.Kj Tryz.func49 (by kernel_rfl) (fun _=>[]) (fun x hw hp=>Q8 x hw hp)
def Tryz.spZ10:Bool×aT:=(false,gu Tryz.B [] Tryz.f47 [])
def Tryz.spZ11:Bool×aT:=(false,aU Tryz.bT [.obj 0,.d .str] (fun _ _=>True) Tryz.Be)
def Tryz.spZ12:Bool×aT:=(true,cB [aC] [aC] (fun e=>e.2.1.length<=1000000/\e.2.2.1.length<=1000000) (fun e=>e))
def Tryz.spZ13:Bool×aT:=(false,aU Tryz.bT [.obj 0,.d (.slice aC)] (fun a x=>a.1.length<=100/\0<=(x.1.1:Int)/\(x.1.1:Int)<=1000000000/\cW x.2 1000000) Tryz.Bd)
def Tryz.IS:List (FuncId×(Bool×aT)):=[(46,Tryz.spZ3),(47,Tryz.spZ10),(48,Tryz.spZ11),(49,Tryz.spZ12),(50,Tryz.spZ13)]
def Tryz.N0:bO Tryz.prog Tryz.B Tryz.X Tryz.IS:=
 aN (aE Tryz.Fa) (aN (eP (bR Tryz.bQ) Tryz.func47 (by kernel_rfl) []) (aN (Tryz.DE) (aN (aE Tryz.Fi) (aN (Tryz.LA) (bR Tryz.bQ)))))
def Tryz.DF:List (Alt Tryz.bT [.obj 0,.d aC]):=[{bN:=Tryz.bT,res:=[.d .err],out:=fun a x=>(kr x a.1).1,ret:=fun a x=>(aI (kr x a.1).2,())}]
def TS(e:D aC)(r:Int)(o:List (D aC))(d:Dk)(hw:gH [.obj 0,.d aC] (e,()))(hp:(fun a x=>(a.1.2.1.length<=1000000/\a.1.2.2.1.length<=1000000)/\x.1.2.1.length<=99/\0<=(x.1.1:Int)/\(x.1.1:Int)<=1000000000/\cW x.2 1000000) (e,()) ((r,o,()),d)):(cR Tryz.B Tryz.IS Tryz.f31 [] Tryz.bT [.obj 0,.d aC] Tryz.DF (e,()) ((r,o,()),d)).holds:=by
 refine holds_of (p:=
  let za:=aI (bC e)
  let zb:=d.2.2.2.1=d.2.2.2.1
  let zc:=(r,o,())
  let zd:=kr (zc,d) e
  let ze:=(zc,d)=zd.1
  let zf:=(aI zd.2,())
  let zg:=bb o
  let zh:=eA o e.1
  let zi:=decide (zh>=0)
  let zj:=bb e.2.1<=1000000/\bb e.2.2.1<=1000000
  let zk:=0<=zh
  let zl:=bb (@bc (List UInt8×List (List UInt8×Int×Int×Unit)×List (Int×Int×Int×Unit)×Unit))
  let zm:=zb/\True/\ze/\(aK.no 2,())=zf
  let zn:=@bc (List UInt8×List (List UInt8×Int×Int×Unit)×List (Int×Int×Int×Unit)×Unit)++[e]
  let zo:=0<=r/\r<=1000000000/\cW d 1000000
  let zp:=eI d r zn
  let zq:=zp.1.2.2.2.1
  let zr:=r+1
  let zs:=c7 o (bd zh) e
  let zt:=eI d r zs
  let zu:=zt.1.2.2.2.1
  let zv:=o++[e]
  let zw:=eI d r zv
  let zx:=zw.1.2.2.2.1
  True/\((!aK.isNil za)=true->zb/\True/\ze/\(za,())=zf)/\((!aK.isNil za)=false->∀F:Bool,(0<zg->F=false)->(F=true->zb/\True/\(True->(zi=true->zj/\(zk/\zh<(↑zl:Int))/\False)/\(zi=false->zl<=aL->(((↑zl:Int) == 3)=true->zm)/\(((↑zl:Int) == 3)=false->zj/\(@bc (List UInt8×List (List UInt8×Int×Int×Unit)×List (Int×Int×Int×Unit)×Unit)=@bc (List UInt8×List (List UInt8×Int×Int×Unit)×List (Int×Int×Int×Unit)×Unit)/\zl+bb [e]<=1000000000)/\zb/\(bb zn<=100/\zo)/\(True->zq=zq/\True/\(if zp.2=0 then(zr,zn,())else zc,zp.1)=zd.1/\(aI zp.2,())=zf)))))/\(F=false->zg<=1000000000/\zb/\True/\(True->(zi=true->zj/\(zk/\zh<(↑zg:Int))/\bd zh<zg/\zb/\(bb zs<=100/\zo)/\(True->zu=zu/\True/\(if zt.2=0 then(zr,zs,())else zc,zt.1)=zd.1/\(aI zt.2,())=zf))/\(zi=false->zg<=aL->(((↑zg:Int) == 3)=true->zm)/\(((↑zg:Int) == 3)=false->zj/\(o=o/\zg+bb [e]<=1000000000)/\zb/\(bb zv<=100/\zo)/\(True->zx=zx/\True/\(if zw.2=0 then(zr,zv,())else zc,zw.1)=zd.1/\(aI zw.2,())=zf))))))) (by kernel_rfl) ?_
 dsimp -iota -proj -eta only;dsimp only at hp;refine⟨ba,iB (fun h0=>(by rw[E1 (dX h0)];exact⟨rfl,ba,rfl,rfl⟩)) (fun h0 F q_0=>⟨fun h1=>⟨rfl,ba,fun h2=>iE (fun h3=>⟨?a,(by exfalso;have:=xI q_0 h1;subst this;exact oZ _ h3),(by have:=xI q_0 h1;subst this;exact oZ _ h3)⟩) (fun h3 h4=>⟨fun h5=>absurd (show false=true from h5) (by decide),fun h5=>⟨?b,?c,rfl,?d,fun h6 =>?e⟩⟩)⟩,fun h1=>⟨?f,rfl,ba,fun h2=>iE (fun h3=>⟨?g,⟨by omega,(qb o e.1).1⟩,(by have:=(qb o e.1).1;omega),rfl,?h,fun h4=>(by rw[Ln (x:=((r,o,()),d)) (aQ.1 h0) (by omega)];exact⟨rfl,ba,rfl,rfl⟩)⟩) (fun h3 h4=>iQ (fun h5=>(by rw[Im (x:=((r,o,()),d)) (aQ.1 h0) (show ¬0<=eA o e.1 by omega) h5];exact⟨rfl,ba,rfl,rfl⟩)) (fun h5=>⟨?i,(by have h99:o.length<=99:=hp.2.1;exact⟨rfl,by rw[b3];omega⟩),rfl,?j,fun h6=>(by rw[Dy (x:=((r,o,()),d)) (aQ.1 h0) (show ¬0<=eA o e.1 by omega) h5];exact⟨rfl,ba,rfl,rfl⟩)⟩))⟩⟩)⟩
 case a|b|f|g|i=>omega
 case c|d|j=>simp_all
 case e=>
  have ho:=xI q_0 h1;subst ho;rw[Dy (x:=((r,[],()),d)) (aQ.1 h0) (oZ _) (show ¬((([]:List (D aC)).length:Int)=3)from by decide)];exact⟨rfl,ba,rfl,rfl⟩
 case h=>refine⟨?_,hp.2.2.1,hp.2.2.2.1,hp.2.2.2.2⟩;rw[en];exact b5 hp.2.1 (by decide)
def Tryz.TT:bX Tryz.prog Tryz.B.eT Tryz.X 31 false (aU Tryz.bT [.obj 0,.d aC] (fun a x=>(a.1.2.1.length<=1000000/\a.1.2.2.1.length<=1000000)/\x.1.2.1.length<=99/\0<=(x.1.1:Int)/\(x.1.1:Int)<=1000000000/\cW x.2 1000000) Tryz.DF):=
 bE (X:=Tryz.X) Tryz.N0 Tryz.func31 (by kernel_rfl) (fun(a:CD [.obj 0,.d aC]) (x:PD Tryz.bT)=>[]) (fun(a:CD [.obj 0,.d aC]) (x:PD Tryz.bT) hw hp=>TS a.1 x.1.1 x.1.2.1 x.2 hw hp)
def Tryz.Q9:List (FuncId×(Bool×aT)):=[(48,Tryz.spZ11),(49,Tryz.spZ12)]
def Tryz.TU:bO Tryz.prog Tryz.B Tryz.X Tryz.Q9:=
 aN (Tryz.DE) (aN (aE Tryz.Fi) (bR Tryz.bQ))
def Tryz.DG:List (Alt Tryz.bT [.obj 0,.d .str]):=[{bN:=Tryz.bT,res:=[.d aC,.d .bool],out:=fun _ x=>x,ret:=fun a x=>((gG x.1.2.1 a.1).1,(gG x.1.2.1 a.1).2,())}]
def WN(s:List UInt8)(r:Int)(o:List (D aC))(d:Dk)(hw:gH [.obj 0,.d .str] (s,()))(hp:(fun _ x=>∀i,i<x.1.2.1.length->(nth aC x.1.2.1 i).2.1.length<=1000000/\(nth aC x.1.2.1 i).2.2.1.length<=1000000) (s,()) ((r,o,()),d)):(cR Tryz.B Tryz.Q9 Tryz.f32 [] Tryz.bT [.obj 0,.d .str] Tryz.DG (s,()) ((r,o,()),d)).holds:=by
 refine holds_of (p:=
  let za:=d.2.2.2.1=d.2.2.2.1
  let zb:=eA o s
  let zc:=((r,o,()),d)
  let zd:=((gG o s).1,(gG o s).2,())
  let ze:=nth aC o (bd zb)
  za/\True/\(True->((decide (zb<0))=true->za/\True/\zc=zc/\(([],[],[],()),false,())=zd)/\((decide (zb<0))=false->(0<=zb/\zb<(↑(bb o):Int))/\(bb ze.2.1<=1000000/\bb ze.2.2.1<=1000000)/\za/\True/\zc=zc/\(ze,true,())=zd))) (by kernel_rfl) ?_
 dsimp -iota -proj -eta only;dsimp only at hp;exact⟨rfl,ba,fun h0=>iL (fun h1=>(by rw[Io (by omega)];exact⟨rfl,ba,rfl,rfl⟩)) (fun h1=>⟨⟨by omega,(qb o s).1⟩,(hp _ (by have:=(qb o s).1;omega)),(by rw[Lo (by omega)];exact⟨rfl,ba,rfl,rfl⟩)⟩)⟩
def Tryz.WO:bX Tryz.prog Tryz.B.eT Tryz.X 32 false (aU Tryz.bT [.obj 0,.d .str] (fun _ x=>∀i,i<x.1.2.1.length->(nth aC x.1.2.1 i).2.1.length<=1000000/\(nth aC x.1.2.1 i).2.2.1.length<=1000000) Tryz.DG):=
 bE (X:=Tryz.X) Tryz.TU Tryz.func32 (by kernel_rfl) (fun(a:CD [.obj 0,.d .str]) (x:PD Tryz.bT)=>[]) (fun(a:CD [.obj 0,.d .str]) (x:PD Tryz.bT) hw hp=>WN a.1 x.1.1 x.1.2.1 x.2 hw hp)
def Tryz.IT(o:List (D aC)):dO:=[
 (0,fun st=>{X:=Nat,inv:=fun i=>i<=o.length,cA:=fun i=>o.length-i,bK:=fun i=>[(11,sI i),(3,.s (.one (.app .str (jf (o.take i)) (bG st 3))))],aF:=fun i=>[(bG st 3,.tok .str (jf (o.take i)))],keep:=[2,9,10],gQ:=[bG st 3]})]
def Tryz.xS:List (Alt Tryz.bT [.obj 0]):=[{bN:=Tryz.bT,res:=[.d (.slice .str)],out:=fun _ x=>x,ret:=fun _ x=>(jf x.1.2.1,())}]
def TV(r:Int)(o:List (D aC))(d:Dk)(hw:gH [.obj 0] ())(hp:(fun _ x=>x.1.2.1.length<=1000000) () ((r,o,()),d)):(cR (lW Tryz.B [19]) [] Tryz.f37 ((fun(r:Int) (o:List (D aC)) (d:Dk)=>Tryz.IT o) r o d) Tryz.bT [.obj 0] Tryz.xS () ((r,o,()),d)).holds:=by
 refine holds_of (p:=
  let za:=bb o
  let zb:=fun(F:Nat)=>jf (bf F o)
  let zc:=fun(F:Nat)=>zb F++[(nth aC o F).1]
  let zd:=C.ref 1 0
  let ze:=d.2.2.2.1=d.2.2.2.1
  let zf:=((r,o,()),d)
  za<=aL->(∃(x:Nat),x<=za/\(0=(↑x:Int)/\@bc (List UInt8)=jf (bf x o)/\True)/\@bc (List UInt8)=jf (bf x o)/\True)/\∀F:Nat,F<=za->((decide ((↑F:Int)<(↑za:Int)))=true->(0<=(↑F:Int)/\(↑F:Int)<(↑za:Int))/\(zb F=zb F/\bb (zb F)+bb [(nth aC o F).1]<=1000000000)/\(aJ (↑F:Int)->aJ 1->aJ ((↑F:Int)+1)/\∃(x':Nat),x'<=za/\za-x'<za-F/\((↑F:Int)+1=(↑x':Int)/\zc F=jf (bf x' o)/\True)/\zc F=jf (bf x' o)/\@bc (List UInt8)=@bc (List UInt8)/\(zd=zd/\r=r/\o=o/\True)/\(C.aV 2=C.aV 2/\C.aV 3=C.aV 3/\ze/\d.1.1=d.1.1/\d.1.2.1=d.1.2.1/\True)/\d.2.1=d.2.1/\d.2.2.1=d.2.2.1/\ze/\True))/\((decide ((↑F:Int)<(↑za:Int)))=false->ze/\True/\zf=zf/\(zb F,())=(jf o,()))) (by kernel_rfl) ?_
 dsimp -iota -proj -eta only;dsimp only at hp;refine fun h0=>⟨(⟨0,b4 _,⟨rfl,rfl,ba⟩,rfl,ba⟩),fun F q_0=>iL (fun h1=>⟨(by omega),?a,fun h2 h3=>⟨(by simp only[aJ,aL]at*;omega),(⟨F+1,by omega,by omega,⟨by omega,zY (by omega),ba⟩,zY (by omega),(by trivial)⟩)⟩⟩) (fun h1=>(by rw[de (by omega)];exact⟨rfl,ba,rfl,rfl⟩))⟩
 case a=>refine⟨rfl,?_⟩;rw[NB,b7,b3];have:o.length<=1000000:=hp;omega
def Tryz.TW:bX Tryz.prog Tryz.B.eT Tryz.X 37 false (aU Tryz.bT [.obj 0] (fun _ x=>x.1.2.1.length<=1000000) Tryz.xS):=
 bE (B:=(lW Tryz.B [19])) (X:=Tryz.X) (bO.hint (l:=[19]) (bR Tryz.bQ)) Tryz.func37 (by kernel_rfl) (fun(a:CD [.obj 0]) (x:PD Tryz.bT)=>(fun(r:Int) (o:List (D aC)) (d:Dk)=>Tryz.IT o) x.1.1 x.1.2.1 x.2) (fun(a:CD [.obj 0]) (x:PD Tryz.bT) hw hp=>TV x.1.1 x.1.2.1 x.2 hw hp)
def Tryz.spZ14:Bool×aT:=(true,cB [.str] [.int .i64,.err] (fun s=>s.length<=281474976710656) (fun s=>dV s))
def Tryz.spZ15:Bool×aT:=(true,cB [.str,.str] [.str,.bool] (fun _=>True) (fun x=>(cb x.1 x.2,cy x.1 x.2)))
def Tryz.spZ16:Bool×aT:=(true,cB [.str,.str] [.str] (fun _=>True) (fun x=>br x.1 x.2))
def Tryz.spZ17:Bool×aT:=(true,cB [.str,.str] [.slice .str] (fun x=>x.1.length<4294967281/\x.2.length=1) (fun x=>parts (Ht x.2) x.1))
def Tryz.CN:List (FuncId×(Bool×aT)):=[(84,Tryz.spZ2),(103,Tryz.spZ14),(81,Tryz.spZ15),(52,Tryz.spZ16),(51,Tryz.spZ17)]
def Tryz.IU:bO Tryz.prog Tryz.B Tryz.X Tryz.CN:=
 aN (aE Tryz.oR) (aN (aE Tryz.sh) (aN (aE Tryz.nq) (aN (aE Tryz.mr) (aN (aE Tryz.si) (bR Tryz.bQ)))))
def CO(l:List (List UInt8)):dO:=[
 (0,fun st=>{X:=Nat,inv:=fun i=>i<=l.length/\∀j,j<i->(cS (nth .str l j)).isNone=false,cA:=fun i=>l.length-i,bK:=fun i=>[(11,sI i),(4,.s (.one (.app (.int .i64) (l8 (l.take i)) (bG st 4))))],aF:=fun i=>[(bG st 4,.tok (.int .i64) (l8 (l.take i)))],keep:=[9,10],gQ:=[bG st 4]})]
def Kk(l:List (List UInt8))(hw:gA [.slice .str] l)(hp:(fun l=>l.length<=1000000/\∀i,(nth .str l i).length<=1000000) l):(dG Tryz.B Tryz.CN Tryz.f89 (CO l) [.slice .str] [.slice (.int .i64),.bool] (fun x y=>y=(fun l=>bS l) x) l).holds:=by
 refine holds_of (p:=
  let za:=bb l
  let zb:=([],false)=bS l
  let zc:=fun(F:Nat)=>l8 (bf F l)
  let zd:=fun(F:Nat)=>zc F++[(dV (nth Ty.str l F)).1]
  za<=aL->(∃(x:Nat),(x<=za/\∀(j:Nat),j<x->ck (cS (nth Ty.str l j))=false)/\(0=(↑x:Int)/\@bc Int=l8 (bf x l)/\True)/\@bc Int=l8 (bf x l)/\True)/\∀F:Nat,(F<=za/\∀(j:Nat),j<F->ck (cS (nth Ty.str l j))=false)->((decide ((↑F:Int)<(↑za:Int)))=true->(0<=(↑F:Int)/\(↑F:Int)<(↑za:Int))/\bb (nth Ty.str l F)<=281474976710656/\((!aK.isNil (dV (nth Ty.str l F)).2)=true->zb)/\((!aK.isNil (dV (nth Ty.str l F)).2)=false->True/\((!bp (dV (nth Ty.str l F)).1 == nth Ty.str l F)=true->zb)/\((!bp (dV (nth Ty.str l F)).1 == nth Ty.str l F)=false->(zc F=zc F/\bb (zc F)+bb [(dV (nth Ty.str l F)).1]<=1000000000)/\(aJ (↑F:Int)->aJ 1->aJ ((↑F:Int)+1)/\∃(x':Nat),(x'<=za/\∀(j:Nat),j<x'->ck (cS (nth Ty.str l j))=false)/\za-x'<za-F/\((↑F:Int)+1=(↑x':Int)/\zd F=l8 (bf x' l)/\True)/\zd F=l8 (bf x' l)/\@bc Int=@bc Int/\True))))/\((decide ((↑F:Int)<(↑za:Int)))=false->(zc F,true)=bS l)) (by kernel_rfl) ?_
 dsimp -iota -proj -eta only;refine fun h0=>⟨(⟨0,⟨b4 _,fun j hj=>absurd hj (cu _)⟩,⟨rfl,rfl,ba⟩,rfl,ba⟩),fun F q_0=>iL (fun h1=>⟨(by omega),(b5 (hp.2 _) (by decide)),iB (fun h2=>(zT (i:=F) (by omega) (by rw[qK,h2];rfl))) (fun h2=>⟨ba,⟨fun h3 =>?a,fun h3=>⟨?b,fun h4 h5=>⟨?c,?d⟩⟩⟩⟩)⟩) (fun h1=>(Ns (i:=F) (by omega) (fun j hj _=>q_0.2 j hj)))⟩
 case a=>
  simp only[bl,reduceCtorEq]at h3;exact zT (i:=F) (by omega) (by rw[qK,decide_eq_false h3];simp)
 case b=>
  simp only[bl,reduceCtorEq]at h3;exact⟨rfl,by unfold l8;simp only[bx,b7,b3];omega⟩
 case c=>
  simp only[bl,reduceCtorEq]at h3;simp only[aJ,aL]at*;omega
 case d=>
  simp only[bl,reduceCtorEq]at h3;exact⟨F+1,⟨by omega,lX q_0.2 (by rw[qK,h2,decide_eq_true h3];rfl)⟩,by omega,⟨by omega,(Cs (by omega)).symm,ba⟩,(Cs (by omega)).symm,(by trivial)⟩
def Tryz.Kl:bW Tryz.prog Tryz.B.eT Tryz.X 89 [.slice .str] [.slice (.int .i64),.bool] (fun l=>l.length<=1000000/\∀i,(nth .str l i).length<=1000000) (fun x y=>y=(fun l=>bS l) x):=
 cC (X:=Tryz.X) Tryz.IU Tryz.func89 (by kernel_rfl) (fun x=>CO x) (fun x hw hp=>Kk x hw hp)
def Tryz.Fj:List (FuncId×(Bool×aT)):=[(84,Tryz.spZ2),(103,Tryz.spZ14),(81,Tryz.spZ15),(52,Tryz.spZ16),(51,Tryz.spZ17),(89,(true,cB [.slice .str] [.slice (.int .i64),.bool] (fun l=>l.length<=1000000/\∀i,(nth .str l i).length<=1000000) (fun l=>bS l))),(90,Tryz.spZ6)]
def Tryz.Km:bO Tryz.prog Tryz.B Tryz.X Tryz.Fj:=
 aN (aE Tryz.oR) (aN (aE Tryz.sh) (aN (aE Tryz.nq) (aN (aE Tryz.mr) (aN (aE Tryz.si) (aN (aE Tryz.Kl) (aN (aE Tryz.IJ) (bR Tryz.bQ)))))))
def Tryz.Fk(s:List UInt8):dO:=[
 (300004,fun st=>{X:=List Int×Bool,inv:=fun y=>q9 (parts 32 (br s [10])) y,cA:=fun _=>0,bK:=fun y=>[(5,sD (.slice (.int .i64)) y.1),(6,sB y.2)],keep:=[0,2,3,4]}),
 (300005,fun st=>{X:=Bool,inv:=fun c=>c=false↔p9 (parts 32 (br s [10])),cA:=fun _=>0,bK:=fun c=>[(69,sB c)],keep:=[0,2,3,4,5]}),
 (300011,fun st=>{X:=List (List UInt8),inv:=fun x=>lh (parts 32 (br s [10])) x (bd (cZ (.int .i64) st 8)),cA:=fun _=>0,bK:=fun x=>[(9,sD (.slice .str) x)],keep:=[0,2,3,4,5,7,8,82,83,84,85]}),
 (0,fun st=>{X:=Nat,inv:=fun i=>i<=(bd (nth (.int .i64) (cZ (.slice (.int .i64)) st 5) 0))+(bd (nth (.int .i64) (cZ (.slice (.int .i64)) st 5) 1)),cA:=fun i=>(bd (nth (.int .i64) (cZ (.slice (.int .i64)) st 5) 0))+(bd (nth (.int .i64) (cZ (.slice (.int .i64)) st 5) 1))-i,bK:=fun i=>[(83,sI i)],aF:=fun i=>[(bG st 7,.cells 53 [.d .str (nth .str (parts 32 (br s [10])) 0),.app aG (dU dD (parts 32 (br s [10])) (cg i (bd (nth (.int .i64) (cZ (.slice (.int .i64)) st 5) 0)))) (nB st (bG st 7) 1),.app aR (cT dD (parts 32 (br s [10])) (bd (nth (.int .i64) (cZ (.slice (.int .i64)) st 5) 0)) (i-(bd (nth (.int .i64) (cZ (.slice (.int .i64)) st 5) 0)))) (nB st (bG st 7) 2)]),(nB st (bG st 7) 1,.tok aG (dU dD (parts 32 (br s [10])) (cg i (bd (nth (.int .i64) (cZ (.slice (.int .i64)) st 5) 0))))),(nB st (bG st 7) 2,.tok aR (cT dD (parts 32 (br s [10])) (bd (nth (.int .i64) (cZ (.slice (.int .i64)) st 5) 0)) (i-(bd (nth (.int .i64) (cZ (.slice (.int .i64)) st 5) 0)))))],keep:=[0,2,4,5,7,82],gQ:=[bG st 7,nB st (bG st 7) 1,nB st (bG st 7) 2]})]
def Ra(s:List UInt8)(hw:gA [.str] s)(hp:(fun s=>s.length<=100000) s):(dG Tryz.B Tryz.Fj Tryz.f61 (Tryz.Fk s) [.str] [aC,.err] (fun x y=>y=(fun s=>gU s) x) s).holds:=by
 refine holds_of (p:=
  let za:=br s [(10:UInt8)]
  let zb:=parts (32:UInt8) za
  let zc:=bb zb<=aL
  let zd:=(↑(bb zb):Int)
  let ze:=(([],[],[],()),aK.no (4:Int))=gU s
  let zf:=(0:Int)<=(1:Int)
  let zg:=bj 1 (bf 3 zb)
  let zh:=@bc (List UInt8×Int×Int×Unit)=@bc (List UInt8×Int×Int×Unit)
  let zi:=@bc (Int×Int×Int×Unit)=@bc (Int×Int×Int×Unit)
  let zj:=(@bc UInt8=@bc UInt8/\zh/\zi/\True)/\zi/\zh/\True
  let zk:=p9 zb
  let zl:=∃(x':Bool),(x'=false↔zk)/\(true=x'/\True)/\zj
  let zm:=(0:Int)<=(0:Int)
  let zn:=fun(F:List Int×Bool)=>zm/\(0:Int)<(↑(bb F.1):Int)
  let zo:=Ty.int bm
  let zp:=fun(F:List Int×Bool)=>nth zo F.1 0
  let zq:=fun(F:List Int×Bool)=>zf/\(1:Int)<(↑(bb F.1):Int)
  let zr:=fun(F:List Int×Bool)=>nth zo F.1 1
  let zs:=fun(F:List Int×Bool)=>aJ (zp F+zr F)
  let zt:=aJ (3:Int)
  let zu:=fun(I:Int)=>(3:Int)+I
  let zv:=fun(F:List Int×Bool)=>bd (zp F)
  let zw:=fun(F:List Int×Bool)=>zv F+bd (zr F)
  let zx:=nth Ty.str zb 0
  let zy:=zx=zx
  let zz:=fun(K:Nat)=>aJ (↑K:Int)
  let zaa:=fun(K:Nat) (F:List Int×Bool)=>dU dD zb (cg K (zv F))
  let zab:=fun(F:List Int×Bool) (K:Nat)=>cT dD zb (zv F) (K-zv F)
  let zac:=zi/\zh/\zj
  let zad:=fun(M:List (List UInt8))=>(↑(bb M):Int)
  let zae:=fun(M:List (List UInt8))=>bj 1 (bf (bb M) M)
  let zaf:=fun(M:List (List UInt8))=>(bS (zae M)).1
  let zag:=fun(M:List (List UInt8))=>[(nth Ty.str M 0,nth zo (zaf M) 0,nth zo (zaf M) 1,())]
  let zah:=fun(K:Nat)=>(↑K:Int)+(1:Int)
  let zai:=fun(M:List (List UInt8))=>(bS M).1
  let zaj:=fun(M:List (List UInt8))=>(↑(bb (zai M)):Int)
  let zak:=fun(M:List (List UInt8))=>[(nth zo (zai M) 0,nth zo (zai M) 1,nth zo (zai M) 2,())]
  True/\(bb za<4294967281/\bb [(32:UInt8)]=1)/\(zc->((decide (zd<(3:Int)))=true->ze)/\((decide (zd<(3:Int)))=false->((zf/\(1:Int)<=(3:Int)/\(3:Int)<=zd)/\(bb zg<=1000000/\∀(i:Nat),bb (nth Ty.str zg i)<=1000000)/\∃(x':List Int×Bool),q9 zb x'/\((bS zg).1=x'.1/\(bS zg).2=x'.2/\True)/\zj)/\∀F:List Int×Bool,q9 zb F->(((!F.2)=true->zl)/\((!F.2)=false->zn F/\((decide (zp F<(0:Int)))=true->zl)/\((decide (zp F<(0:Int)))=false->zn F/\((decide (zp F > (6:Int)))=true->zl)/\((decide (zp F > (6:Int)))=false->zq F/\((decide (zr F<(0:Int)))=true->zl)/\((decide (zr F<(0:Int)))=false->zq F/\((decide (zr F > (36:Int)))=true->zl)/\((decide (zr F > (36:Int)))=false->zc->zn F/\zq F/\(aJ (zp F)->aJ (zr F)->zs F/\∀I:Int,I=(3:Int)*(zp F+zr F)->zt->zs F->aJ I/\(zt->aJ I->aJ (zu I)/\∃(x':Bool),(x'=false↔zk)/\((zd != zu I)=x'/\True)/\zj))))))))/\∀I:Bool,(I=false↔zk)->(I=true->ze)/\(I=false->(zm/\(0:Int)<zd)/\zn F/\zq F/\(aJ (zp F)->aJ (zr F)->zs F/\(∃(x:Nat),x<=zw F/\((0:Int)=(↑x:Int)/\True)/\(zy/\@bc (List UInt8×Int×Int×Unit)=dU dD zb (cg x (zv F))/\@bc (Int×Int×Int×Unit)=cT dD zb (zv F) (x-zv F)/\True)/\@bc (List UInt8×Int×Int×Unit)=dU dD zb (cg x (zv F))/\@bc (Int×Int×Int×Unit)=cT dD zb (zv F) (x-zv F)/\True)/\∀K:Nat,K<=zw F->((decide ((↑K:Int)<zp F+zr F))=true->(∀M:Int,M=(3:Int)*(↑K:Int)->zt->zz K->aJ M/\(zt->aJ M->aJ (zu M)/\∀Q:Int,Q=(3:Int)*(↑K:Int)->zt->zz K->aJ Q/\(aJ (6:Int)->aJ Q->aJ ((6:Int)+Q)/\((0:Int)<=zu M/\zu M<=(6:Int)+Q/\(6:Int)+Q<=zd)/\∃(x':List (List UInt8)),lh zb x' K/\(bj (bd (zu M)) (bf (bd ((6:Int)+Q)) zb)=x'/\True)/\(zy/\zaa K F=zaa K F/\zab F K=zab F K/\True)/\zaa K F=zaa K F/\zab F K=zab F K/\zac)))/\∀M:List (List UInt8),lh zb M K->zn F/\((decide ((↑K:Int)<zp F))=true->(zf/\(1:Int)<=zad M/\zad M<=zad M)/\(bb (zae M)<=1000000/\∀(i:Nat),bb (nth Ty.str (zae M) i)<=1000000)/\((!(bS (zae M)).2)=true->ze)/\((!(bS (zae M)).2)=false->(zm/\(0:Int)<zad M)/\(zm/\(0:Int)<(↑(bb (zaf M)):Int))/\(zf/\(1:Int)<(↑(bb (zaf M)):Int))/\(zaa K F=zaa K F/\bb (zaa K F)+bb (zag M)<=1000000000)/\(zz K->aJ (1:Int)->aJ (zah K)/\∃(x':Nat),x'<=zw F/\zw F-x'<zw F-K/\(zah K=(↑x':Int)/\True)/\(zy/\zaa K F++zag M=dU dD zb (cg x' (zv F))/\zab F K=cT dD zb (zv F) (x'-zv F)/\True)/\zaa K F++zag M=dU dD zb (cg x' (zv F))/\zab F K=cT dD zb (zv F) (x'-zv F)/\zac)))/\((decide ((↑K:Int)<zp F))=false->(bb M<=1000000/\∀(i:Nat),bb (nth Ty.str M i)<=1000000)/\((!(bS M).2)=true->ze)/\((!(bS M).2)=false->(zm/\(0:Int)<zaj M)/\(zf/\(1:Int)<zaj M)/\((0:Int)<=(2:Int)/\(2:Int)<zaj M)/\(zab F K=zab F K/\bb (zab F K)+bb (zak M)<=1000000000)/\(zz K->aJ (1:Int)->aJ (zah K)/\∃(x':Nat),x'<=zw F/\zw F-x'<zw F-K/\(zah K=(↑x':Int)/\True)/\(zy/\zaa K F=dU dD zb (cg x' (zv F))/\zab F K++zak M=cT dD zb (zv F) (x'-zv F)/\True)/\zaa K F=dU dD zb (cg x' (zv F))/\zab F K++zak M=cT dD zb (zv F) (x'-zv F)/\zac))))/\((decide ((↑K:Int)<zp F+zr F))=false->True/\((!aK.isNil (dJ (zx,zaa K F,zab F K,())).2)=true->ze)/\((!aK.isNil (dJ (zx,zaa K F,zab F K,())).2)=false->((!(dJ (zx,zaa K F,zab F K,())).1 == s)=true->ze)/\((!(dJ (zx,zaa K F,zab F K,())).1 == s)=false->((zx,zaa K F,zab F K,()),aK.nil)=gU s)))))))) (by kernel_rfl) ?_
 dsimp -iota -proj -eta only;refine⟨ba,(by have:=yw s [10];exact⟨by omega,rfl⟩),fun h0=>iL (fun h1=>(H2 (by omega))) (fun h1=>⟨⟨(by trivial),(Vk hp 1 3),(⟨_,Vm (by omega),⟨rfl,rfl,ba⟩,(by trivial)⟩)⟩,fun F q_0=>⟨iB (fun h2=>(⟨_,H0 (q_0.2 h2),⟨rfl,ba⟩,(by trivial)⟩)) (fun h2=>⟨?a,iL (fun h3=>(⟨_,H0 (fun hd=>by have k0:=q_0.k0 hd;have:=hd.a0;omega),⟨rfl,ba⟩,(by trivial)⟩)) (fun h3=>⟨?b,iL (fun h4=>(⟨_,H0 (fun hd=>by have k0:=q_0.k0 hd;have:=hd.a6;omega),⟨rfl,ba⟩,(by trivial)⟩)) (fun h4=>⟨?c,iL (fun h5=>(⟨_,H0 (fun hd=>by have k1:=q_0.k1 hd;have:=hd.b0;omega),⟨rfl,ba⟩,(by trivial)⟩)) (fun h5=>⟨?d,iL (fun h6=>(⟨_,H0 (fun hd=>by have k1:=q_0.k1 hd;have:=hd.fE;omega),⟨rfl,ba⟩,(by trivial)⟩)) (fun h6 h7=>⟨?e,?f,fun h8 h9=>⟨?g,fun I q_1 h10 h11=>⟨?h,fun h12 h13=>⟨?i,(⟨_,WD (q_0.1 h2).2.1 (q_0.1 h2).2.2 (q_0.l0 h2) (q_0.l1 h2) (by omega) (by omega) (by omega) (by omega) q_1,⟨rfl,ba⟩,(by trivial)⟩)⟩⟩⟩⟩)⟩)⟩)⟩)⟩),fun I q_1=>⟨fun h2=>(J5 (fun hd=>by rw[q_1.2 hd]at h2;cases h2)),fun h2=>⟨(by omega),?j,?k,fun h3 h4=>⟨?l,(⟨0,b4 _,⟨rfl,ba⟩,⟨rfl,Qa _ _ _,UB _ _ _,ba⟩,Qa _ _ _,UB _ _ _,(by trivial)⟩),fun K q_2=>iL (fun h5=>⟨fun M q_3 h6 h7=>⟨?m,fun h8 h9=>⟨?n,fun Q q_4 h10 h11=>⟨?o,fun h12 h13=>⟨?p,(by have hd:=(q_1.1 h2);have k0:=q_0.k0 hd;have k1:=q_0.k1 hd;have a0:=hd.a0;have a6:=hd.a6;have b0:=hd.b0;have fE:=hd.fE;have hl:=hd.len;omega),(⟨_,P7 q_3 q_4 (by have hd:=(q_1.1 h2);have k0:=q_0.k0 hd;have k1:=q_0.k1 hd;have a0:=hd.a0;have a6:=hd.a6;have b0:=hd.b0;have fE:=hd.fE;have hl:=hd.len;omega),⟨rfl,ba⟩,(by trivial)⟩)⟩⟩⟩⟩,fun M q_3=>⟨?q,iL (fun h6=>⟨?r,(Nt q_3 (tB hp)),iB (fun h7=>(J6 q_3 (by have hd:=(q_1.1 h2);have k0:=q_0.k0 hd;have k1:=q_0.k1 hd;have a0:=hd.a0;have a6:=hd.a6;have b0:=hd.b0;have fE:=hd.fE;have hl:=hd.len;omega) h7)) (fun h7=>⟨?s,?t,?u,⟨rfl,J7 (by have hd:=(q_1.1 h2);have k0:=q_0.k0 hd;have k1:=q_0.k1 hd;have a0:=hd.a0;have a6:=hd.a6;have b0:=hd.b0;have fE:=hd.fE;have hl:=hd.len;omega)⟩,fun h8 h9=>⟨?v,(by exact⟨K+1,by have hd:=(q_1.1 h2);have k0:=q_0.k0 hd;have k1:=q_0.k1 hd;have a0:=hd.a0;have a6:=hd.a6;have b0:=hd.b0;have fE:=hd.fE;have hl:=hd.len;omega,by have hd:=(q_1.1 h2);have k0:=q_0.k0 hd;have k1:=q_0.k1 hd;have a0:=hd.a0;have a6:=hd.a6;have b0:=hd.b0;have fE:=hd.fE;have hl:=hd.len;omega,⟨by omega,ba⟩,⟨rfl,ET q_3 h7 (by have hd:=(q_1.1 h2);have k0:=q_0.k0 hd;have k1:=q_0.k1 hd;have a0:=hd.a0;have a6:=hd.a6;have b0:=hd.b0;have fE:=hd.fE;have hl:=hd.len;omega),EU (by have hd:=(q_1.1 h2);have k0:=q_0.k0 hd;have k1:=q_0.k1 hd;have a0:=hd.a0;have a6:=hd.a6;have b0:=hd.b0;have fE:=hd.fE;have hl:=hd.len;omega),ba⟩,ET q_3 h7 (by have hd:=(q_1.1 h2);have k0:=q_0.k0 hd;have k1:=q_0.k1 hd;have a0:=hd.a0;have a6:=hd.a6;have b0:=hd.b0;have fE:=hd.fE;have hl:=hd.len;omega),EU (by have hd:=(q_1.1 h2);have k0:=q_0.k0 hd;have k1:=q_0.k1 hd;have a0:=hd.a0;have a6:=hd.a6;have b0:=hd.b0;have fE:=hd.fE;have hl:=hd.len;omega),(by trivial)⟩)⟩⟩)⟩) (fun h6=>⟨(P8 q_3 (tB hp)),iB (fun h7=>(H5 q_3 (by have hd:=(q_1.1 h2);have k0:=q_0.k0 hd;have k1:=q_0.k1 hd;have a0:=hd.a0;have a6:=hd.a6;have b0:=hd.b0;have fE:=hd.fE;have hl:=hd.len;omega) (by have hd:=(q_1.1 h2);have k0:=q_0.k0 hd;have k1:=q_0.k1 hd;have a0:=hd.a0;have a6:=hd.a6;have b0:=hd.b0;have fE:=hd.fE;have hl:=hd.len;omega) h7)) (fun h7=>⟨?w,?x,?y,⟨rfl,Qc (by have hd:=(q_1.1 h2);have k0:=q_0.k0 hd;have k1:=q_0.k1 hd;have a0:=hd.a0;have a6:=hd.a6;have b0:=hd.b0;have fE:=hd.fE;have hl:=hd.len;omega)⟩,fun h8 h9=>⟨?z,(by exact⟨K+1,by have hd:=(q_1.1 h2);have k0:=q_0.k0 hd;have k1:=q_0.k1 hd;have a0:=hd.a0;have a6:=hd.a6;have b0:=hd.b0;have fE:=hd.fE;have hl:=hd.len;omega,by have hd:=(q_1.1 h2);have k0:=q_0.k0 hd;have k1:=q_0.k1 hd;have a0:=hd.a0;have a6:=hd.a6;have b0:=hd.b0;have fE:=hd.fE;have hl:=hd.len;omega,⟨by omega,ba⟩,⟨rfl,Cv (by have hd:=(q_1.1 h2);have k0:=q_0.k0 hd;have k1:=q_0.k1 hd;have a0:=hd.a0;have a6:=hd.a6;have b0:=hd.b0;have fE:=hd.fE;have hl:=hd.len;omega),H7 q_3 h7 (by have hd:=(q_1.1 h2);have k0:=q_0.k0 hd;have k1:=q_0.k1 hd;have a0:=hd.a0;have a6:=hd.a6;have b0:=hd.b0;have fE:=hd.fE;have hl:=hd.len;omega),ba⟩,Cv (by have hd:=(q_1.1 h2);have k0:=q_0.k0 hd;have k1:=q_0.k1 hd;have a0:=hd.a0;have a6:=hd.a6;have b0:=hd.b0;have fE:=hd.fE;have hl:=hd.len;omega),H7 q_3 h7 (by have hd:=(q_1.1 h2);have k0:=q_0.k0 hd;have k1:=q_0.k1 hd;have a0:=hd.a0;have a6:=hd.a6;have b0:=hd.b0;have fE:=hd.fE;have hl:=hd.len;omega),(by trivial)⟩)⟩⟩)⟩)⟩⟩) (fun h5=>⟨ba,iB (fun h6 =>?a0) (fun h6=>⟨fun h7 =>?a1,fun h7 =>?a2⟩)⟩)⟩⟩⟩⟩⟩)⟩
 case a|b|c|d|e|f=>rw[(q_0.1 h2).1];simp
 case g|h|i|v=>simp only[aJ,aL]at*;omega
 case j|k|q=>rw[q_0.get (q_1.1 h2)];simp
 case l|m|n|o|p|z=>have hd:=(q_1.1 h2);have k0:=q_0.k0 hd;have k1:=q_0.k1 hd;have a0:=hd.a0;have a6:=hd.a6;have b0:=hd.b0;have fE:=hd.fE;have hl:=hd.len;simp only[aJ]at*;omega
 case r|s=>rw[q_3.len];simp
 case t|u=>rw[ES q_3 h7];simp
 case w|x|y=>rw[H4 q_3 h7];simp
 case a0=>
  rw[H8 (a:=bd (nth (.int .i64) F.1 0)) (b:=bd (nth (.int .i64) F.1 1)) (by have hd:=(q_1.1 h2);have k0:=q_0.k0 hd;have k1:=q_0.k1 hd;have a0:=hd.a0;have a6:=hd.a6;have b0:=hd.b0;have fE:=hd.fE;have hl:=hd.len;omega)]at h6;exact zW (by have hd:=(q_1.1 h2);have k0:=q_0.k0 hd;have k1:=q_0.k1 hd;have a0:=hd.a0;have a6:=hd.a6;have b0:=hd.b0;have fE:=hd.fE;have hl:=hd.len;omega) (by have hd:=(q_1.1 h2);have k0:=q_0.k0 hd;have k1:=q_0.k1 hd;have a0:=hd.a0;have a6:=hd.a6;have b0:=hd.b0;have fE:=hd.fE;have hl:=hd.len;omega) (.inl h6)
 case a1=>
  simp only[bl,reduceCtorEq]at h7;rw[H8 (a:=bd (nth (.int .i64) F.1 0)) (b:=bd (nth (.int .i64) F.1 1)) (by have hd:=(q_1.1 h2);have k0:=q_0.k0 hd;have k1:=q_0.k1 hd;have a0:=hd.a0;have a6:=hd.a6;have b0:=hd.b0;have fE:=hd.fE;have hl:=hd.len;omega)]at h7;exact zW (by have hd:=(q_1.1 h2);have k0:=q_0.k0 hd;have k1:=q_0.k1 hd;have a0:=hd.a0;have a6:=hd.a6;have b0:=hd.b0;have fE:=hd.fE;have hl:=hd.len;omega) (by have hd:=(q_1.1 h2);have k0:=q_0.k0 hd;have k1:=q_0.k1 hd;have a0:=hd.a0;have a6:=hd.a6;have b0:=hd.b0;have fE:=hd.fE;have hl:=hd.len;omega) (.inr h7)
 case a2=>
  simp only[bl,reduceCtorEq]at h7;exact P4 h6 h7
def Tryz.Rb:bW Tryz.prog Tryz.B.eT Tryz.X 61 [.str] [aC,.err] (fun s=>s.length<=100000) (fun x y=>y=(fun s=>gU s) x):=
 cC (X:=Tryz.X) Tryz.Km Tryz.func61 (by kernel_rfl) (fun x=>Tryz.Fk x) (fun x hw hp=>Ra x hw hp)
def Tryz.VQ:bW Tryz.prog Tryz.B.eT Tryz.X 79 [.str,.str,.int .i64,.int .i64] [.slice .str] (fun x=>x.1.length<4294967281/\x.2.1.length=1/\x.2.2.1=(1:Int)/\x.2.2.2=(-1:Int)) (fun x y=>y=dM (Ht x.2.1) x.1):=by
 refine⟨⟨Tryz.f79,Tryz.func79,by kernel_rfl,by kernel_rfl⟩,fun O w x vs hG hO ha hp =>?_⟩;obtain⟨s,p,sv,n⟩:=x;obtain⟨hs,hp,hsv,hn⟩:=hp;obtain⟨c,rfl⟩:∃c,p=[c]:=dn.1 hp
 obtain⟨v,vs',rfl,hv,u,vs2,rfl,hu,t,vs3,rfl,ht,z,hz⟩:=ha;obtain⟨rfl,hz⟩:=hz;obtain⟨rfl,hl⟩:=nO hv;obtain⟨rfl,_⟩:=nO hu;have et:t=.int .i64 1:=by obtain⟨e,_⟩:=ht.one rfl;simp at e;rw[e,show sv=(1:Int)from hsv]
 have ez:z=.int .i64 (-1):=by obtain⟨e,_⟩:=hz.one rfl;simp at e;rw[e,show n=(-1:Int)from hn]
 subst et;subst ez;obtain⟨m,hm⟩:=hG.max;have hsz:(⟨s.toArray⟩:ByteArray).size=s.length:=by simp[dc]
 have h1:1<=(⟨#[c]⟩:ByteArray).size:=b9 1;have hlen:=ed ⟨#[c]⟩ h1 1 _ ⟨s.toArray⟩ rfl;have hdat:=ee ⟨#[c]⟩ 1 (bq ⟨s.toArray⟩ ⟨#[c]⟩) ⟨s.toArray⟩;have hcb:=Lib.countB_le ⟨#[c]⟩ h1 _ ⟨s.toArray⟩ (b9 _);have hcall:Calls Tryz.prog 79 #[.string ⟨s.toArray⟩,.string ⟨#[c]⟩,.int .i64 1,.int .i64 (-1)] w fun e w'=>
   e=.returned (.slice (some ⟨w.heap.size,0,none⟩) (b8 ⟨#[c]⟩ 1 (bq ⟨s.toArray⟩ ⟨#[c]⟩ +1-1) ⟨s.toArray⟩).length (bq ⟨s.toArray⟩ ⟨#[c]⟩ +1))/\w'=w.alloc (.cells (Lib.cellsOf (b8 ⟨#[c]⟩ 1 (bq ⟨s.toArray⟩ ⟨#[c]⟩ +1-1) ⟨s.toArray⟩) (bq ⟨s.toArray⟩ ⟨#[c]⟩ +1)) 9):=Any.strings_genSplit {Tryz.Lu with} (by kernel_rfl) ⟨s.toArray⟩ ⟨#[c]⟩ 1 (-1) (bq ⟨s.toArray⟩ ⟨#[c]⟩ +1) m w (by rw[hsz];exact hs) hm h1 (b9 1) (by decide) (by decide) (by rw[if_pos (by decide)];omega)
 rw[Nat.add_sub_cancel,hlen]at hcall;have e2:Lib.cellsOf (b8 ⟨#[c]⟩ 1 (bq ⟨s.toArray⟩ ⟨#[c]⟩) ⟨s.toArray⟩) (bq ⟨s.toArray⟩ ⟨#[c]⟩ +1)=((b8 ⟨#[c]⟩ 1 (bq ⟨s.toArray⟩ ⟨#[c]⟩) ⟨s.toArray⟩).map cn).toArray:=by rw[<-hlen];exact Lib.cellsOf_full _
 rw[e2]at hcall;refine hcall.mono ?_;rintro e w' ⟨rfl,rfl⟩;have hd:(b8 ⟨#[c]⟩ 1 (bq ⟨s.toArray⟩ ⟨#[c]⟩) ⟨s.toArray⟩).map (·.data.toList)=dM c s:=hdat;have hlf:(dM c s).length=bq ⟨s.toArray⟩ ⟨#[c]⟩ +1:=by rw[<-hd,bx,hlen]
 refine⟨[_],dM c s,rfl,rfl,⟨_,rfl,VR.cI rfl ⟨_,rfl,?_,.inr ⟨w.heap.size,0,bq ⟨s.toArray⟩ ⟨#[c]⟩ +1,by rw[hlf],by rw[hlf];exact b9 _,fun i y hy =>?_⟩⟩⟩,(Vg.Below.refl _ w).alloc (b9 _) _⟩
 ·rw[hlf];have hs:s.length<4294967281:=hs;rw[hsz]at hcb;unfold aL;omega
 ·have hyl:=E3 c s y (ef hy)
  refine⟨[.string ⟨y.toArray⟩],⟨rfl,b5 hyl hl⟩,fun j u hj=>⟨?_,fun hh =>?_⟩⟩
  ·have hj0:j=0:=by
    rcases j with _|j
    ·rfl
    ·simp at hj
   subst hj0;simp at hj;subst hj;rw[<-hd,List.getElem?_map,cz]at hy;obtain⟨q,hq,rfl⟩:=hy;have hh:(w.alloc (.cells ((b8 ⟨#[c]⟩ 1 (bq ⟨s.toArray⟩ ⟨#[c]⟩) ⟨s.toArray⟩).map cn).toArray 9)).heap[w.heap.size]?=some (.cells ((b8 ⟨#[c]⟩ 1 (bq ⟨s.toArray⟩ ⟨#[c]⟩) ⟨s.toArray⟩).map cn).toArray 9 (0,0)):=heap_alloc_new w _;rw[cc hh];simp only[Ty.size,Nat.mul_one,Nat.zero_add,dp,List.getElem?_toArray,List.getElem?_map,hq,eg]
  ·have:=hO _ _ hh
   simp at this
def Tryz.vY:List (FuncId×(Bool×aT)):=[(79,(true,cB [.str,.str,.int .i64,.int .i64] [.slice .str] (fun x=>x.1.length<4294967281/\x.2.1.length=1/\x.2.2.1=(1:Int)/\x.2.2.2=(-1:Int)) (fun x=>dM (Ht x.2.1) x.1)))]
def Tryz.CP:bO Tryz.prog Tryz.B Tryz.X Tryz.vY:=
 aN (aE Tryz.VQ) (bR Tryz.bQ)
def DH(s:List UInt8)(p:List UInt8)(hw:gA [.str,.str] (s,p))(hp:(fun x=>x.1.length<4294967281/\x.2.length=1) (s,p)):(dG Tryz.B Tryz.vY Tryz.f60 [] [.str,.str] [.slice .str] (fun x y=>y=(fun x=>dM (Ht x.2) x.1) x) (s,p)).holds:=by
 refine holds_of (p:=
  let za:=bb p
  let zb:=dM (List.rec 0 (fun(head:UInt8) (tail:List UInt8) (tail_ih:UInt8)=>head) p) s
  za<=aL->(bb s<4294967281/\za=1/\(↑za:Int)=1/\(-1:Int)=(-1:Int))/\zb=zb) (by kernel_rfl) ?_
 dsimp -iota -proj -eta only;dsimp only at hp;exact fun h0=>⟨(by omega),rfl⟩
def Tryz.DI:bW Tryz.prog Tryz.B.eT Tryz.X 60 [.str,.str] [.slice .str] (fun x=>x.1.length<4294967281/\x.2.length=1) (fun x y=>y=(fun x=>dM (Ht x.2) x.1) x):=
 cC (X:=Tryz.X) Tryz.CP Tryz.func60 (by kernel_rfl) (fun _=>[]) (fun x hw hp=>DH x.1 x.2 hw hp)
def Tryz.spZ18:Bool×aT:=(false,aU Tryz.bA [.obj 0] (fun _ _=>True) Tryz.tE)
def Tryz.Fl:List (FuncId×(Bool×aT)):=[(57,Tryz.spZ18),(70,Tryz.spZ8),(71,Tryz.spZ9),(72,Tryz.spZ7)]
def Tryz.Kn:bO Tryz.prog Tryz.B Tryz.X Tryz.Fl:=
 aN (Tryz.qx) (aN (Tryz.s4) (aN (Tryz.s5) (aN (aE Tryz.IN) (bR Tryz.bQ))))
def Tryz.vI:List (Alt Tryz.bA [.obj 0]):=[{bN:=Tryz.bA,res:=[.d .err],out:=fun _ x=>(iR x).1,ret:=fun _ x=>(aI (iR x).2,())}]
def Rc(d:Dk)(hw:gH [.obj 0] ())(hp:(fun _ x=>cW x 1000000) () d):(cR Tryz.B Tryz.Fl Tryz.f44 [] Tryz.bA [.obj 0] Tryz.vI () d).holds:=by
 refine holds_of (p:=
  let za:=d.2.2.2.1
  let zb:=za=za
  let zc:=(iR d).1
  let zd:=(aI (iR d).2,())
  let ze:=(-1:Int)
  let zf:=bL d 1 (@bc UInt8)
  let zg:=aK.isNil (aI zf.2)
  let zh:=zf.1.2.2.2.1
  let zi:=zh=zh
  let zj:=ze<=zf.1.1.1
  let zk:=zj/\bb zf.1.2.1=bb zf.1.2.2.1
  let zl:=aI (bP zf.1).2
  let zm:=(bP zf.1).1
  let zn:=zm.2.2.2.1
  let zo:=zn=zn
  let zp:=ze<=zm.1.1
  let zq:=fG 2 0
  let zr:=bL zm 0 zq
  let zs:=zr.1.2.2.2.1
  let zt:=(bP zr.1).1
  let zu:=(bP zm).1.2.2.2.1
  let zv:=zo/\True/\zm=zc/\(zl,())=zd
  let zw:=bL zf.1 0 zq
  let zx:=zw.1.2.2.2.1
  let zy:=(bP zw.1).1
  zb/\True/\(True->((decide ((↑(bb d.2.2.1):Int)<112))=true->zb/\True/\d=zc/\(aK.no 8,())=zd)/\((decide ((↑(bb d.2.2.1):Int)<112))=false->zb/\(ze<=d.1.1/\bb za<=900000000)/\(True->(zg=true->zi/\zk/\(True->((aK.isNil zl)=true->True/\zo/\(zp/\bb zn<=900000000)/\(True->((aK.isNil (aI zr.2))=true->zs=zs/\(ze<=zr.1.1.1/\bb zr.1.2.1=bb zr.1.2.2.1)/\(True->zt.2.2.2.1=zt.2.2.2.1/\True/\zt=zc/\(aI (bP zr.1).2,())=zd))/\((aK.isNil (aI zr.2))=false->zs=zs/\True/\zr.1=zc/\(aI zr.2,())=zd)))/\((aK.isNil zl)=false->((aK.isNil zl)=true->zo/\(zp/\bb zm.2.1=bb zm.2.2.1)/\(True->zu=zu/\True/\(bP zm).1=zc/\(aI (bP zm).2,())=zd))/\((aK.isNil zl)=false->zv))))/\(zg=false->(zg=true->True/\zi/\(zj/\bb zh<=900000000)/\(True->((aK.isNil (aI zw.2))=true->zx=zx/\(ze<=zw.1.1.1/\bb zw.1.2.1=bb zw.1.2.2.1)/\(True->zy.2.2.2.1=zy.2.2.2.1/\True/\zy=zc/\(aI (bP zw.1).2,())=zd))/\((aK.isNil (aI zw.2))=false->zx=zx/\True/\zw.1=zc/\(aI zw.2,())=zd)))/\(zg=false->(zg=true->zi/\zk/\(True->zv))/\(zg=false->zi/\True/\zf.1=zc/\(aI zf.2,())=zd))))))) (by kernel_rfl) ?_
 dsimp -iota -proj -eta only;refine⟨rfl,ba,fun h0=>iL (fun h1=>(by rw[mb,Vq h1];exact⟨rfl,ba,rfl,rfl⟩)) (fun h1=>⟨rfl,⟨hp.lI,b5 hp.mm (by decide)⟩,fun h2=>⟨fun h3=>⟨rfl,(by have f:=ma hp 1 [];exact⟨f.lI,f.len⟩),fun h4=>⟨fun h5=>⟨ba,rfl,(by have f:=rq (ma hp 1 []);exact⟨f.lI,b5 f.mm (by decide)⟩),fun h6=>⟨fun h7=>⟨rfl,(by have f:=ma (rq (ma hp 1 [])) 0 (fG 2 0);exact⟨f.lI,f.len⟩),fun h8=>(by rw[mb,Xf (by omega) (aQ.1 h3) (aQ.1 h5) (aQ.1 h7)];exact⟨rfl,ba,rfl,rfl⟩)⟩,fun h7=>(by rw[mb,Xe (by omega) (aQ.1 h3) (aQ.1 h5) (dX h7)];exact⟨rfl,ba,rfl,rfl⟩)⟩⟩,fun h5=>⟨fun h6=>⟨rfl,?a,fun h7 =>?b⟩,fun h6=>(by rw[mb,Xd (by omega) (aQ.1 h3) (dX h5)];exact⟨rfl,ba,rfl,rfl⟩)⟩⟩⟩,fun h3=>⟨fun h4=>⟨ba,rfl,?c,fun h5=>⟨fun h6=>⟨rfl,?d,fun h7 =>?e⟩,fun h6 =>?f⟩⟩,fun h4=>⟨fun h5=>⟨rfl,?g,fun h6 =>?h⟩,fun h5=>(by rw[mb,Xc (by omega) (dX h3)];exact⟨rfl,ba,rfl,rfl⟩)⟩⟩⟩⟩)⟩
 case a|b|c|d|e|f|g|h=>simp_all
def Tryz.Re:bX Tryz.prog Tryz.B.eT Tryz.X 44 false (aU Tryz.bA [.obj 0] (fun _ x=>cW x 1000000) Tryz.vI):=
 bE (X:=Tryz.X) Tryz.Kn Tryz.func44 (by kernel_rfl) (fun(a:CD [.obj 0]) (x:PD Tryz.bA)=>[]) (fun(a:CD [.obj 0]) (x:PD Tryz.bA) hw hp=>Rc x hw hp)
def Tryz.spZ19:Bool×aT:=(false,aU Tryz.bA [.obj 0] (fun _ _=>True) Tryz.Ba)
def Tryz.LC:List (FuncId×(Bool×aT)):=[(19,Tryz.spZ19),(57,Tryz.spZ18),(58,(false,gu Tryz.B [] Tryz.f58 [])),(59,(true,pX [.str] [.int .i64] (fun s=>4<=s.length) (fun s y=>(y:Int)=iP s))),(60,(true,cB [.str,.str] [.slice .str] (fun x=>x.1.length<4294967281/\x.2.length=1) (fun x=>dM (Ht x.2) x.1))),(61,(true,cB [.str] [aC,.err] (fun s=>s.length<=100000) (fun s=>gU s)))]
def Tryz.Rf:bO Tryz.prog Tryz.B Tryz.X Tryz.LC:=
 aN (Tryz.Bb) (aN (Tryz.qx) (aN (eP (bR Tryz.bQ) Tryz.func58 (by kernel_rfl) []) (aN (ij Tryz.Q5) (aN (aE Tryz.DI) (aN (aE Tryz.Rb) (bR Tryz.bQ))))))
def Tryz.LD(d:Dk):dO:=[
 (0,fun st=>{X:=Nat,inv:=fun i=>i<=2,cA:=fun i=>2-i,bK:=fun i=>[(29,sI i),(5,sI (eG d i).2)],aF:=fun i=>[(bG st 4,.cells 117 [.ref 0 0,.d (.int .i64) (eG d i).1,.app aC [] (nB st (bG st 4) 2)])],keep:=[0,4],gQ:=[bG st 4]}),
 (2,fun st=>{X:=Nat,inv:=fun i=>i<=55,cA:=fun i=>55-i,bK:=fun i=>[(74,sI i),(11,sS (jo d (kT d) i))],keep:=[0,4,5]}),
 (4,fun st=>{X:=Nat,inv:=fun i=>i<=bb (dL d)/\∀j,j<i->nth .str (dL d) j=[]\/(gU (nth .str (dL d) j)).2.isNil=true,cA:=fun i=>bb (dL d)-i,bK:=fun i=>[(103,sI i)],aF:=fun i=>[(bG st 4,.cells 117 [.ref 0 0,.d (.int .i64) (eG d 2).1,.app aC (kf ((dL d).take i)) (nB st (bG st 4) 2)]),(nB st (bG st 4) 2,.tok aC (kf ((dL d).take i)))],keep:=[4,101,102],gQ:=[bG st 4,nB st (bG st 4) 2]})]
def Tryz.Bf:List (Alt Tryz.bA [.obj 0]):=[
 {bN:=Tryz.bA,res:=[.gV,.d .err],ok:=fun _ x=>(cG x).2≠0,out:=fun _ x=>x,ret:=fun _ x=>(aI (cG x).2,())},
 {bN:=Tryz.bA++[.box 117 [.obj 0,.d (.int .i64),.d (.slice aC)]],res:=[.obj 4,.d .err],ok:=fun _ x=>(cG x).2=0,out:=fun _ x=>(x.1,x.2.1,x.2.2.1,x.2.2.2.1,((cG x).1.1,(cG x).1.2,()),()),ret:=fun _ _=>(aK.nil,())}]
def VS(d:Dk)(hw:gH [.obj 0] ())(hp:(fun _ x=>cW x 1000000/\∀i,i<x.2.2.1.length->(nth .str x.2.2.1 i).length=64) () d):(cR Tryz.B Tryz.LC Tryz.f39 (Tryz.LD d) Tryz.bA [.obj 0] Tryz.Bf () d).holds:=by
 refine holds_of (p:=
  let za:=d.2.2.2.1
  let zb:=za=za
  let zc:=d.1.2.1
  let zd:=(cG d).2
  let ze:=zd≠(0:Int)
  let zf:=d=d
  let zg:=(aI zd,())
  let zh:=zb/\ze/\zf/\(aK.no (9:Int),())=zg
  let zi:=d.2.2.1
  let zj:=bb zi
  let zk:=(↑zj:Int)
  let zl:=zb/\ze/\zf/\(aK.no (4:Int),())=zg
  let zm:=C.ref 0 0
  let zn:=zm=zm
  let zo:=@bc (List UInt8×List (List UInt8×Int×Int×Unit)×List (Int×Int×Int×Unit)×Unit)=@bc (List UInt8×List (List UInt8×Int×Int×Unit)×List (Int×Int×Int×Unit)×Unit)
  let zp:=zo/\True
  let zq:=fun(F:Nat)=>(↑F:Int)
  let zr:=!aK.isNil (aK.no (9:Int))
  let zs:=(0:Int)<=(1:Int)
  let zt:=(1:Int)<=(5:Int)
  let zu:=bb (@bc UInt8)
  let zv:=(↑zu:Int)
  let zw:=(0:Int)<=(5:Int)
  let zx:=(5:Int)<=(9:Int)
  let zy:=bj 1 (bf 5 (@bc UInt8))
  let zz:=bj 5 (bf 9 (@bc UInt8))
  let zaa:=(0:Int)<=(0:Int)
  let zab:=fun(F:Nat)=>(eG d F).1
  let zac:=fun(F:Nat)=>aJ (zq F)
  let zad:=aJ (1:Int)
  let zae:=fun(F:Nat)=>zq F+(1:Int)
  let zaf:=fun(F:Nat)=>aJ (zae F)
  let zag:=d.2.1
  let zah:=(C.aV 1=C.aV 1/\C.aV 2=C.aV 2/\zb/\d.1.1=d.1.1/\zc=zc/\True)/\zag=zag/\zi=zi/\zb/\True
  let zai:=zo/\zah
  let zaj:=fun(F:Nat)=>zac F->zad->zaf F/\∃(x':Nat),x'<=2/\2-x'<2-F/\(zae F=(↑x':Int)/\(eG d F).2=(eG d x').2/\True)/\(zn/\zab F=(eG d x').1/\zp)/\zai
  let zak:=fun(I:Int) (F:Nat) (K:Int)=>((decide (I > zab F))=true->((decide (K<=(3520:Int)))=true->zac F->zad->zaf F/\∃(x':Nat),x'<=2/\2-x'<2-F/\(zae F=(↑x':Int)/\K=(eG d x').2/\True)/\(zn/\I=(eG d x').1/\zp)/\zai)/\((decide (K<=(3520:Int)))=false->zaj F))/\((decide (I > zab F))=false->zaj F)
  let zal:=fun(F:Nat)=>(zs/\zt/\(5:Int)<=zv)/\(zw/\zx/\(9:Int)<=zv)/\4<=bb zy/\∀I:Int,I=iP zy->4<=bb zz/\∀K:Int,K=iP zz->(zaa/\(0:Int)<zv)/\(((↑(b6 (dP (@bc UInt8) 0)):Int) == (83:Int))=true->zak I F K)/\(((↑(b6 (dP (@bc UInt8) 0)):Int) == (83:Int))=false->zaj F)
  let zam:=!aK.isNil (aK.no (1:Int))
  let zan:=zb/\ze/\zf/\(aK.no (1:Int),())=zg
  let zao:=fun(F:Nat)=>(zam=true->zan)/\(zam=false->zal F)
  let zap:=!aK.isNil aK.nil
  let zaq:=zb/\ze/\zf/\(aK.nil,())=zg
  let zar:=fun(F:Nat)=>nth Ty.str zi F
  let zas:=fun(F:Nat)=>(↑(bb (zar F)):Int)
  let zat:=fun(F:Nat)=>bj 1 (bf 5 (zar F))
  let zau:=fun(F:Nat)=>bj 5 (bf 9 (zar F))
  let zav:=kT d
  let zaw:=fun(M:Int) (I:Nat)=>(2:Int)+M+zq I
  let zax:=fun(I:Nat)=>jo d zav I
  let zay:=fun(F:Nat)=>(zn/\zab F=zab F/\zp)/\zai
  let zaz:=fun(I:Nat) (F:Nat)=>bb (zax I)+zu<=aL/\(zac I->zad->zaf I/\∃(x':Nat),x'<=55/\55-x'<55-I/\(zae I=(↑x':Int)/\zax I++ @bc UInt8=jo d zav x'/\True)/\zay F)
  let zba:=fun(I:Nat) (F:Nat)=>(zam=true->zan)/\(zam=false->zaz I F)
  let zbb:=fun(F I:Nat)=>bj 0 (bf (bd (eG d F).2) (zax I))
  let zbc:=dL d
  let zbd:=bb zbc
  let zbe:=(eG d 2).1
  let zbf:=fun(F I K:Nat)=>nth Ty.str (dM (10:UInt8) (zbb F I)) K
  let zbg:=fun(K:Nat)=>kf (bf K zbc)
  zb/\True/\(True->(zc=true->zh)/\(zc=false->zb/\True/\(True->((decide (zk<(112:Int)))=true->zl)/\((decide (zk<(112:Int)))=false->(∃(x:Nat),x<=2/\((0:Int)=(↑x:Int)/\(0:Int)=(eG d x).2/\True)/\(zn/\(0:Int)=(eG d x).1/\zp)/\True)/\∀F:Nat,F<=2->((decide (zq F<(2:Int)))=true->(zc=true->(zr=true->zh)/\(zr=false->zal F))/\(zc=false->((decide (zq F<(0:Int)))=true->zao F)/\((decide (zq F<(0:Int)))=false->zj<=aL->((decide (zq F>=zk))=true->zao F)/\((decide (zq F>=zk))=false->((0:Int)<=zq F/\zq F<zk)/\F<zj/\(zap=true->zaq)/\(zap=false->(zs/\zt/\(5:Int)<=zas F)/\(zw/\zx/\(9:Int)<=zas F)/\4<=bb (zat F)/\∀I:Int,I=iP (zat F)->4<=bb (zau F)/\∀K:Int,K=iP (zau F)->(zaa/\(0:Int)<zas F)/\(((↑(b6 (dP (zar F) 0)):Int) == (83:Int))=true->zak I F K)/\(((↑(b6 (dP (zar F) 0)):Int) == (83:Int))=false->zaj F))))))/\((decide (zq F<(2:Int)))=false->((zab F == (0:Int))=true->zl)/\((zab F == (0:Int))=false->(∃(x:Nat),x<=55/\((0:Int)=(↑x:Int)/\@bc UInt8=jo d zav x/\True)/\True)/\∀I:Nat,I<=55->((decide (zq I<(55:Int)))=true->(2:Int)≠(0:Int)/\∀K:Int,K=da (zab F) (2:Int)->∀M:Int,M=K*(55:Int)->aJ K->aJ (55:Int)->aJ M/\(aJ (2:Int)->aJ M->aJ ((2:Int)+M)/\(aJ ((2:Int)+M)->zac I->aJ (zaw M I)/\(zc=true->(zr=true->zh)/\(zr=false->zaz I F))/\(zc=false->((decide (zaw M I<(0:Int)))=true->zba I F)/\((decide (zaw M I<(0:Int)))=false->zj<=aL->((decide (zaw M I>=zk))=true->zba I F)/\((decide (zaw M I>=zk))=false->((0:Int)<=zaw M I/\zaw M I<zk)/\bd (zaw M I)<zj/\(zap=true->zaq)/\(zap=false->bb (zax I)+bb (nth Ty.str zi (bd (zaw M I)))<=aL/\(zac I->zad->zaf I/\∃(x':Nat),x'<=55/\55-x'<55-I/\(zae I=(↑x':Int)/\zax I++nth Ty.str zi (bd (zaw M I))=jo d zav x'/\True)/\zay F))))))))/\((decide (zq I<(55:Int)))=false->(zaa/\(0:Int)<=(eG d F).2/\(eG d F).2<=(↑(bb (zax I)):Int))/\(bb (zbb F I)<4294967281/\bb [(10:UInt8)]=1)/\(bb (dM (10:UInt8) (zbb F I))<=aL->(∃(x:Nat),(x<=zbd/\∀(j:Nat),j<x->nth Ty.str zbc j=@bc UInt8\/aK.isNil (aI (oP (nth Ty.str zbc j)).2)=true)/\((0:Int)=(↑x:Int)/\True)/\(zn/\zab F=zbe/\@bc (List UInt8×List (List UInt8×Int×Int×Unit)×List (Int×Int×Int×Unit)×Unit)=kf (bf x zbc)/\True)/\@bc (List UInt8×List (List UInt8×Int×Int×Unit)×List (Int×Int×Int×Unit)×Unit)=kf (bf x zbc)/\True)/\∀K:Nat,(K<=zbd/\∀(j:Nat),j<K->nth Ty.str zbc j=@bc UInt8\/aK.isNil (aI (oP (nth Ty.str zbc j)).2)=true)->((decide (zq K<(↑(bb (dM (10:UInt8) (zbb F I))):Int)))=true->((0:Int)<=zq K/\zq K<(↑(bb (dM (10:UInt8) (zbb F I))):Int))/\((zbf F I K == @bc UInt8)=true->zac K->zad->zaf K/\∃(x':Nat),(x'<=zbd/\∀(j:Nat),j<x'->nth Ty.str zbc j=@bc UInt8\/aK.isNil (aI (oP (nth Ty.str zbc j)).2)=true)/\zbd-x'<zbd-K/\(zae K=(↑x':Int)/\True)/\(zn/\zbe=zbe/\zbg K=kf (bf x' zbc)/\True)/\zbg K=kf (bf x' zbc)/\zah)/\((zbf F I K == @bc UInt8)=false->bb (zbf F I K)<=100000/\((!aK.isNil (aI (oP (zbf F I K)).2))=true->zl)/\((!aK.isNil (aI (oP (zbf F I K)).2))=false->(zbg K=zbg K/\bb (zbg K)+bb [(oP (zbf F I K)).1]<=1000000000)/\(zac K->zad->zaf K/\∃(x':Nat),(x'<=zbd/\∀(j:Nat),j<x'->nth Ty.str zbc j=@bc UInt8\/aK.isNil (aI (oP (nth Ty.str zbc j)).2)=true)/\zbd-x'<zbd-K/\(zae K=(↑x':Int)/\True)/\(zn/\zbe=zbe/\zbg K++[(oP (zbf F I K)).1]=kf (bf x' zbc)/\True)/\zbg K++[(oP (zbf F I K)).1]=kf (bf x' zbc)/\zah))))/\((decide (zq K<(↑(bb (dM (10:UInt8) (zbb F I))):Int)))=false->zb/\zd=(0:Int)/\(d.1,zag,zi,za,(zbe,zbg K,()),())=(d.1,zag,zi,za,((cG d).1.1,(cG d).1.2,()),())/\(aK.nil,())=(aK.nil,()))))))))))) (by kernel_rfl) ?_
 dsimp -iota -proj -eta only;refine⟨rfl,ba,fun h0=>⟨fun h1=>(by rw[Qu h1];exact⟨rfl,by decide,rfl,rfl⟩),fun h1=>⟨rfl,ba,fun h2=>iL (fun h3=>(by rw[To h1 h3];exact⟨rfl,by decide,rfl,rfl⟩)) (fun h3=>⟨(⟨0,b4 _,⟨rfl,by rw[CB],ba⟩,⟨rfl,by rw[CB],rfl,ba⟩,(by trivial)⟩),fun F q_0=>iL (fun h4=>⟨fun h5=>⟨fun h6=>(ct (h1.symm.trans h5)),fun h6=>absurd (show true=false from h6) (by decide)⟩,fun h5=>⟨fun h6=>absurd (show false=true from h6) (by decide),fun h6 h7=>iE (fun h8=>⟨fun h9=>(by exfalso;omega),fun h9=>absurd (show true=false from h9) (by decide)⟩) (fun h8=>⟨?a,?b,⟨fun h9=>absurd (show false=true from h9) (by decide),fun h9=>⟨?c,?d,?e,fun I q_1=>⟨?f,fun K q_2=>⟨?g,iQ (fun h10=>iL (fun h11=>iE (fun h12 h13 h14=>⟨?h,?i⟩) (fun h12 h13 h14=>⟨?j,?k⟩)) (fun h11 h12 h13=>⟨?l,?m⟩)) (fun h10 h11 h12=>⟨?n,?o⟩)⟩⟩⟩⟩⟩)⟩⟩) (fun h4=>iQ (fun h5 =>?p) (fun h5=>⟨(⟨0,b4 _,⟨rfl,by rw[UI],ba⟩,(by trivial)⟩),fun I q_1=>iL (fun h6=>⟨(by trivial),fun K q_2 M q_3 h7 h8=>⟨?q,fun h9 h10=>⟨?r,fun h11 h12=>⟨?s,⟨fun h13=>⟨fun h14=>(ct (h1.symm.trans h13)),fun h14=>absurd (show true=false from h14) (by decide)⟩,fun h13=>iL (fun h14=>⟨fun h15 =>?t,fun h15=>absurd (show true=false from h15) (by decide)⟩) (fun h14 h15=>iE (fun h16=>⟨fun h17 =>?u,fun h17=>absurd (show true=false from h17) (by decide)⟩) (fun h16=>⟨?v,?w,⟨fun h17=>absurd (show false=true from h17) (by decide),fun h17=>⟨?x,fun h18 h19=>⟨?y,?z⟩⟩⟩⟩))⟩⟩⟩⟩⟩) (fun h6=>⟨?a0,?a1,fun h7=>⟨?a2,fun K q_2=>iL (fun h8=>⟨?a3,iQ (fun h9 h10 h11=>⟨?a4,?a5⟩) (fun h9=>⟨?a6,iB (fun h10 =>?a7) (fun h10=>⟨?a8,fun h11 h12=>⟨?a9,?aa⟩⟩)⟩)⟩) (fun h8 =>?ab)⟩⟩)⟩))⟩)⟩⟩⟩
 case a|b|a3=>omega
 case c|d|g=>
  have h64:(nth .str d.2.2.1 F).length=64:=hp.2 _ (by omega);rw[h64];decide
 case e|f=>
  have h64:(nth .str d.2.2.1 F).length=64:=hp.2 _ (by omega);rw[dw,b7,h64];decide
 case h|j|l|n|y|a4|a9=>simp only[aJ,aL]at*;omega
 case i=>
  have e1:I=pN d F:=q_1.trans (qc d F).symm;have e2:K=qP d F:=q_2.trans (rG d F).symm;subst e1;subst e2;exact⟨F+1,by omega,by omega,⟨by omega,by rw[uq h10 (by omega) h12],ba⟩,⟨rfl,by rw[uq h10 (by omega) h12],rfl,ba⟩,(by trivial)⟩
 case k=>
  have e1:I=pN d F:=q_1.trans (qc d F).symm;have e2:K=qP d F:=q_2.trans (rG d F).symm;subst e1;subst e2;have hn:eG d (F+1)=eG d F:=yz fun z=>by have:=z.2.2;omega
  exact⟨F+1,by omega,by omega,⟨by omega,by rw[hn],ba⟩,⟨rfl,by rw[hn],rfl,ba⟩,(by trivial)⟩
 case m=>
  have e1:I=pN d F:=q_1.trans (qc d F).symm;have e2:K=qP d F:=q_2.trans (rG d F).symm;subst e1;subst e2;have hn:eG d (F+1)=eG d F:=yz fun z=>by have:=z.2.1;omega
  exact⟨F+1,by omega,by omega,⟨by omega,by rw[hn],ba⟩,⟨rfl,by rw[hn],rfl,ba⟩,(by trivial)⟩
 case o=>
  have hn:eG d (F+1)=eG d F:=yz fun z=>h10 z.1
  exact⟨F+1,by omega,by omega,⟨by omega,by rw[hn],ba⟩,⟨rfl,by rw[hn],rfl,ba⟩,(by trivial)⟩
 case p=>
  have hx0:F=2:=by omega
  subst hx0;rw[Qv h1 (by omega) h5];exact⟨rfl,by decide,rfl,rfl⟩
 case q|r|s=>have hr:=gK d F;have ht:=sX hr.1.1;simp only[aJ]at*;omega
 case t|u=>exfalso;have hr:=gK d F;have ht:=sX hr.1.1;omega
 case v|w=>have hr:=gK d F;have ht:=sX hr.1.1;omega
 case x=>
  have hx0:F=2:=(by omega);subst hx0;have hr:=gK d 2;have ht:=sX hr.1.1;have hb:kT d=2+M:=(by rw[kB,q_3,q_2]);have h64:(nth .str d.2.2.1 (bd (2+M+(I:Int)))).length=64:=hp.2 _ (by omega);have hl:=kC hp.2 (b:=kT d) (by omega) I (by omega);rw[h64,hl];have:aL=9223372036854775807:=rfl;omega
 case z=>
  have hx0:F=2:=(by omega);subst hx0;have hr:=gK d 2;have ht:=sX hr.1.1;have hb:kT d=2+M:=(by rw[kB,q_3,q_2]);exact⟨I+1,by omega,by omega,⟨by omega,by rw[ND,hb];rfl,ba⟩,(by trivial)⟩
 case a0=>
  have hx0:F=2:=(by omega);subst hx0;have hx1:I=55:=(by omega);subst hx1;have hr:=gK d 2;have ht:=sX hr.1.1;have hbb:=kB d;have hll:(jo d (kT d) 55).length=64*55:=kC hp.2 (by omega) 55 (by omega);have hLL:dM 10 (bj 0 (bf (bd (eG d 2).2) (jo d (kT d) 55)))=dL d:=(by rw[gL];rfl);rw[hll];exact⟨by decide,hr.2.1,by omega⟩
 case a1=>
  have hx0:F=2:=(by omega);subst hx0;have hx1:I=55:=(by omega);subst hx1;have hr:=gK d 2;have ht:=sX hr.1.1;have hbb:=kB d;have hll:(jo d (kT d) 55).length=64*55:=kC hp.2 (by omega) 55 (by omega);have hLL:dM 10 (bj 0 (bf (bd (eG d 2).2) (jo d (kT d) 55)))=dL d:=(by rw[gL];rfl);refine⟨?_,rfl⟩;rw[c6,b7,hll];omega
 case a2=>
  have hx0:F=2:=(by omega);subst hx0;have hx1:I=55:=(by omega);subst hx1;have hr:=gK d 2;have ht:=sX hr.1.1;have hbb:=kB d;have hll:(jo d (kT d) 55).length=64*55:=kC hp.2 (by omega) 55 (by omega);have hLL:dM 10 (bj 0 (bf (bd (eG d 2).2) (jo d (kT d) 55)))=dL d:=(by rw[gL];rfl);exact⟨0,⟨b4 _,fun j hj=>absurd hj (cu _)⟩,⟨rfl,ba⟩,⟨rfl,rfl,by rw[er,Qy],ba⟩,by rw[er,Qy],ba⟩
 case a5=>
  have hx0:F=2:=(by omega);subst hx0;have hx1:I=55:=(by omega);subst hx1;have hr:=gK d 2;have ht:=sX hr.1.1;have hbb:=kB d;have hll:(jo d (kT d) 55).length=64*55:=kC hp.2 (by omega) 55 (by omega);have hLL:dM 10 (bj 0 (bf (bd (eG d 2).2) (jo d (kT d) 55)))=dL d:=(by rw[gL];rfl)
  (try rw[hLL]at h8);(try rw[hLL]at h9);(try rw[hLL]at h10);(try rw[hLL])
  have e:=Qw (L:=dL d) (i:=K) (by omega) h9;exact⟨K+1,⟨by omega,lX q_2.2 (.inl h9)⟩,by omega,⟨by omega,ba⟩,⟨rfl,rfl,e.symm,ba⟩,e.symm,(by trivial)⟩
 case a6=>
  have hx0:F=2:=(by omega);subst hx0;have hx1:I=55:=(by omega);subst hx1;have hr:=gK d 2;have ht:=sX hr.1.1;have hbb:=kB d;have hll:(jo d (kT d) 55).length=64*55:=kC hp.2 (by omega) 55 (by omega);have hLL:dM 10 (bj 0 (bf (bd (eG d 2).2) (jo d (kT d) 55)))=dL d:=(by rw[gL];rfl)
  (try rw[hLL]at h8);(try rw[hLL]at h9);(try rw[hLL]at h10);(try rw[hLL])
  have hm:nth .str (dL d) K∈dL d:=eJ (t:=.str) (by omega);have hm2:nth .str (dL d) K∈dM 10 (bf (eG d 2).2.toNat (jo d (kT d) 55)):=by rw[<-gL];exact hm
  refine b5 (E3 10 _ _ hm2) ?_;rw[b7,hll];omega
 case a7=>
  have hx0:F=2:=(by omega);subst hx0;have hx1:I=55:=(by omega);subst hx1;have hr:=gK d 2;have ht:=sX hr.1.1;have hbb:=kB d;have hll:(jo d (kT d) 55).length=64*55:=kC hp.2 (by omega) 55 (by omega);have hLL:dM 10 (bj 0 (bf (bd (eG d 2).2) (jo d (kT d) 55)))=dL d:=(by rw[gL];rfl)
  (try rw[hLL]at h8);(try rw[hLL]at h9);(try rw[hLL]at h10);(try rw[hLL])
  rw[Tp h1 (by omega) h5 ⟨K,by omega,h9,h10⟩];exact⟨rfl,by decide,rfl,rfl⟩
 case a8=>
  have hx0:F=2:=(by omega);subst hx0;have hx1:I=55:=(by omega);subst hx1;have hr:=gK d 2;have ht:=sX hr.1.1;have hbb:=kB d;have hll:(jo d (kT d) 55).length=64*55:=kC hp.2 (by omega) 55 (by omega);have hLL:dM 10 (bj 0 (bf (bd (eG d 2).2) (jo d (kT d) 55)))=dL d:=(by rw[gL];rfl);refine⟨rfl,?_⟩;have h1:=Tq (bf K (dL d));have h2:=NF 10 (bf (eG d 2).2.toNat (jo d (kT d) 55));rw[<-gL,b7,hll]at h2;rw[b7]at h1;rw[b3];omega
 case aa=>
  have hx0:F=2:=(by omega);subst hx0;have hx1:I=55:=(by omega);subst hx1;have hr:=gK d 2;have ht:=sX hr.1.1;have hbb:=kB d;have hll:(jo d (kT d) 55).length=64*55:=kC hp.2 (by omega) 55 (by omega);have hLL:dM 10 (bj 0 (bf (bd (eG d 2).2) (jo d (kT d) 55)))=dL d:=(by rw[gL];rfl)
  (try rw[hLL]at h8);(try rw[hLL]at h9);(try rw[hLL]at h10);(try rw[hLL])
  have e:=Qx (L:=dL d) (i:=K) (by omega) h9;exact⟨K+1,⟨by omega,lX q_2.2 (.inr h10)⟩,by omega,⟨by omega,ba⟩,⟨rfl,rfl,e.symm,ba⟩,e.symm,(by trivial)⟩
 case ab=>
  have hx0:F=2:=(by omega);subst hx0;have hx1:I=55:=(by omega);subst hx1;have hr:=gK d 2;have ht:=sX hr.1.1;have hbb:=kB d;have hll:(jo d (kT d) 55).length=64*55:=kC hp.2 (by omega) 55 (by omega);have hLL:dM 10 (bj 0 (bf (bd (eG d 2).2) (jo d (kT d) 55)))=dL d:=(by rw[gL];rfl)
  (try rw[hLL]at h8);(try rw[hLL]at h9);(try rw[hLL]at h10);(try rw[hLL])
  rw[Lp h1 (by omega) h5 (Vr (i:=K) (by omega) q_2.2),de (by omega)];exact⟨rfl,rfl,rfl,rfl⟩
def Tryz.LF:bX Tryz.prog Tryz.B.eT Tryz.X 39 false (aU Tryz.bA [.obj 0] (fun _ x=>cW x 1000000/\∀i,i<x.2.2.1.length->(nth .str x.2.2.1 i).length=64) Tryz.Bf):=
 bE (X:=Tryz.X) Tryz.Rf Tryz.func39 (by kernel_rfl) (fun(a:CD [.obj 0]) (x:PD Tryz.bA)=>Tryz.LD x) (fun(a:CD [.obj 0]) (x:PD Tryz.bA) hw hp=>VS x hw hp)
end Go.Proofs.YtgokjhhcfemnhadGreatDoor

namespace Go.Proofs.YtgokjhhcfemnhadGreatDoor
open Go.Vg Go.Shelf Go.RowKit
def CQ{P:Program}(w:World)(t e ty:TypeId)(z:Value)(ht:P.underlying t=some (.slice e))(hv:∀w,(zeroValue e).run P w=.ok z w)(h1:∀u∈z.cells,u.oneCell'=true)(b o n c:Nat)(hn:0<n)
  (hc:∀j,j<n*z.cells.size->(w.cell? ⟨b,o+j,none⟩).isSome=true)(hf:∀j,j<n*z.cells.size->w.frozen? ⟨b,o+j,none⟩=false) :
  (dx #[t] ty #[.slice (some ⟨b,o,none⟩) n c]).run P w=.ok (.tuple #[]) (w.setCells b o (cm z.cells n).toList):=by
 have hl:(cm z.cells n).toList.length=n*z.cells.size:=by rw[df,size_zeroCells]
 have hst:=run_storeCells_cells (P:=P) b o (cm z.cells n).toList 0 w (by simpa[hl]using hc) (by simpa[hl]using hf) (by
  intro v hv';simp[cm]at hv';obtain⟨k,hk,rfl⟩:=hv';by_cases h:k % z.cells.size<z.cells.size
  ·rw[getElem!_pos z.cells _ h];exact h1 _ (Array.getElem_mem h)
  ·have:z.cells.size=0:=by
    by_cases h0:z.cells.size=0
    ·exact h0
    ·exact absurd (Nat.mod_lt _ (by omega)) h
   rw[this]at hk;omega)
 simp only[dp]at hst;obtain⟨m,rfl⟩:∃m,n=m+1:=⟨n-1,by omega⟩
 simp[dx,run_underlying ht,hv,hst]
def jZ(b:Nat):∀(vs:List Value) (o:Nat) (w:World),(w.setCells b o vs).heap.size=w.heap.size
 |[],_,_=>rfl
 |v :: r,o,w=>(jZ b r (o+1) _).trans (ds _ _ _)
def vZ{b:Nat}{T:TypeId}:∀(news:List Value) (o:Nat) (w:World) (vs:Array Value),w.heap[b]?=some (.cells vs T (0,0))->o+news.length<=vs.size->
  ∃vs',(w.setCells b o news).heap[b]?=some (.cells vs' T (0,0))/\vs'.size=vs.size/\∀k,vs'[k]?=if k<o then vs[k]? else if k<o+news.length then news[k-o]? else vs[k]?:=by
 intro news;induction news with
 |nil=>intro o w vs hb _;exact⟨vs,hb,rfl,fun k=>by simp only[bz];split <;> (try rfl);rw[if_neg (by omega)]⟩
 |cons x r ih=>
  intro o w vs hb hle;simp only[bw]at hle;obtain⟨vs',h1,h2,h3⟩:=ih (o+1) (w.setCell ⟨b,o,none⟩ x) _ (Sx hb) (by simp;omega);refine⟨vs',h1,by simpa using h2,fun k =>?_⟩;rw[h3,bw];by_cases c1:k<o
  ·rw[if_pos (by omega),if_pos c1,Array.getElem?_setIfInBounds_ne (by omega)]
  ·by_cases c2:k=o
   ·subst c2
    rw[if_pos (by omega),if_neg c1,if_pos (by omega),Array.getElem?_setIfInBounds_self_of_lt (by omega)];simp
   ·rw[if_neg (by omega),if_neg c1]
    by_cases c3:k<o+1+r.length
    ·rw[if_pos c3,if_pos (by omega),show k-o=(k-(o+1))+1 by omega,List.getElem?_cons_succ]
    ·rw[if_neg c3,if_neg (by omega),Array.getElem?_setIfInBounds_ne (by omega)]
set_option maxHeartbeats 4000000 in
set_option maxRecDepth 1000000 in
def Tryz.WQ:Qz Tryz.prog 56 3:=by
 intro b i j n cap vs T w hb hsz hij hj hcap hbig h1;obtain⟨te,ti,td,hu,hf⟩:=gX (t:=114) (e:=aC) Tryz.bQ (by kernel_rfl);obtain⟨z,hz,hzr⟩:=hf.zero;have hu':=hu;rw[Tryz.underlying114]at hu';cases hu';obtain⟨news,hnews⟩:∃news,news=(vs.toList.drop (j*3)).take ((n-j)*3):=⟨_,rfl⟩
 have hle:n*3<=vs.size:=by omega
 have hlen:news.length=(n-j)*3:=by rw[hnews,b7,dw,df];omega
 have hget:∀(t:Nat) u,news[t]?=some u->vs[j*3+t]?=some u:=by
  intro t u ht;rw[hnews,List.getElem?_take]at ht;split at ht
  ·rw[List.getElem?_drop,Array.getElem?_toList]at ht;exact ht
  ·cases ht
 obtain⟨A,hA,hsrc⟩:∃A:Addr,(if cap=j then some (⟨b,0,none⟩:Addr)else some ⟨b,j*3,none⟩)=some A/\Hid (∀(t:Nat) u,news[t]?=some u->w.drew.cell? (A.add t)=some u):=by
  by_cases h:cap=j
  ·refine⟨⟨b,0,none⟩,by simp[h],fun t u hu =>?_⟩
   have h0:news.length=0:=by rw[hlen];omega
   rw[dk.1 h0]at hu;simp at hu
  ·refine⟨⟨b,j*3,none⟩,by simp[h],fun t u hu =>?_⟩
   rw[Addr.add_lit,cell_of_row w.drew b _ vs T (0,0) hb];exact hget t u hu
 have mixed:Tryz.prog.follows .mixedOrders=true:=by kernel_rfl
 have hs3:ti.size=3:=hf.size;have s1:Hid (news.length=(n-j)*3):=hlen;have s2:Hid (∀u∈news,u.oneCell'=true):=by
  intro u hu;obtain⟨t,ht⟩:=List.getElem?_of_mem hu;have:=bF ht;exact h1 (j*3+t) u (by omega) (hget t u ht)
 have s3:Hid (∀t,t<news.length->(w.drew.cell? ⟨b,0+i*3+t,none⟩).isSome=true/\w.drew.frozen? ⟨b,0+i*3+t,none⟩=false):=by
  intro t ht;rw[hlen]at ht;refine⟨?_,dd (w:=w.drew) hb _⟩;rw[cell_of_row w.drew b _ vs T (0,0) hb,Array.getElem?_eq_getElem (by omega)];rfl
 obtain⟨W1,hW1⟩:∃W1,W1=w.drew.setCells b (0+i*3) news:=⟨_,rfl⟩
 have hW:Hid (W1=w.drew.setCells b (0+i*3) news):=hW1;have hic:i<=cap:=by omega
 have hjc:j<=cap:=by omega
 have hne:¬((i:Int)=(j:Int)):=by omega
 have hzv:∀w,(zeroValue 53).run Tryz.prog w=.ok z w:=fun w=>by simp[zeroValue,typeInfo,hf.info,hz]
 have hz0:=kW (S:=aA (fun _ _=>False) ⟨[],[],0⟩ (fun _=>⟨.nilIface,[]⟩) w) (cx:=Tryz.B) hzr;have hzs:z.cells.size=3:=by
  rw[<-df];exact hz0.length.symm.trans (iS aC)
 obtain⟨vs1,v1,v2,v3⟩:=vZ (b:=b) (T:=T) news (0+i*3) w.drew vs hb (by omega);rw[<-hW1]at v1;have fP:=CQ (P:=Tryz.prog) W1 114 53 0 z Tryz.underlying114 hzv (fun u hu=>(Bz (eT:=Tryz.B.eT) (A:=fun _ _=>False) (w:=w) hzr (by kernel_rfl)).lj u (by simpa using hu)) b ((i+(n-j))*3) (n-(i+(n-j))) (cap-(i+(n-j))) (by omega)
  (fun t ht=>by rw[hzs]at ht;rw[cell_of_row W1 b _ vs1 T (0,0) v1,Array.getElem?_eq_getElem (by omega)];rfl) (fun t ht=>dd v1 _)
 obtain⟨W2,hW2⟩:∃W2,W2=W1.setCells b ((i+(n-j))*3) (cm z.cells (n-(i+(n-j)))).toList:=⟨_,rfl⟩
 rw[<-hW2]at fP;have hzl:(cm z.cells (n-(i+(n-j)))).toList.length=(n-(i+(n-j)))*3:=by rw[df,size_zeroCells,hzs]
 obtain⟨vs2,u1,u2,u3⟩:=vZ (b:=b) (T:=T) (cm z.cells (n-(i+(n-j)))).toList ((i+(n-j))*3) W1 vs1 v1 (by omega);rw[<-hW2]at u1;have hfin:Hid (W2.os=w.os/\W2.output=w.output/\W2.heap.size=w.heap.size/\(∀k,k≠b->W2.heap[k]?=w.heap[k]?)/\
       ∃vs',W2.heap[b]?=some (Obj.cells vs' T (0,0))/\vs'.size=vs.size/\∀k,k<(i+(n-j))*3->vs'[k]?=vs[if k<i*3 then k else k+(j-i)*3]?):=by
  refine⟨by rw[hW2,hW1,eu,eu];rfl,by rw[hW2,hW1,ew,ew];rfl,by rw[hW2,hW1,jZ,jZ];rfl,fun k hk =>?_,vs2,u1,by omega,fun k hk =>?_⟩
  ·by_cases hlt:k<w.heap.size
   ·rw[hW2,ey _ _ _ _ (by rw[hW1,jZ];exact hlt) hk,hW1,ey w.drew _ _ _ (show k<w.drew.heap.size from hlt) hk];rfl
   ·rw[Array.getElem?_eq_none (by rw[hW2,hW1,jZ,jZ];show w.heap.size<=k;omega),Array.getElem?_eq_none (by omega)]
  ·rw[u3,if_pos hk,v3]
   by_cases c:k<i*3
   ·rw[if_pos (by omega),if_pos c]
   ·rw[if_neg (by omega),if_pos (by omega),if_neg c,hnews,List.getElem?_take,if_pos (by omega),List.getElem?_drop,Array.getElem?_toList]
    congr 1;omega
 have fP:Hid ((dx #[114] 0 #[.slice (some ⟨b,(i+(n-j))*3,none⟩) (n-(i+(n-j))) (cap-(i+(n-j)))]).run Tryz.prog W1=.ok (.tuple #[]) W2):=fP;have fP:=fP.out;clear hW1 hget hnews hlen h1 hW2 u1 u2 u3 v1 v2 v3 hzl
 go_enter Tryz.func56,Tryz.ntmps56
 go_wp2_with fail
 go_region_law_o (refine step_append_room rfl (.tmp 22) (.tmp 25) 114 rfl 53 ti 3 Tryz.underlying114 hf.info hs3 b 0 i cap (by simp[Act.eval,Act.put]) A (n-j) (cap-j) news (by simp[Act.eval,Act.put,hA]) s1.out hsrc.out s2.out (by omega) s3.out ?_;rw[<-hW.out])
 go_wp2
 go_ret
 exact⟨rfl,hfin.out⟩
end Go.Proofs.YtgokjhhcfemnhadGreatDoor

namespace Go.Proofs.YtgokjhhcfemnhadGreatDoor
open Go.Vg Go.Mrl
def Tryz.Xg:∃fn,Tryz.prog.funcs[56]?=some fn/\fn.body.isNone=false/\(fn.name == "runtime.NumGoroutine")=false:=⟨_,Tryz.func56,by kernel_rfl,by kernel_rfl⟩
def Tryz.LG:List (FuncId×(Bool×aT)):=[(47,Tryz.spZ10),(56,(false,Dz aC)),(48,Tryz.spZ11),(50,Tryz.spZ13)]
def Tryz.Rg:bO Tryz.prog Tryz.B Tryz.X Tryz.LG:=
 aN (eP (bR Tryz.bQ) Tryz.func47 (by kernel_rfl) []) (aN (NG Tryz.Xg Tryz.WQ) (aN (Tryz.DE) (aN (Tryz.LA) (bR Tryz.bQ))))
def VT{x:Sh}{s:aD}(h:¬0<=eA x.1.2.1 s):gJ x s=(x,5):=by unfold gJ;rw[if_neg h]
def TX{x:Sh}{s:aD}(h:0<=eA x.1.2.1 s):gJ x s=qv x (x.1.2.1.take (eA x.1.2.1 s).toNat++x.1.2.1.drop (eA x.1.2.1 s+1).toNat):=by
 unfold gJ;rw[if_pos h,List.eraseIdx_eq_take_drop_succ,show(eA x.1.2.1 s+1).toNat=(eA x.1.2.1 s).toNat+1 by omega]
def Tryz.Bg:List (Alt Tryz.bT [.obj 0,.d .str]):=[{bN:=Tryz.bT,res:=[.d .err],out:=fun a x=>(gJ x a.1).1,ret:=fun a x=>(aI (gJ x a.1).2,())}]
def VU(s:List UInt8)(r:Int)(o:List (D aC))(d:Dk)(hw:gH [.obj 0,.d .str] (s,()))(hp:(fun _ x=>x.1.2.1.length<=100/\0<=(x.1.1:Int)/\(x.1.1:Int)<=1000000000/\cW x.2 1000000) (s,()) ((r,o,()),d)):(cR Tryz.B Tryz.LG Tryz.f38 [] Tryz.bT [.obj 0,.d .str] Tryz.Bg (s,()) ((r,o,()),d)).holds:=by
 refine holds_of (p:=
  let za:=d.2.2.2.1=d.2.2.2.1
  let zb:=eA o s
  let zc:=((r,o,()),d)
  let zd:=(gJ zc s).1
  let ze:=(aI (gJ zc s).2,())
  let zf:=bb o
  let zg:=zb+1
  let zh:=bf (bd zb) o++bj (bd zg) o
  let zi:=eI d r zh
  let zj:=zi.1.2.2.2.1
  za/\True/\(True->((decide (zb<0))=true->za/\True/\zc=zd/\(aK.no 5,())=ze)/\((decide (zb<0))=false->∀F:Bool,(0<zf->F=false)->(F=true->aJ zb->aJ 1->aJ zg/\False)/\(F=false->zf<=1000000000/\(aJ zb->aJ 1->aJ zg/\(0<=zb/\zb<zg/\zg<=(↑zf:Int))/\za/\(bb zh<=100/\0<=r/\r<=1000000000/\cW d 1000000)/\(True->zj=zj/\True/\(if zi.2=0 then(r+1,zh,())else(r,o,()),zi.1)=zd/\(aI zi.2,())=ze)))))) (by kernel_rfl) ?_
 dsimp -iota -proj -eta only;dsimp only at hp;exact⟨rfl,ba,fun h0=>iL (fun h1=>(by rw[VT (x:=((r,o,()),d)) (show ¬0<=eA o s by omega)];exact⟨rfl,ba,rfl,rfl⟩)) (fun h1 F q_0=>⟨fun h2 h3 h4=>⟨(by exfalso;have:=xI q_0 h2;subst this;exact oZ s (by omega)),(by have:=xI q_0 h2;subst this;exact oZ s (by omega))⟩,fun h2=>⟨(by omega),fun h3 h4=>⟨(by have:=qb o s;have hh:o.length<=100:=hp.1;unfold aJ;omega),(by have:=qb o s;exact⟨by omega,by omega,by omega⟩),rfl,(by have hh:o.length<=100:=hp.1;refine⟨?_,hp.2⟩;rw[bt,b7,dw];omega),fun h5=>(by rw[TX (x:=((r,o,()),d)) (show 0<=eA o s by omega)];exact⟨rfl,ba,rfl,rfl⟩)⟩⟩⟩)⟩
def Tryz.VV:bX Tryz.prog Tryz.B.eT Tryz.X 38 false (aU Tryz.bT [.obj 0,.d .str] (fun _ x=>x.1.2.1.length<=100/\0<=(x.1.1:Int)/\(x.1.1:Int)<=1000000000/\cW x.2 1000000) Tryz.Bg):=
 bE (X:=Tryz.X) Tryz.Rg Tryz.func38 (by kernel_rfl) (fun(a:CD [.obj 0,.d .str]) (x:PD Tryz.bT)=>[]) (fun(a:CD [.obj 0,.d .str]) (x:PD Tryz.bT) hw hp=>VU a.1 x.1.1 x.1.2.1 x.2 hw hp)
def Tryz.spZ20:Bool×aT:=(false,aU Tryz.bA [.obj 0,.d (.int .i64)] (fun _ _=>True) Tryz.A9)
def Tryz.spZ21:Bool×aT:=(false,aU Tryz.bA [.obj 0,.d (.int .i64)] (fun _ _=>True) Tryz.DD)
def Tryz.spZ22:Bool×aT:=(false,aU Tryz.bA [.obj 0,.d (.int .u64)] (fun _ x=>x.2.1.length=x.2.2.1.length/\∀i,i<x.2.2.2.1.length->0<=((nth gR x.2.2.2.1 i).1:Int)/\((nth gR x.2.2.2.1 i).1:Int)<x.2.2.1.length) Tryz.oq)
def Tryz.spZ23:Bool×aT:=(false,aU [] [.d (.int .i64)] (fun _ _=>True) Tryz.Bc)
def Tryz.spZ24:Bool×aT:=(false,aU Tryz.bA [.obj 0] (fun _ x=>cW x 1000000/\∀i,i<x.2.2.1.length->(nth .str x.2.2.1 i).length=64) Tryz.Bf)
def Tryz.CS:List (FuncId×(Bool×aT)):=[(45,Tryz.spZ0),(17,Tryz.spZ1),(70,Tryz.spZ8),(58,Tryz.spZ20),(71,Tryz.spZ9),(18,Tryz.spZ21),(19,Tryz.spZ19),(57,Tryz.spZ18),(20,Tryz.spZ22),(43,Tryz.spZ23),(39,Tryz.spZ24),(44,(false,aU Tryz.bA [.obj 0] (fun _ x=>cW x 1000000) Tryz.vI))]
def Tryz.IV:bO Tryz.prog Tryz.B Tryz.X Tryz.CS:=
 aN (aE Tryz.jm) (aN (aE Tryz.ir) (aN (Tryz.s4) (aN (Tryz.IM) (aN (Tryz.s5) (aN (Tryz.Lw) (aN (Tryz.Bb) (aN (Tryz.qx) (aN (Tryz.tG) (aN (Tryz.Lx) (aN (Tryz.LF) (aN (Tryz.Re) (bR Tryz.bQ))))))))))))
def Tryz.tH:List (Alt [] []):=[{bN:=Tryz.bT,res:=[.obj 1,.obj 0,.d .bool],out:=fun _ _=>jl,ret:=fun _ _=>(true,())}]
def N1  (hw:gH [] ()):(cR Tryz.B Tryz.CS Tryz.f25 [] [] [] Tryz.tH () ()).holds:=by
 refine holds_of (p:=
  let za:=ch 112 (eH (@bc UInt8))
  let zb:=(((-1:Int),false,()),za,za,[],())
  let zc:=(iR zb).1
  let zd:=zc.2.2.2.1=zc.2.2.2.1
  let ze:=(cG zc).2
  let zf:=(((cG zc).1.1,(cG zc).1.2,()),zc)=jl
  let zg:=(true,())
  True/\(((112:Int)<(1:Int)\/(120:Int)<(112:Int))->((!aK.isNil (aK.no (1:Int)))=true->False)/\((!aK.isNil (aK.no (1:Int)))=false->False))/\((1:Int)<=(112:Int)/\(112:Int)<=(120:Int)->((!aK.isNil aK.nil)=true->False)/\((!aK.isNil aK.nil)=false->(@bc (Int×List UInt8×Unit)=@bc (Int×List UInt8×Unit))/\cW zb 1000000/\(True->((!aK.isNil (aI (iR zb).2))=true->False)/\((!aK.isNil (aI (iR zb).2))=false->zd/\(cW zc 1000000/\∀(i:Nat),i<bb zc.2.2.1->bb (nth Ty.str zc.2.2.1 i)=64)/\(ze≠(0:Int)->((aK.isNil (aI ze))=true->False)/\((aK.isNil (aI ze))=false->False))/\(ze=(0:Int)->((aK.isNil aK.nil)=true->zd/\True/\zf/\zg=zg)/\((aK.isNil aK.nil)=false->zd/\True/\zf/\(false,())=zg))))))) (by kernel_rfl) ?_
 dsimp -iota -proj -eta only;refine⟨ba,⟨fun h0=>⟨fun h1=>(by trivial),fun h1=>absurd (show true=false from h1) (by decide)⟩,fun h0=>⟨fun h1=>absurd (show false=true from h1) (by decide),fun h1=>⟨rfl,⟨dh _,b4 _,rfl⟩,fun h2=>iB (fun h3=>(dX h3 ((qR (sf (dh _)))).1)) (fun h3=>⟨rfl,⟨((qR (sf (dh _)))).2.sZ,((qR (sf (dh _)))).2.fV.sec⟩,⟨fun h4=>⟨fun h5 =>?a,fun h5 =>?b⟩,fun h4=>⟨fun h5=>⟨rfl,ba,Prod.ext jB.again rfl,rfl⟩,fun h5=>absurd (show true=false from h5) (by decide)⟩⟩⟩)⟩⟩⟩⟩
 case a|b=>exact h4 jB.yB
def Tryz.N2:bX Tryz.prog Tryz.B.eT Tryz.X 25 false (aU [] [] (fun _ _=>True) Tryz.tH):=
 bE (X:=Tryz.X) Tryz.IV Tryz.func25 (by kernel_rfl) (fun(a:CD []) (x:PD [])=>[]) (fun(a:CD []) (x:PD []) hw hp=>N1  hw)
@[reducible] def Tryz.aW:List Ob:=[.box 93 [.obj 1,.d (.int .i64)],.ext 1 (iU cK)]
def Tryz.IW:List (FuncId×(Bool×aT)):=[(45,Tryz.spZ0),(17,Tryz.spZ1)]
def Tryz.N3:bO Tryz.prog Tryz.B Tryz.X Tryz.IW:=
 aN (aE Tryz.jm) (aN (aE Tryz.ir) (bR Tryz.bQ))
def Tryz.DJ:List (Alt [] []):=[{bN:=Tryz.aW,res:=[.obj 0],out:=fun _ _=>qt,ret:=fun _ _=>()}]
def VW  (hw:gH [] ()):(cR Tryz.B [] Tryz.f26 [] [] [] Tryz.DJ () ()).holds:=by
 refine holds_of (p:=
  True/\((0,()),([],0,()),())=qt/\()=()) (by kernel_rfl) ?_
 exact⟨ba,rfl,rfl⟩
def Tryz.LH:bX Tryz.prog Tryz.B.eT Tryz.X 26 false (aU [] [] (fun _ _=>True) Tryz.DJ):=
 bE (X:=Tryz.X) (bR Tryz.bQ) Tryz.func26 (by kernel_rfl) (fun(a:CD []) (x:PD [])=>[]) (fun(a:CD []) (x:PD []) hw hp=>VW  hw)
def Tryz.xT:List (Alt Tryz.aW [.obj 0,.d .str]):=[{bN:=Tryz.aW,res:=[.d .str,.d (.int .i64),.d .err],out:=fun _ x=>x,ret:=fun a x=>((aO x a.1).1,(aO x a.1).2.1,aI (aO x a.1).2.2,())}]
def TY(s:List UInt8)(f:cX)(hw:gH [.obj 0,.d .str] (s,())):(cR Tryz.B [] Tryz.f13 [] Tryz.aW [.obj 0,.d .str] Tryz.xT (s,()) f).holds:=by
 refine holds_of (p:=
  let za:=Ty.prod Ty.str (Ty.prod (Ty.int bm) Ty.unit)
  let zb:=(aO f s).2
  let zc:=((aO f s).1,zb.1,aI zb.2,())
  let zd:=iV za f.2.1.1 s
  ((!cY za f.2.1.1 s)=true->True/\f=f/\([],0,aK.no 5,())=zc)/\((!cY za f.2.1.1 s)=false->True/\f=f/\(zd.1,zd.2.1,aK.nil,())=zc)) (by kernel_rfl) ?_
 dsimp -iota -proj -eta only;exact iB (fun h0=>(by exact⟨ba,rfl,by rw[lL h0];rfl⟩)) (fun h0=>(by exact⟨ba,rfl,by rw[py h0];rfl⟩))
def Tryz.sj:bX Tryz.prog Tryz.B.eT Tryz.X 13 false (aU Tryz.aW [.obj 0,.d .str] (fun _ _=>True) Tryz.xT):=
 bE (X:=Tryz.X) (bR Tryz.bQ) Tryz.func13 (by kernel_rfl) (fun(a:CD [.obj 0,.d .str]) (x:PD Tryz.aW)=>[]) (fun(a:CD [.obj 0,.d .str]) (x:PD Tryz.aW) hw hp=>TY a.1 x hw)
def Tryz.vJ:List (Alt Tryz.aW [.obj 0,.d .str,.d .str]):=[{bN:=Tryz.aW,res:=[.d .err],out:=fun a x=>(cL x a.1 a.2.1).1,ret:=fun a x=>(aI (cL x a.1 a.2.1).2,())}]
def Rh(s:List UInt8)(t:List UInt8)(f:cX)(hw:gH [.obj 0,.d .str,.d .str] (s,t,()))(hp:(fun _ x=>x.2.1.1.length<=6/\0<=x.1.1/\x.1.1<=1000000) (s,t,()) f):(cR Tryz.B Tryz.IW Tryz.f27 [] Tryz.aW [.obj 0,.d .str,.d .str] Tryz.vJ (s,t,()) f).holds:=by
 refine holds_of (p:=
  let za:=aI (aP s)
  let zb:=cL f s t
  let zc:=f=zb.1
  let zd:=(aI zb.2,())
  let ze:=Ty.prod Ty.str (Ty.prod (Ty.int bm) Ty.unit)
  let zf:=f.2.1.1
  let zg:=True/\zc/\(aK.no 8,())=zd
  let zh:=f.1.1+1
  let zi:=((f.1.1 == 1000000)=true->zg)/\((f.1.1 == 1000000)=false->aJ f.1.1->aJ 1->aJ zh/\bb zf<aL/\True/\((zh,()),(eS ze zf s (t,zh,()) f.2.1.2.1,mR ze zf s f.2.1.2.1,()),())=zb.1/\(aK.nil,())=zd)
  True/\((!aK.isNil za)=true->True/\zc/\(za,())=zd)/\((!aK.isNil za)=false->bb t<=aL->((decide ((↑(bb t):Int) > 1200))=true->True/\zc/\(aK.no 2,())=zd)/\((decide ((↑(bb t):Int) > 1200))=false->((!cY ze zf s)=true->(((↑(bb zf):Int) == 6)=true->zg)/\(((↑(bb zf):Int) == 6)=false->zi))/\((!cY ze zf s)=false->zi)))) (by kernel_rfl) ?_
 dsimp -iota -proj -eta only;refine⟨ba,iB (fun h0 =>?a) (fun h0 h1=>iL (fun h2=>(by rw[xh (aQ.1 ‹_›) (by omega)];exact⟨ba,rfl,rfl⟩)) (fun h2=>iB (fun h3=>iQ (fun h4 =>?b) (fun h4=>iQ (fun h5 =>?c) (fun h5 h6 h7=>⟨?d,?e,?f⟩))) (fun h3=>iQ (fun h4 =>?g) (fun h4 h5 h6=>⟨?h,?i,?j⟩))))⟩
 case a=>
  have hn:¬aP s=0:=(fun e=>by rw[aQ.2 e]at h0;cases h0);rw[xg hn];exact⟨ba,rfl,rfl⟩
 case b|c|g=>rw[xi (aQ.1 ‹_›) (by omega) (by first|exact .inr (by omega)|exact .inl ⟨by assumption,by omega⟩)];exact⟨ba,rfl,rfl⟩
 case d|e|h|i=>simp only[aJ,aL]at*;omega
 case f|j=>rw[B8 (aQ.1 ‹_›) (by omega) (by rintro(⟨e1,e2⟩|e);(first|omega|exact ct (e1.symm.trans (show cY cK f.2.1.1 s=true by assumption)));omega)];exact⟨ba,rfl,rfl⟩
def Tryz.Fm:bX Tryz.prog Tryz.B.eT Tryz.X 27 false (aU Tryz.aW [.obj 0,.d .str,.d .str] (fun _ x=>x.2.1.1.length<=6/\0<=x.1.1/\x.1.1<=1000000) Tryz.vJ):=
 bE (X:=Tryz.X) Tryz.N3 Tryz.func27 (by kernel_rfl) (fun(a:CD [.obj 0,.d .str,.d .str]) (x:PD Tryz.aW)=>[]) (fun(a:CD [.obj 0,.d .str,.d .str]) (x:PD Tryz.aW) hw hp=>Rh a.1 a.2.1 x hw hp)
def Tryz.tI:List (Alt Tryz.aW [.obj 0,.d .str]):=[{bN:=Tryz.aW,res:=[.d .err],out:=fun a x=>(fD x a.1).1,ret:=fun a x=>(aI (fD x a.1).2,())}]
def N4(s:List UInt8)(f:cX)(hw:gH [.obj 0,.d .str] (s,())):(cR Tryz.B [] Tryz.f28 [] Tryz.aW [.obj 0,.d .str] Tryz.tI (s,()) f).holds:=by
 refine holds_of (p:=
  let za:=Ty.prod Ty.str (Ty.prod (Ty.int bm) Ty.unit)
  let zb:=fD f s
  let zc:=(aI zb.2,())
  ((!cY za f.2.1.1 s)=true->True/\f=zb.1/\(aK.no 5,())=zc)/\((!cY za f.2.1.1 s)=false->True/\(f.1,(fQ za f.2.1.1 s,f.2.1.2),())=zb.1/\(aK.nil,())=zc)) (by kernel_rfl) ?_
 dsimp -iota -proj -eta only;exact iB (fun h0=>(by rw[mw h0];exact⟨ba,rfl,rfl⟩)) (fun h0=>(by rw[lB h0];exact⟨ba,rfl,rfl⟩))
def Tryz.CT:bX Tryz.prog Tryz.B.eT Tryz.X 28 false (aU Tryz.aW [.obj 0,.d .str] (fun _ _=>True) Tryz.tI):=
 bE (X:=Tryz.X) (bR Tryz.bQ) Tryz.func28 (by kernel_rfl) (fun(a:CD [.obj 0,.d .str]) (x:PD Tryz.aW)=>[]) (fun(a:CD [.obj 0,.d .str]) (x:PD Tryz.aW) hw hp=>N4 a.1 x hw)
@[reducible] def Tryz.sk:List Ob:=[.box 4 [.d .bool]]
@[reducible] def Tryz.o1:List Ob:=[.box 84 [.obj 1,.obj 2,.obj 3,.obj 4],.tok .str,.tok (.int .i64),.tok aS,.tok bD,.box 4 [.d .bool]]
def Tryz.vK:List (Alt Tryz.sk [.d .str,.obj 0]):=[{bN:=Tryz.sk,res:=[.d (.int .i64)],out:=fun a x=>((x.1.1 || (cS a.1).isNone,()),()),ret:=fun a _=>((dV a.1).1,())}]
def Tryz.Fo:List (FuncId×(Bool×aT)):=[(84,Tryz.spZ2),(103,Tryz.spZ14),(81,Tryz.spZ15),(52,Tryz.spZ16),(51,Tryz.spZ17)]
def Tryz.Ko:bO Tryz.prog Tryz.B Tryz.X Tryz.Fo:=
 aN (aE Tryz.oR) (aN (aE Tryz.sh) (aN (aE Tryz.nq) (aN (aE Tryz.mr) (aN (aE Tryz.si) (bR Tryz.bQ)))))
def N5(s:List UInt8)(b:Bool)(hw:gH [.d .str,.obj 0] (s,()))(hp:(fun a _=>a.1.length<=1000000) (s,()) ((b,()),())):(cR Tryz.B Tryz.Fo Tryz.f82 [] Tryz.sk [.d .str,.obj 0] Tryz.vK (s,()) ((b,()),())).holds:=by
 refine holds_of (p:=
  let za:=((b || ck (cS s),()),())
  let zb:=((dV s).1,())
  let zc:=True/\((true,()),())=za/\zb=zb
  bb s<=281474976710656/\(b=true->zc)/\(b=false->((!aK.isNil (dV s).2)=true->zc)/\((!aK.isNil (dV s).2)=false->True/\True/\((!bp (dV s).1 == s,()),())=za/\zb=zb))) (by kernel_rfl) ?_
 dsimp -iota -proj -eta only;dsimp only at hp;exact⟨(by omega),⟨fun h0=>(by simp_all),fun h0=>iB (fun h1=>(by exact⟨ba,by rw[qK,h1];simp,rfl⟩)) (fun h1=>⟨ba,(by exact⟨ba,by rw[qK,h1];cases b <;> simp_all <;> (rw[dy];simp),rfl⟩)⟩)⟩⟩
def Tryz.N6:bX Tryz.prog Tryz.B.eT Tryz.X 82 false (aU Tryz.sk [.d .str,.obj 0] (fun a _=>a.1.length<=1000000) Tryz.vK):=
 bE (X:=Tryz.X) Tryz.Ko Tryz.func82 (by kernel_rfl) (fun(a:CD [.d .str,.obj 0]) (x:PD Tryz.sk)=>[]) (fun(a:CD [.d .str,.obj 0]) (x:PD Tryz.sk) hw hp=>N5 a.1 x.1.1 hw hp)
def Tryz.Bh:List (Alt Tryz.o1 [.obj 0,.d .str,.obj 5]):=[{bN:=Tryz.o1,res:=[],out:=fun a x=>PN (gC (S6 x) x.2.2.2.2.2.1.1 a.1),ret:=fun _ _=>()}]
def Tryz.LI:List (FuncId×(Bool×aT)):=[(84,Tryz.spZ2),(103,Tryz.spZ14),(81,Tryz.spZ15),(52,Tryz.spZ16),(51,Tryz.spZ17),(82,(false,aU Tryz.sk [.d .str,.obj 0] (fun a _=>a.1.length<=1000000) Tryz.vK))]
def Tryz.Ri:bO Tryz.prog Tryz.B Tryz.X Tryz.LI:=
 aN (aE Tryz.oR) (aN (aE Tryz.sh) (aN (aE Tryz.nq) (aN (aE Tryz.mr) (aN (aE Tryz.si) (aN (Tryz.N6) (bR Tryz.bQ))))))
def LJ(s:List UInt8)(_:List (List UInt8))(_:List Int)(_:List (D aS))(_:List (D bD))(_:Bool):dO:=[
 (300001,fun st=>{X:=List (List UInt8),inv:=fun w=>w=parts 32 (cb s dS),cA:=fun _=>0,bK:=fun w=>[(7,sD (.slice .str) w)],keep:=[0,2,6]}),
 (300003,fun st=>{X:=Bool,inv:=fun c=>c=true↔(nth .str (cZ (.slice .str) st 7) 0=ko/\bb (cZ (.slice .str) st 7)=2),cA:=fun _=>0,bK:=fun c=>[(18,sB c)],keep:=[0,2,6,7]}),
 (300005,fun st=>{X:=Bool,inv:=fun c=>c=true↔(nth .str (cZ (.slice .str) st 7) 0=jU/\bb (cZ (.slice .str) st 7)=2),cA:=fun _=>0,bK:=fun c=>[(40,sB c)],keep:=[0,2,6,7]}),
 (300007,fun st=>{X:=Bool,inv:=fun c=>c=true↔(nth .str (cZ (.slice .str) st 7) 0=jj/\bb (cZ (.slice .str) st 7)=3),cA:=fun _=>0,bK:=fun c=>[(64,sB c)],keep:=[0,2,6,7]}),
 (300009,fun st=>{X:=Bool,inv:=fun c=>c=true↔(nth .str (cZ (.slice .str) st 7) 0=mK/\bb (cZ (.slice .str) st 7)=3),cA:=fun _=>0,bK:=fun c=>[(93,sB c)],keep:=[0,2,6,7]}),
 (300011,fun st=>{X:=Bool,inv:=fun c=>c=true↔((nth .str (cZ (.slice .str) st 7) 0=lC\/nth .str (cZ (.slice .str) st 7) 0=lg)/\bb (cZ (.slice .str) st 7)=4),cA:=fun _=>0,bK:=fun c=>[(123,sB c)],keep:=[0,2,6,7]})]
def TZ(s:List UInt8)(n:List (List UInt8))(w:List Int)(y:List (D aS))(t:List (D bD))(b:Bool)(hw:gH [.obj 0,.d .str,.obj 5] (s,()))(hp:(fun a x=>a.1.length<=1000000/\x.2.1.length<=1000000/\x.2.2.1.length<=1000000/\x.2.2.2.1.length<=1000000/\x.2.2.2.2.1.length<=1000000) (s,()) ((),n,w,y,t,(b,()),())):(cR Tryz.B Tryz.LI Tryz.f53 (LJ s n w y t b) Tryz.o1 [.obj 0,.d .str,.obj 5] Tryz.Bh (s,()) ((),n,w,y,t,(b,()),())).holds:=by
 refine holds_of (p:=
  let za:=[(119:UInt8),101,97,107,32]
  let zb:=cb s za
  let zc:=parts (32:UInt8) (cb s dS)
  let zd:=n=n
  let ze:=w=w
  let zf:=y=y
  let zg:=t=t
  let zh:=(zd/\ze/\zf/\zg/\True)/\zd/\ze/\zf/\zg/\(b=b/\True)/\True
  let zi:=fun(F:List (List UInt8))=>(↑(bb F):Int)
  let zj:=fun(F:List (List UInt8))=>(0:Int)<=(0:Int)/\(0:Int)<zi F
  let zk:=fun(F:List (List UInt8))=>nth Ty.str F 0
  let zl:=fun(F:List (List UInt8))=>bb F<=aL
  let zm:=fun(F:List (List UInt8))=>zk F=ko/\bb F=2
  let zn:=fun(F:List (List UInt8))=>(0:Int)<=(1:Int)/\(1:Int)<zi F
  let zo:=fun(F:List (List UInt8))=>nth Ty.str F 1
  let zp:=(w,y,t,(b,()),())
  let zq:=PN (gC (S6 ((),n,zp)) b s)
  let zr:=()=()
  let zs:=fun(F:List (List UInt8))=>zk F=jU/\bb F=2
  let zt:=fun(F:List (List UInt8))=>bb (zo F)<=1000000
  let zu:=fun(F:List (List UInt8))=>(dV (zo F)).1
  let zv:=fun(F:List (List UInt8))=>zk F=jj/\bb F=3
  let zw:=fun(F:List (List UInt8))=>(0:Int)<=(2:Int)/\(2:Int)<zi F
  let zx:=fun(F:List (List UInt8))=>nth Ty.str F 2
  let zy:=fun(F:List (List UInt8))=>bb (zx F)<=1000000
  let zz:=(cy s za,())
  let zaa:=fun(F:List (List UInt8))=>[(zo F,(dV (zx F)).1,zz)]
  let zab:=fun(F:List (List UInt8))=>zk F=mK/\bb F=3
  let zac:=bb t
  let zad:=fun(F:List (List UInt8))=>[(zu F,(1:Int),(dV (zx F)).1,@bc UInt8,false,())]
  let zae:=fun(F:List (List UInt8))=>((b || ck (cS (zo F)) || ck (cS (zx F)),()),())
  let zaf:=fun(F:List (List UInt8))=>zy F/\(True->(zg/\zac+bb (zad F)<=1000000000)/\zd/\ze/\zf/\t++zad F=t++zad F/\True/\((),n,w,y,t++zad F,zae F)=zq/\zr)
  let zag:=fun(F:List (List UInt8))=>(zk F=lC\/zk F=lg)/\bb F=4
  let zah:=fun(F:List (List UInt8))=>zl F->∃(x':Bool),(x'=true↔zag F)/\((zi F == (4:Int))=x'/\True)/\zh
  let zai:=fun(F:List (List UInt8))=>zk F == [(110:UInt8),101,97,114]
  let zaj:=fun(F:List (List UInt8))=>(0:Int)<=(3:Int)/\(3:Int)<zi F
  let zak:=fun(F:List (List UInt8))=>((dV (zx F)).1,nth Ty.str F 3,zz)
  let zal:=fun(F:List (List UInt8))=>t++[(zu F,(3:Int),zak F)]
  let zam:=fun(F:List (List UInt8))=>zy F/\(True->(zg/\zac+bb [(zu F,(3:Int),zak F)]<=1000000000)/\zd/\ze/\zf/\zal F=zal F/\True/\((),n,w,y,zal F,zae F)=zq/\zr)
  let zan:=fun(F:List (List UInt8))=>t++[(zu F,(2:Int),zak F)]
  let zao:=fun(F:List (List UInt8))=>zy F/\(True->(zg/\zac+bb [(zu F,(2:Int),zak F)]<=1000000000)/\zd/\ze/\zf/\zan F=zan F/\True/\((),n,w,y,zan F,zae F)=zq/\zr)
  True/\((bb zb<4294967281/\bb [(32:UInt8)]=1)/\∃(x':List (List UInt8)),x'=zc/\(parts (32:UInt8) zb=x'/\True)/\zh)/\∀F:List (List UInt8),F=zc->(zj F/\((zk F == [(110:UInt8),101,101,100])=true->zl F->∃(x':Bool),(x'=true↔zm F)/\((zi F == (2:Int))=x'/\True)/\zh)/\((zk F == [(110:UInt8),101,101,100])=false->∃(x':Bool),(x'=true↔zm F)/\(false=x'/\True)/\zh))/\∀I:Bool,(I=true↔zm F)->(I=true->zn F/\(zd/\bb n+bb [zo F]<=1000000000)/\n++[zo F]=n++[zo F]/\ze/\zf/\zg/\True/\((),n++[zo F],zp)=zq/\zr)/\(I=false->(zj F/\((zk F == [(119:UInt8),111,114,100])=true->zl F->∃(x':Bool),(x'=true↔zs F)/\((zi F == (2:Int))=x'/\True)/\zh)/\((zk F == [(119:UInt8),111,114,100])=false->∃(x':Bool),(x'=true↔zs F)/\(false=x'/\True)/\zh))/\∀K:Bool,(K=true↔zs F)->(K=true->zn F/\(fun a0:Prop=>a0/\a0) (zt F/\(True->(ze/\bb w+bb [zu F]<=1000000000)/\zd/\w++[zu F]=w++[zu F]/\zf/\zg/\True/\((),n,w++[zu F],y,t,(b || ck (cS (zo F)),()),())=zq/\zr)))/\(K=false->(zj F/\((zk F == [(115:UInt8),121,109,98,111,108])=true->zl F->∃(x':Bool),(x'=true↔zv F)/\((zi F == (3:Int))=x'/\True)/\zh)/\((zk F == [(115:UInt8),121,109,98,111,108])=false->∃(x':Bool),(x'=true↔zv F)/\(false=x'/\True)/\zh))/\∀M:Bool,(M=true↔zv F)->(M=true->zn F/\zw F/\(fun a0:Prop=>a0/\a0) (zy F/\(True->(zf/\bb y+bb (zaa F)<=1000000000)/\zd/\ze/\y++zaa F=y++zaa F/\zg/\True/\((),n,w,y++zaa F,t,(b || ck (cS (zx F)),()),())=zq/\zr)))/\(M=false->(zj F/\((zk F == [(98:UInt8),97,115,101])=true->zl F->∃(x':Bool),(x'=true↔zab F)/\((zi F == (3:Int))=x'/\True)/\zh)/\((zk F == [(98:UInt8),97,115,101])=false->∃(x':Bool),(x'=true↔zab F)/\(false=x'/\True)/\zh))/\∀Q:Bool,(Q=true↔zab F)->(Q=true->zn F/\zw F/\(zt F/\(True->zaf F))/\zt F/\(True->(fun a0:Prop=>a0/\a0) (zaf F)))/\(Q=false->(zj F/\((zk F == [(119:UInt8),104,111,108,101])=true->zah F)/\((zk F == [(119:UInt8),104,111,108,101])=false->zj F/\((zai F)=true->zah F)/\((zai F)=false->∃(x':Bool),(x'=true↔zag F)/\(false=x'/\True)/\zh)))/\∀R:Bool,(R=true↔zag F)->(R=true->zj F/\((zai F)=true->zn F/\zw F/\zaj F/\(zt F/\(True->zam F))/\zt F/\(True->(fun a0:Prop=>a0/\a0) (zam F)))/\((zai F)=false->zn F/\zw F/\zaj F/\(zt F/\(True->zao F))/\zt F/\(True->(fun a0:Prop=>a0/\a0) (zao F))))/\(R=false->zd/\ze/\zf/\zg/\True/\((),n,w,y,t,(true,()),())=zq/\zr)))))) (by kernel_rfl) ?_
 dsimp -iota -proj -eta only;dsimp only at hp;refine⟨ba,⟨⟨(by have:=HI s [119,101,97,107,32];exact⟨by omega,rfl⟩),(⟨_,rfl,⟨rfl,ba⟩,(by trivial)⟩)⟩,fun F q_0=>⟨⟨?a,iQ (fun h0 h1 =>?b) (fun h0 =>?c)⟩,fun I q_1=>⟨fun h0=>⟨?d,?e,?f⟩,fun h0=>⟨⟨?g,iQ (fun h1 h2 =>?h) (fun h1 =>?i)⟩,fun K q_2=>⟨fun h1=>⟨?j,(show ∀{a0:Prop},a0->a0/\a0 from fun g0=>⟨g0,g0⟩) (⟨?k,fun h2=>⟨?l,?m⟩⟩)⟩,fun h1=>⟨⟨?n,iQ (fun h2 h3 =>?o) (fun h2 =>?p)⟩,fun M q_3=>⟨fun h2=>⟨?q,?r,(show ∀{a0:Prop},a0->a0/\a0 from fun g0=>⟨g0,g0⟩) (⟨?s,fun h3=>⟨?t,?u⟩⟩)⟩,fun h2=>⟨⟨?v,iQ (fun h3 h4 =>?w) (fun h3 =>?x)⟩,fun Q q_4=>⟨fun h3=>⟨?y,?z,⟨⟨?a0,fun h4=>⟨?a1,fun h5=>⟨?a2,?a3⟩⟩⟩,⟨?a4,fun h4=>(show ∀{a0:Prop},a0->a0/\a0 from fun g0=>⟨g0,g0⟩) (⟨?a5,fun h5=>⟨?a6,?a7⟩⟩)⟩⟩⟩,fun h3=>⟨⟨?a8,iQ (fun h4 h5 =>?a9) (fun h4=>⟨?aa,iQ (fun h5 h6 =>?ab) (fun h5 =>?ac)⟩)⟩,fun R q_5=>⟨fun h4=>⟨?ad,iQ (fun h5=>⟨?ae,?af,?ag,⟨⟨?ah,fun h6=>⟨?ai,fun h7=>⟨?aj,?ak⟩⟩⟩,⟨?al,fun h6=>(show ∀{a0:Prop},a0->a0/\a0 from fun g0=>⟨g0,g0⟩) (⟨?am,fun h7=>⟨?an,?ao⟩⟩)⟩⟩⟩) (fun h5=>⟨?ap,?aq,?ar,⟨⟨?au,fun h6=>⟨?av,fun h7=>⟨?aw,?ax⟩⟩⟩,⟨?ay,fun h6=>(show ∀{a0:Prop},a0->a0/\a0 from fun g0=>⟨g0,g0⟩) (⟨?az,fun h7=>⟨?b0,?b1⟩⟩)⟩⟩⟩)⟩,fun h4 =>?b2⟩⟩⟩⟩⟩⟩⟩⟩⟩⟩⟩⟩
 case a|g|n|v|a8|aa|ad=>have:=S7 q_0;omega
 case b|c|h|i|o|p|w|x|a9|ab|ac=>exact⟨_,by(simp_all <;> omega),⟨rfl,ba⟩,(by trivial)⟩
 case d|j|q|r|y|z|ae|af|ag|ap|aq|ar=>simp_all
 case e|l|t|a2|a6|aj|an|aw|b0=>exact⟨rfl,by simp only[b3];omega⟩
 case f|m|u|a3|a7|ak|ao|ax|b1|b2=>
  refine⟨rfl,rfl,rfl,rfl,ba,?_,rfl⟩
  first
  |(rw[M6 q_0 (q_1.1 ‹_›)];rfl)
  |(rw[M7 q_0 (l6 q_1 ‹_›) (q_2.1 ‹_›)];rfl)
  |(rw[PO q_0 (l6 q_1 ‹_›) (l6 q_2 ‹_›) (q_3.1 ‹_›)];rfl)
  |(rw[M8 q_0 (l6 q_1 ‹_›) (l6 q_2 ‹_›) (l6 q_3 ‹_›) (q_4.1 ‹_›)];rfl)
  |(rw[EL q_0 (l6 q_1 ‹_›) (l6 q_2 ‹_›) (l6 q_3 ‹_›) (l6 q_4 ‹_›) (q_5.1 ‹_›) (k:=3) (if_pos ‹_›).symm];rfl)
  |(rw[EL q_0 (l6 q_1 ‹_›) (l6 q_2 ‹_›) (l6 q_3 ‹_›) (l6 q_4 ‹_›) (q_5.1 ‹_›) (k:=2) (if_neg ‹_›).symm];rfl)
  |(rw[M9 q_0 (l6 q_1 ‹_›) (l6 q_2 ‹_›) (l6 q_3 ‹_›) (l6 q_4 ‹_›) (l6 q_5 ‹_›)];rfl)
 case k|a0|a4|ah|al|au|ay=>have:=Le q_0 1;omega
 case s|a1|a5|ai|am|av|az=>have:=Le q_0 2;omega
def Tryz.T0:bX Tryz.prog Tryz.B.eT Tryz.X 53 false (aU Tryz.o1 [.obj 0,.d .str,.obj 5] (fun a x=>a.1.length<=1000000/\x.2.1.length<=1000000/\x.2.2.1.length<=1000000/\x.2.2.2.1.length<=1000000/\x.2.2.2.2.1.length<=1000000) Tryz.Bh):=
 bE (X:=Tryz.X) Tryz.Ri Tryz.func53 (by kernel_rfl) (fun(a:CD [.obj 0,.d .str,.obj 5]) (x:PD Tryz.o1)=>LJ a.1 x.2.1 x.2.2.1 x.2.2.2.1 x.2.2.2.2.1 x.2.2.2.2.2.1.1) (fun(a:CD [.obj 0,.d .str,.obj 5]) (x:PD Tryz.o1) hw hp=>TZ a.1 x.2.1 x.2.2.1 x.2.2.2.1 x.2.2.2.2.1 x.2.2.2.2.2.1.1 hw hp)
def T3(n:Int)(hw:gA [.int .i64] n):(dG Tryz.B [] Tryz.f104 [] [.int .i64] [.bool] (fun x y=>y=(fun n=>ib n) x) n).holds:=by
 refine holds_of (p:=
  ((decide (n>=(-2147483648:Int)))=true->decide (n<=2147483647)=ib n)/\((decide (n>=(-2147483648:Int)))=false->false=ib n)) (by kernel_rfl) ?_
 refine iE (fun h0 =>?a) (fun h0 =>?b)
 case a|b=>unfold ib;rw[dy];simp;omega
def Tryz.IX:bW Tryz.prog Tryz.B.eT Tryz.X 104 [.int .i64] [.bool] (fun _=>True) (fun x y=>y=(fun n=>ib n) x):=
 cC (X:=Tryz.X) (bR Tryz.bQ) Tryz.func104 (by kernel_rfl) (fun _=>[]) (fun x hw hp=>T3 x hw)
def Fp(l:List (List UInt8))(s:List UInt8):dO:=[(0,fun st=>{X:=Nat,inv:=fun i=>i<=l.length/\∀j,j<i->nth .str l j≠s,cA:=fun i=>l.length-i,bK:=fun i=>[(8,sI i)],keep:=[0,1,7]})]
def Rj(l:List (List UInt8))(s:List UInt8)(hw:gA [.slice .str,.str] (l,s)):(dG Tryz.B [] Tryz.f55 (Fp l s) [.slice .str,.str] [.int .i64] (fun x y=>(y= -1/\∀j,j<x.1.length->nth .str x.1 j≠x.2)\/(0<=y/\y.toNat<x.1.length/\nth .str x.1 y.toNat=x.2)) (l,s)).holds:=by
 refine holds_of (p:=
  let za:=bb l
  let zb:=(-1:Int)
  let zc:=∀(j:Nat),j<za->nth Ty.str l j≠s
  za<=aL->(∃(x:Nat),(x<=za/\∀(j:Nat),j<x->nth Ty.str l j≠s)/\(0=(↑x:Int)/\True)/\True)/\∀F:Nat,(F<=za/\∀(j:Nat),j<F->nth Ty.str l j≠s)->((decide ((↑F:Int)<(↑za:Int)))=true->(0<=(↑F:Int)/\(↑F:Int)<(↑za:Int))/\((s == nth Ty.str l F)=true->(↑F:Int)=zb/\zc\/0<=(↑F:Int)/\F<za/\nth Ty.str l F=s)/\((s == nth Ty.str l F)=false->aJ (↑F:Int)->aJ 1->aJ ((↑F:Int)+1)/\∃(x':Nat),(x'<=za/\∀(j:Nat),j<x'->nth Ty.str l j≠s)/\za-x'<za-F/\((↑F:Int)+1=(↑x':Int)/\True)/\True))/\((decide ((↑F:Int)<(↑za:Int)))=false->zb=zb/\zc\/0<=zb/\bd zb<za/\nth Ty.str l (bd zb)=s)) (by kernel_rfl) ?_
 dsimp -iota -proj -eta only;exact fun h0=>⟨(⟨0,⟨by omega,fun j hj=>by omega⟩,⟨rfl,ba⟩,ba⟩),fun F q_0=>iL (fun h1=>⟨(by omega),iQ (fun h2=>(by simp_all)) (fun h2 h3 h4=>⟨(by simp only[aJ,aL]at*;omega),(⟨F+1,⟨by omega,lX q_0.2 fun e=>(by assumption:¬_) e.symm⟩,by omega,⟨by omega,ba⟩,(by trivial)⟩)⟩)⟩) (fun h1=>(.inl ⟨rfl,fun j hj=>q_0.2 j (by omega)⟩))⟩
def Tryz.Rl:bW Tryz.prog Tryz.B.eT Tryz.X 55 [.slice .str,.str] [.int .i64] (fun _=>True) (fun x y=>(y= -1/\∀j,j<x.1.length->nth .str x.1 j≠x.2)\/(0<=y/\y.toNat<x.1.length/\nth .str x.1 y.toNat=x.2)):=
 cC (X:=Tryz.X) (bR Tryz.bQ) Tryz.func55 (by kernel_rfl) (fun x=>Fp x.1 x.2) (fun x hw hp=>Rj x.1 x.2 hw)
def Tryz.Fq:List (FuncId×(Bool×aT)):=[(55,(true,pX [.slice .str,.str] [.int .i64] (fun _=>True) (fun x y=>(y= -1/\∀j,j<x.1.length->nth .str x.1 j≠x.2)\/(0<=y/\y.toNat<x.1.length/\nth .str x.1 y.toNat=x.2))))]
def Tryz.Kp:bO Tryz.prog Tryz.B Tryz.X Tryz.Fq:=
 aN (ij Tryz.Rl) (bR Tryz.bQ)
def IY(l:List (List UInt8))(s:List UInt8)(hw:gA [.slice .str,.str] (l,s)):(dG Tryz.B Tryz.Fq Tryz.f36 [] [.slice .str,.str] [.bool] (fun x y=>y=(fun x=>x.1.any (· == x.2)) x) (l,s)).holds:=by
 refine holds_of (p:=
  True/\∀F:Int,((F=(-1:Int)/\∀(j:Nat),j<bb l->nth Ty.str l j≠s)\/0<=F/\bd F<bb l/\nth Ty.str l (bd F)=s)->decide (F>=0)=c8 l fun(x:List UInt8)=>x == s) (by kernel_rfl) ?_
 exact⟨ba,fun F q_0=>(contains_of q_0)⟩
def Tryz.xU:bW Tryz.prog Tryz.B.eT Tryz.X 36 [.slice .str,.str] [.bool] (fun _=>True) (fun x y=>y=(fun x=>x.1.any (· == x.2)) x):=
 cC (X:=Tryz.X) Tryz.Kp Tryz.func36 (by kernel_rfl) (fun _=>[]) (fun x hw hp=>IY x.1 x.2 hw)
def Tryz.Fs:List (FuncId×(Bool×aT)):=[(123,(false,gu Tryz.B [] Tryz.f123 []))]
def Tryz.Kq:bO Tryz.prog Tryz.B Tryz.X Tryz.Fs:=
 aN (eP (bR Tryz.bQ) Tryz.func123 (by kernel_rfl) []) (bR Tryz.bQ)
def Ft:dO:=[(0,fun st=>{X:=Nat,inv:=fun i=>i<=(cZ (.slice aS) st 0).length/\∀j,j<i->(nth aS (cZ (.slice aS) st 0) j).1≠(Sv aS st (Mx st 1 0)).1,cA:=fun i=>(cZ (.slice aS) st 0).length-i,bK:=fun i=>[(8,sI i)],keep:=[0,1,7]})]
def Tryz.LK:List (FuncId×(Bool×aT)):=[(138,(false,gu Tryz.B Tryz.Fs Tryz.f138 Ft))]
def Tryz.Rm:bO Tryz.prog Tryz.B Tryz.X Tryz.LK:=
 aN (eP Tryz.Kq Tryz.func138 (by kernel_rfl) Ft) (bR Tryz.bQ)
def Tryz.LL:List (FuncId×(Bool×aT)):=[(45,Tryz.spZ0),(17,Tryz.spZ1),(122,(false,gu Tryz.B Tryz.LK Tryz.f122 []))]
def Tryz.Rn:bO Tryz.prog Tryz.B Tryz.X Tryz.LL:=
 aN (aE Tryz.jm) (aN (aE Tryz.ir) (aN (eP Tryz.Rm Tryz.func122 (by kernel_rfl) []) (bR Tryz.bQ)))
def CU(o:D aB):dO:=[(0,fun st=>{X:=Nat,inv:=fun i=>kP o.2.1.length o.2.2.1 i,cA:=fun i=>o.2.2.1.length-i,bK:=fun i=>[(9,sI i)],keep:=[1,7,8]})]
def Kr(o:D aB)(hw:gA [aB] o):(dG Tryz.B Tryz.LL Tryz.f105 (CU o) [aB] [.err] (fun x y=>y=(fun o=>aI (ic o.2.1.length [] o.2.2.1)) x) o).holds:=by
 refine holds_of (p:=
  let za:=o.2.2.1
  let zb:=bb za
  let zc:=bb o.2.1
  let zd:=fun(F:Nat)=>(↑F:Int)
  let ze:=fun(F:Nat)=>(0:Int)<=zd F
  let zf:=fun(F:Nat)=>(nth aS za F).1
  let zg:=aI (ic zc (@bc (List UInt8×Int×Bool×Unit)) za)
  let zh:=fun(F:Nat)=>(nth aS za F).2.1
  let zi:=aK.no (1:Int)=zg
  let zj:=fun(F:Nat)=>bj 0 (bf F za)
  let zk:=fun(F:Nat)=>bb (zj F)
  let zl:=aK.no (3:Int)=zg
  let zm:=(o.1=o.1/\o.2.1=o.2.1/\za=za/\o.2.2.2.1=o.2.2.2.1/\True)/\True
  let zn:=fun(F:Nat)=>aJ (zd F)->aJ (1:Int)->aJ (zd F+(1:Int))/\∃(x':Nat),kP zc za x'/\zb-x'<zb-F/\(zd F+(1:Int)=(↑x':Int)/\True)/\zm
  zb<=aL->(∃(x:Nat),kP zc za x/\((0:Int)=(↑x:Int)/\True)/\True)/\∀F:Nat,kP zc za F->((decide (zd F<(↑zb:Int)))=true->(ze F/\zd F<(↑zb:Int))/\True/\((!aK.isNil (aI (aP (zf F))))=true->aI (aP (zf F))=zg)/\((!aK.isNil (aI (aP (zf F))))=false->((decide (zh F<(0:Int)))=true->zi)/\((decide (zh F<(0:Int)))=false->zc<=aL->((decide (zh F>=(↑zc:Int)))=true->zi)/\((decide (zh F>=(↑zc:Int)))=false->((0:Int)<=(0:Int)/\ze F/\zd F<=(↑zb:Int))/\(zk F<=aL->(∃(x:Nat),(x<=zk F/\∀(j:Nat),j<x->(nth aS (zj F) j).1≠zf F)/\((0:Int)=(↑x:Int)/\True)/\True)/\∀I:Nat,(I<=zk F/\∀(j:Nat),j<I->(nth aS (zj F) j).1≠zf F)->((decide (zd I<(↑(zk F):Int)))=true->(ze I/\zd I<(↑(zk F):Int))/\(((nth aS (zj F) I).1 == zf F)=true->((decide (zd I>=(0:Int)))=true->zl)/\((decide (zd I>=(0:Int)))=false->zn F))/\(((nth aS (zj F) I).1 == zf F)=false->aJ (zd I)->aJ (1:Int)->aJ (zd I+(1:Int))/\∃(x':Nat),(x'<=zk F/\∀(j:Nat),j<x'->(nth aS (zj F) j).1≠zf F)/\zk F-x'<zk F-I/\(zd I+(1:Int)=(↑x':Int)/\True)/\(zf F=zf F/\zh F=zh F/\(nth aS za F).2.2.1=(nth aS za F).2.2.1/\True)/\zm))/\((decide (zd I<(↑(zk F):Int)))=false->((decide ((-1:Int)>=(0:Int)))=true->zl)/\((decide ((-1:Int)>=(0:Int)))=false->zn F)))))))/\((decide (zd F<(↑zb:Int)))=false->aK.nil=zg)) (by kernel_rfl) ?_
 dsimp -iota -proj -eta only;refine fun h0=>⟨(⟨0,.zero _ _,⟨rfl,ba⟩,ba⟩),fun F q_0=>iL (fun h1=>⟨?a,ba,iB (fun h2=>(by rw[q_0.fault (by omega) (mY (eU _) h2)])) (fun h2=>iL (fun h3=>(by rw[q_0.out (by omega) (dF h2) (.inl (by omega))];rfl)) (fun h3 h4=>iE (fun h5=>(by rw[q_0.out (by omega) (dF h2) (.inr (by omega))];rfl)) (fun h5=>⟨?b,fun h6=>⟨(⟨0,⟨by omega,fun j hj=>by omega⟩,⟨rfl,ba⟩,ba⟩),fun I q_1=>iL (fun h7=>⟨?c,iQ (fun h8=>⟨fun h9=>(by rw[EB q_0.le]at h7;rw[EA (i:=F) (j:=I) (by omega)]at h8;rw[q_0.dup (by omega) (dF h2) (fun h=>h.elim (fun h=>absurd h (Int.not_lt.2 h3)) (fun h=>absurd h (Int.not_le.2 h5))) (Hf (t:=aS) (j:=I) (by omega) q_0.le (by simpa using h8))];rfl),fun h9=>absurd (show true=false from h9) (by decide)⟩) (fun h8 h9 h10=>⟨?d,(⟨I+1,⟨by omega,lX q_1.2 ‹_›⟩,by omega,⟨by omega,ba⟩,(by trivial)⟩)⟩)⟩) (fun h7=>⟨fun h8=>absurd (show false=true from h8) (by decide),fun h8 h9 h10=>⟨?e,(by have hx:=EB q_0.le;exact⟨F+1,q_0.next (by omega) (dF h2) (fun h=>h.elim (fun h=>absurd h (Int.not_lt.2 h3)) (fun h=>absurd h (Int.not_le.2 h5))) (Eo (t:=aS) fun j hj=>by have:=q_1.2 j (by omega);rw[EA hj]at this;simpa using this),by omega,⟨by omega,ba⟩,(by trivial)⟩)⟩⟩)⟩⟩)))⟩) (fun h1=>(by rw[q_0.done (by omega)];rfl))⟩
 case a|b|c=>omega
 case d|e=>simp only[aJ,aL]at*;omega
def Tryz.Ks:bW Tryz.prog Tryz.B.eT Tryz.X 105 [aB] [.err] (fun _=>True) (fun x y=>y=(fun o=>aI (ic o.2.1.length [] o.2.2.1)) x):=
 cC (X:=Tryz.X) Tryz.Rn Tryz.func105 (by kernel_rfl) (fun x=>CU x) (fun x hw hp=>Kr x hw)
def Tryz.spZ25:Bool×aT:=(true,cB [.int .i64] [.bool] (fun _=>True) (fun n=>ib n))
def Tryz.LM:List (FuncId×(Bool×aT)):=[(45,Tryz.spZ0),(17,Tryz.spZ1),(104,Tryz.spZ25)]
def Tryz.Ro:bO Tryz.prog Tryz.B Tryz.X Tryz.LM:=
 aN (aE Tryz.jm) (aN (aE Tryz.ir) (aN (aE Tryz.IX) (bR Tryz.bQ)))
def LN(o:D aB):dO:=[(0,fun st=>{X:=Nat,inv:=fun i=>nH o.2.1.length o.2.2.2.1 i,cA:=fun i=>o.2.2.2.1.length-i,bK:=fun i=>[(9,sI i)],keep:=[1,7,8]})]
def T4(o:D aB)(hw:gA [aB] o):(dG Tryz.B Tryz.LM Tryz.f106 (LN o) [aB] [.err] (fun x y=>y=(fun o=>aI (kO o.2.1.length none o.2.2.2.1)) x) o).holds:=by
 refine holds_of (p:=
  let za:=o.2.2.2.1
  let zb:=bb za
  let zc:=bb o.2.1
  let zd:=fun(F:Nat)=>(↑F:Int)
  let ze:=fun(F:Nat)=>(nth bD za F).1
  let zf:=aI (kO zc none za)
  let zg:=aK.no 1=zf
  let zh:=fun(F:Nat)=>(nth bD za F).2.1
  let zi:=aK.no 3=zf
  let zj:=fun(F:Nat)=>zd F-1
  let zk:=fun(F:Nat)=>aJ (zd F)->aJ 1->aJ (zd F+1)/\∃(x':Nat),nH zc za x'/\zb-x'<zb-F/\(zd F+1=(↑x':Int)/\True)/\(o.1=o.1/\o.2.1=o.2.1/\o.2.2.1=o.2.2.1/\za=za/\True)/\True
  let zl:=fun(F:Nat)=>aI (aP (nth bD za F).2.2.2.1)
  let zm:=fun(F:Nat)=>((zh F == 1)=true->((!(nth bD za F).2.2.2.1 == @bc UInt8)=true->zi)/\((!(nth bD za F).2.2.2.1 == @bc UInt8)=false->(((nth bD za F).2.2.2.2.1)=true->zi)/\(((nth bD za F).2.2.2.2.1)=false->zk F)))/\((zh F == 1)=false->True/\((!aK.isNil (zl F))=true->zl F=zf)/\((!aK.isNil (zl F))=false->zk F))
  zb<=aL->(∃(x:Nat),nH zc za x/\(0=(↑x:Int)/\True)/\True)/\∀F:Nat,nH zc za F->((decide (zd F<(↑zb:Int)))=true->(0<=zd F/\zd F<(↑zb:Int))/\((decide (ze F<0))=true->zg)/\((decide (ze F<0))=false->zc<=aL->((decide (ze F>=(↑zc:Int)))=true->zg)/\((decide (ze F>=(↑zc:Int)))=false->True/\((!ib (nth bD za F).2.2.1)=true->zg)/\((!ib (nth bD za F).2.2.1)=false->((decide (zh F<1))=true->zi)/\((decide (zh F<1))=false->((decide (zh F > 3))=true->zi)/\((decide (zh F > 3))=false->((decide (zd F > 0))=true->aJ (zd F)->aJ 1->aJ (zj F)/\(0<=zj F/\zj F<(↑zb:Int))/\((decide ((nth bD za (bd (zj F))).1>=ze F))=true->zi)/\((decide ((nth bD za (bd (zj F))).1>=ze F))=false->zm F))/\((decide (zd F > 0))=false->zm F)))))))/\((decide (zd F<(↑zb:Int)))=false->aK.nil=zf)) (by kernel_rfl) ?_
 dsimp -iota -proj -eta only;refine fun h0=>⟨(⟨0,.zero _ _,⟨rfl,ba⟩,ba⟩),fun F q_0=>iL (fun h1=>⟨?a,iL (fun h2 =>?b) (fun h2 h3=>iE (fun h4 =>?c) (fun h4=>⟨ba,iB (fun h5 =>?d) (fun h5=>iL (fun h6 =>?e) (fun h6=>iL (fun h7 =>?f) (fun h7=>iL (fun h8 h9 h10=>⟨?g,?h,iE (fun h11 =>?i) (fun h11=>iQ (fun h12=>⟨fun h13 =>?j,fun h13=>⟨fun h14 =>?k,fun h14 h15 h16=>⟨?l,?m⟩⟩⟩) (fun h12=>⟨ba,iB (fun h13=>(by rw[q_0.fault (by omega) (f:=aP (nth bD o.2.2.2.1 F).2.2.2.1) (by unfold mX oC oe;grind) (by have:=mY (eU _) h13;omega)])) (fun h13 h14 h15=>⟨?n,(by have:=aQ.1 h13;exact⟨F+1,q_0.next (by omega) (by unfold mX oC oe;grind),by omega,⟨by omega,ba⟩,(by trivial)⟩)⟩)⟩))⟩) (fun h8=>iQ (fun h9=>⟨fun h10 =>?o,fun h10=>⟨fun h11 =>?p,fun h11 h12 h13=>⟨?q,?r⟩⟩⟩) (fun h9=>⟨ba,iB (fun h10=>(by rw[q_0.fault (by omega) (f:=aP (nth bD o.2.2.2.1 F).2.2.2.1) (by unfold mX oC oe;grind) (by have:=mY (eU _) h10;omega)])) (fun h10 h11 h12=>⟨?s,(by have:=aQ.1 h10;exact⟨F+1,q_0.next (by omega) (by unfold mX oC oe;grind),by omega,⟨by omega,ba⟩,(by trivial)⟩)⟩)⟩)))))⟩))⟩) (fun h1=>(by rw[q_0.done (by omega)];rfl))⟩
 case a|h=>omega
 case b|c|d=>rw[q_0.fault (by omega) (f:=1) (by unfold mX;grind) (by decide)];rfl
 case e|f|i=>rw[q_0.fault (by omega) (f:=3) (by unfold mX oC oe;grind) (by decide)];rfl
 case g|n|s=>simp only[aJ,aL]at*;omega
 case j|k=>
  simp only[bl,reduceCtorEq]at h13;rw[q_0.fault (by omega) (f:=3) (by unfold mX oC oe;grind) (by decide)];rfl
 case l=>
  simp only[bl,reduceCtorEq]at h13;simp only[aJ,aL]at*;omega
 case m=>
  simp only[bl,reduceCtorEq]at h13;exact⟨F+1,q_0.next (by omega) (by unfold mX oC oe;grind),by omega,⟨by omega,ba⟩,(by trivial)⟩
 case o|p=>
  simp only[bl,reduceCtorEq]at h10;rw[q_0.fault (by omega) (f:=3) (by unfold mX oC oe;grind) (by decide)];rfl
 case q=>
  simp only[bl,reduceCtorEq]at h10;simp only[aJ,aL]at*;omega
 case r=>
  simp only[bl,reduceCtorEq]at h10;exact⟨F+1,q_0.next (by omega) (by unfold mX oC oe;grind),by omega,⟨by omega,ba⟩,(by trivial)⟩
def Tryz.T5:bW Tryz.prog Tryz.B.eT Tryz.X 106 [aB] [.err] (fun _=>True) (fun x y=>y=(fun o=>aI (kO o.2.1.length none o.2.2.2.1)) x):=
 cC (X:=Tryz.X) Tryz.Ro Tryz.func106 (by kernel_rfl) (fun x=>LN x) (fun x hw hp=>T4 x hw)
def Tryz.spZ26:Bool×aT:=(true,cB [.slice .str,.str] [.bool] (fun _=>True) (fun x=>x.1.any (· == x.2)))
def Tryz.Fu:List (FuncId×(Bool×aT)):=[(45,Tryz.spZ0),(17,Tryz.spZ1),(36,Tryz.spZ26),(104,Tryz.spZ25),(105,(true,cB [aB] [.err] (fun _=>True) (fun o=>aI (ic o.2.1.length [] o.2.2.1)))),(106,(true,cB [aB] [.err] (fun _=>True) (fun o=>aI (kO o.2.1.length none o.2.2.2.1))))]
def Tryz.Kt:bO Tryz.prog Tryz.B Tryz.X Tryz.Fu:=
 aN (aE Tryz.jm) (aN (aE Tryz.ir) (aN (aE Tryz.xU) (aN (aE Tryz.IX) (aN (aE Tryz.Ks) (aN (aE Tryz.T5) (bR Tryz.bQ))))))
def Fv(o:D aB):dO:=[
 (0,fun st=>{X:=Nat,inv:=fun i=>kd o.1 i,cA:=fun i=>o.1.length-i,bK:=fun i=>[(41,sI i)],keep:=[1,39,40]}),
 (2,fun st=>{X:=Nat,inv:=fun i=>ly o.2.1 i,cA:=fun i=>o.2.1.length-i,bK:=fun i=>[(62,sI i)],keep:=[1,60,61]})]
def Rp(o:D aB)(hw:gA [aB] o):(dG Tryz.B Tryz.Fu Tryz.f83 (Fv o) [aB] [.err] (fun x y=>y=(fun o=>aI (dA o)) x) o).holds:=by
 refine holds_of (p:=
  let za:=bb o.1
  let zb:=(↑za:Int)
  let zc:=aI (dA o)
  let zd:=aK.no (2:Int)=zc
  let ze:=o.2.1
  let zf:=bb ze
  let zg:=zf<=aL
  let zh:=(↑zf:Int)
  let zi:=o.2.2.1
  let zj:=o.2.2.2.1
  let zk:=fun(F:Nat)=>(↑F:Int)
  let zl:=fun(F:Nat)=>(0:Int)<=zk F
  let zm:=fun(F:Nat)=>aI (aP (nth Ty.str o.1 F))
  let zn:=(o.1=o.1/\ze=ze/\zi=zi/\zj=zj/\True)/\True
  let zo:=aI (ic zf (@bc (List UInt8×Int×Bool×Unit)) zi)
  za<=aL->((decide (zb > (4:Int)))=true->zd)/\((decide (zb > (4:Int)))=false->zg->((decide (zh<(1:Int)))=true->zd)/\((decide (zh<(1:Int)))=false->zg->((decide (zh > (40:Int)))=true->zd)/\((decide (zh > (40:Int)))=false->bb zi<=aL->((decide ((↑(bb zi):Int) > (8:Int)))=true->zd)/\((decide ((↑(bb zi):Int) > (8:Int)))=false->bb zj<=aL->((decide ((↑(bb zj):Int) > (6:Int)))=true->zd)/\((decide ((↑(bb zj):Int) > (6:Int)))=false->za<=aL->(∃(x:Nat),kd o.1 x/\((0:Int)=(↑x:Int)/\True)/\True)/\∀F:Nat,kd o.1 F->((decide (zk F<zb))=true->(zl F/\zk F<zb)/\True/\((!aK.isNil (zm F))=true->zm F=zc)/\((!aK.isNil (zm F))=false->((0:Int)<=(0:Int)/\zl F/\zk F<=zb)/\True/\((c8 (bj 0 (bf F o.1)) fun(x:List UInt8)=>x == nth Ty.str o.1 F)=true->aK.no (3:Int)=zc)/\((c8 (bj 0 (bf F o.1)) fun(x:List UInt8)=>x == nth Ty.str o.1 F)=false->aJ (zk F)->aJ (1:Int)->aJ (zk F+(1:Int))/\∃(x':Nat),kd o.1 x'/\za-x'<za-F/\(zk F+(1:Int)=(↑x':Int)/\True)/\zn)))/\((decide (zk F<zb))=false->zg->(∃(x:Nat),ly ze x/\((0:Int)=(↑x:Int)/\True)/\True)/\∀I:Nat,ly ze I->((decide (zk I<zh))=true->(zl I/\zk I<zh)/\True/\((!ib (nth (Ty.int bm) ze I))=true->aK.no (1:Int)=zc)/\((!ib (nth (Ty.int bm) ze I))=false->aJ (zk I)->aJ (1:Int)->aJ (zk I+(1:Int))/\∃(x':Nat),ly ze x'/\zf-x'<zf-I/\(zk I+(1:Int)=(↑x':Int)/\True)/\zn))/\((decide (zk I<zh))=false->True/\((!aK.isNil zo)=true->zo=zc)/\((!aK.isNil zo)=false->True/\aI (kO zf none zj)=zc))))))))) (by kernel_rfl) ?_
 dsimp -iota -proj -eta only;refine fun h0=>iL (fun h1 =>?a) (fun h1 h2=>iL (fun h3 =>?b) (fun h3 h4=>iL (fun h5 =>?c) (fun h5 h6=>iL (fun h7 =>?d) (fun h7 h8=>iL (fun h9 =>?e) (fun h9 h10=>⟨?f,fun F q_0=>iL (fun h11=>⟨?g,ba,iB (fun h12=>(by have hf:=mY (eU _) h12;rw[w8 (by unfold lY;omega) (q_0.fault (by omega) hf) (by omega)])) (fun h12=>⟨?h,ba,⟨fun h13=>(by rw[c6]at h13;rw[w8 (by unfold lY;omega) (q_0.dup (by omega) (dF h12) h13) (by decide)];rfl),fun h13 h14 h15=>⟨?i,(by rw[c6]at h13;exact⟨F+1,q_0.next (by omega) (dF h12) h13,by omega,⟨by omega,ba⟩,(by trivial)⟩)⟩⟩⟩)⟩) (fun h11 h12=>⟨?j,fun I q_1=>iL (fun h13=>⟨?k,ba,iB (fun h14=>(by rw[Hg (by unfold lY;omega) (q_0.done (by omega)) (q_1.fault (by omega) h14) (by decide)];rfl)) (fun h14 h15 h16=>⟨?l,(⟨I+1,q_1.next (by omega) h14,by omega,⟨by omega,ba⟩,(by trivial)⟩)⟩)⟩) (fun h13=>⟨ba,iB (fun h14=>(by have hf:=mY (w7 _ _ _) h14;rw[JQ (by unfold lY;omega) (q_0.done (by omega)) (q_1.done (by omega)) rfl (by omega)])) (fun h14=>⟨ba,(by rw[JR (by unfold lY;omega) (q_0.done (by omega)) (q_1.done (by omega)) (aQ.1 h14) rfl])⟩)⟩)⟩)⟩)))))
 case a|b|c|d|e=>rw[JP (by unfold lY;omega)];rfl
 case f|j=>exact⟨0,.zero _,⟨rfl,ba⟩,ba⟩
 case g|h|k=>omega
 case i|l=>simp only[aJ,aL]at*;omega
def Tryz.Rq:bW Tryz.prog Tryz.B.eT Tryz.X 83 [aB] [.err] (fun _=>True) (fun x y=>y=(fun o=>aI (dA o)) x):=
 cC (X:=Tryz.X) Tryz.Kt Tryz.func83 (by kernel_rfl) (fun x=>Fv x) (fun x hw hp=>Rp x hw)
def N7(b:Bool)(hw:gA [.bool] b):(dG Tryz.B [] Tryz.f86 [] [.bool] [.str] (fun x y=>y=(fun b=>iH b) x) b).holds:=by
 refine holds_of (p:=
  (b=true->[119,101,97,107,32]=iH b)/\(b=false->(@bc UInt8=iH b))) (by kernel_rfl) ?_
 refine⟨fun h0 =>?a,fun h0 =>?b⟩
 case a|b=>cases b <;> first|rfl|simp_all
def Tryz.N8:bW Tryz.prog Tryz.B.eT Tryz.X 86 [.bool] [.str] (fun _=>True) (fun x y=>y=(fun b=>iH b) x):=
 cC (X:=Tryz.X) (bR Tryz.bQ) Tryz.func86 (by kernel_rfl) (fun _=>[]) (fun x hw hp=>N7 x hw)
def Tryz.IZ:List (FuncId×(Bool×aT)):=[(45,Tryz.spZ0),(17,Tryz.spZ1),(85,(false,rY 169 5)),(88,(false,qJ 169 5)),(87,(true,wS 169 5)),(84,Tryz.spZ2),(83,(true,cB [aB] [.err] (fun _=>True) (fun o=>aI (dA o)))),(86,(true,cB [.bool] [.str] (fun _=>True) (fun b=>iH b)))]
def Tryz.N9:bO Tryz.prog Tryz.B Tryz.X Tryz.IZ:=
 aN (aE Tryz.jm) (aN (aE Tryz.ir) (aN (Tryz.z7) (aN (Tryz.xO) (aN (Tryz.Fb) (aN (aE Tryz.oR) (aN (aE Tryz.Rq) (aN (aE Tryz.N8) (bR Tryz.bQ))))))))
def I0(o:D aB):dO:=[
 (0,fun st=>{X:=Nat,inv:=fun i=>i<=o.1.length,cA:=fun i=>o.1.length-i,bK:=fun i=>[(23,sI i)],keep:=[1,2,3,5,6,21,22],aF:=fun i=>[(bG st 5,.ext 2 ku (bI (pA o i),(169:Int),(5:Int),()))],gQ:=[bG st 5]}),
 (2,fun st=>{X:=Nat,inv:=fun i=>i<=o.2.1.length,cA:=fun i=>o.2.1.length-i,bK:=fun i=>[(35,sI i)],keep:=[1,2,3,5,6,33,34],aF:=fun i=>[(bG st 5,.ext 2 ku (bI (nS o i),(169:Int),(5:Int),()))],gQ:=[bG st 5]}),
 (4,fun st=>{X:=Nat,inv:=fun i=>i<=o.2.2.1.length,cA:=fun i=>o.2.2.1.length-i,bK:=fun i=>[(49,sI i)],keep:=[1,2,3,5,6,47,48],aF:=fun i=>[(bG st 5,.ext 2 ku (bI (nT o i),(169:Int),(5:Int),()))],gQ:=[bG st 5]}),
 (6,fun st=>{X:=Nat,inv:=fun i=>i<=o.2.2.2.1.length,cA:=fun i=>o.2.2.2.1.length-i,bK:=fun i=>[(72,sI i)],keep:=[2,3,5,6,70,71],aF:=fun i=>[(bG st 5,.ext 2 ku (bI (jx o i),(169:Int),(5:Int),()))],gQ:=[bG st 5]})]
def T6(o:D aB)(hw:gA [aB] o):(dG (lW Tryz.B [41,64,91,85,104,110,123,129]) Tryz.IZ Tryz.f54 (I0 o) [aB] [.str,.err] (fun x y=>y=(fun o=>kn o) x) o).holds:=by
 refine holds_of (p:=
  let za:=aI (dA o)
  let zb:=kn o
  let zc:=bb o.1
  let zd:=(↑(169:Nat):Int)
  let ze:=fun(b:UInt8)=>(↑(b6 b):Int)
  let zf:=((169:Int),(5:Int),())
  let zg:=fun(F:Nat)=>(↑F:Int)
  let zh:=fun(F:Nat)=>(0:Int)<=zg F
  let zi:=[(110:UInt8),101,101,100,32]
  let zj:=[(10:UInt8)]
  let zk:=bb zj
  let zl:=(169:Int)=zd
  let zm:=(↑(5:Nat):Int)
  let zn:=(5:Int)=zm
  let zo:=fun(F:Nat)=>bo ze (pA o F)
  let zp:=fun(F:Nat)=>zi++nth Ty.str o.1 F++zj
  let zq:=fun(F:Nat)=>aJ (zg F)
  let zr:=aJ (1:Int)
  let zs:=fun(F:Nat)=>zg F+(1:Int)
  let zt:=fun(F:Nat)=>aJ (zs F)
  let zu:=(zd,zm,())
  let zv:=o.2.1
  let zw:=o.2.2.1
  let zx:=o.2.2.2.1
  let zy:=(o.1=o.1/\zv=zv/\zw=zw/\zx=zx/\True)/\True
  let zz:=bb zv
  let zaa:=[(119:UInt8),111,114,100,32]
  let zab:=fun(I:Nat)=>zaa++bp (nth (Ty.int bm) zv I)
  let zac:=fun(I:Nat)=>bo ze (nS o I)
  let zad:=bb zw
  let zae:=fun(K:Nat)=>iH (nth aS zw K).2.2.1
  let zaf:=[(115:UInt8),121,109,98,111,108,32]
  let zag:=fun(K:Nat)=>zae K++zaf++(nth aS zw K).1
  let zah:=[(32:UInt8)]
  let zai:=bb zah
  let zaj:=fun(K:Nat)=>bp (nth aS zw K).2.1
  let zak:=fun(K:Nat)=>bo ze (nT o K)
  let zal:=fun(K:Nat)=>zag K++zah++zaj K++zj
  let zam:=bb zx
  let zan:=[(98:UInt8),97,115,101,32]
  let zao:=fun(M:Nat)=>bp (nth bD zx M).1
  let zap:=fun(M:Nat)=>bp (nth bD zx M).2.2.1
  let zaq:=fun(M:Nat)=>zan++zao M++zah++zap M
  let zar:=fun(M:Nat)=>bo ze (jx o M)
  let zas:=fun(M:Nat)=>bb (zar M)
  let zat:=fun(M:Nat)=>iH (nth bD zx M).2.2.2.2.1
  let zau:=[(119:UInt8),104,111,108,101,32]
  let zav:=fun(M:Nat)=>zat M++zau++zao M++zah
  let zaw:=fun(M:Nat)=>(nth bD zx M).2.2.2.1
  let zax:=fun(M:Nat)=>zav M++zap M++zah++zaw M
  let zay:=[(110:UInt8),101,97,114,32]
  let zaz:=fun(M:Nat)=>zat M++zay++zao M++zah
  let zba:=fun(M:Nat)=>zaz M++zap M++zah++zaw M
  True/\((!aK.isNil za)=true->([],za)=zb)/\((!aK.isNil za)=false->zc<=aL->(∃(x:Nat),x<=zc/\((0:Int)=(↑x:Int)/\True)/\([],zd,(↑(5:TypeId):Int),())=(bo ze (pA o x),zf)/\True)/\∀F:Nat,F<=zc->((decide (zg F<(↑zc:Int)))=true->(zh F/\zg F<(↑zc:Int))/\bb zi+bb (nth Ty.str o.1 F)<=aL/\bb (zi++nth Ty.str o.1 F)+zk<=aL/\(zl/\zn/\bb (zo F)+bb (zp F)<=(140737488355328:Nat))/\(zq F->zr->zt F/\∃(x':Nat),x'<=zc/\zc-x'<zc-F/\(zs F=(↑x':Int)/\True)/\(zo F++bo ze (zp F),zu)=(bo ze (pA o x'),zf)/\zy))/\((decide (zg F<(↑zc:Int)))=false->zz<=aL->(∃(x:Nat),x<=zz/\((0:Int)=(↑x:Int)/\True)/\(zo F,zf)=(bo ze (nS o x),zf)/\True)/\∀I:Nat,I<=zz->((decide (zg I<(↑zz:Int)))=true->(zh I/\zg I<(↑zz:Int))/\True/\bb zaa+bb (bp (nth (Ty.int bm) zv I))<=aL/\bb (zab I)+zk<=aL/\(zl/\zn/\bb (zac I)+bb (zab I++zj)<=(140737488355328:Nat))/\(zq I->zr->zt I/\∃(x':Nat),x'<=zz/\zz-x'<zz-I/\(zs I=(↑x':Int)/\True)/\(zac I++bo ze (zab I++zj),zu)=(bo ze (nS o x'),zf)/\zy))/\((decide (zg I<(↑zz:Int)))=false->zad<=aL->(∃(x:Nat),x<=zad/\((0:Int)=(↑x:Int)/\True)/\(zac I,zf)=(bo ze (nT o x),zf)/\True)/\∀K:Nat,K<=zad->((decide (zg K<(↑zad:Int)))=true->(zh K/\zg K<(↑zad:Int))/\True/\bb (zae K)+bb zaf<=aL/\bb (zae K++zaf)+bb (nth aS zw K).1<=aL/\bb (zag K)+zai<=aL/\True/\bb (zag K++zah)+bb (zaj K)<=aL/\bb (zag K++zah++zaj K)+zk<=aL/\(zl/\zn/\bb (zak K)+bb (zal K)<=(140737488355328:Nat))/\(zq K->zr->zt K/\∃(x':Nat),x'<=zad/\zad-x'<zad-K/\(zs K=(↑x':Int)/\True)/\(zak K++bo ze (zal K),zu)=(bo ze (nT o x'),zf)/\zy))/\((decide (zg K<(↑zad:Int)))=false->zam<=aL->(∃(x:Nat),x<=zam/\((0:Int)=(↑x:Int)/\True)/\(zak K,zf)=(bo ze (jx o x),zf)/\True)/\∀M:Nat,M<=zam->((decide (zg M<(↑zam:Int)))=true->(zh M/\zg M<(↑zam:Int))/\(((nth bD zx M).2.1 == (1:Int))=true->True/\bb zan+bb (zao M)<=aL/\bb (zan++zao M)+zai<=aL/\True/\bb (zan++zao M++zah)+bb (zap M)<=aL/\bb (zaq M)+zk<=aL/\(zl/\zn/\zas M+bb (zaq M++zj)<=(140737488355328:Nat))/\(zq M->zr->zt M/\∃(x':Nat),x'<=zam/\zam-x'<zam-M/\(zs M=(↑x':Int)/\True)/\(zar M++bo ze (zaq M++zj),zu)=(bo ze (jx o x'),zf)/\zy))/\(((nth bD zx M).2.1 == (1:Int))=false->(((nth bD zx M).2.1 == (2:Int))=true->True/\bb (zat M)+bb zau<=aL/\True/\bb (zat M++zau)+bb (zao M)<=aL/\bb (zat M++zau++zao M)+zai<=aL/\True/\bb (zav M)+bb (zap M)<=aL/\bb (zav M++zap M)+zai<=aL/\bb (zav M++zap M++zah)+bb (zaw M)<=aL/\bb (zax M)+zk<=aL/\(zl/\zn/\zas M+bb (zax M++zj)<=(140737488355328:Nat))/\(zq M->zr->zt M/\∃(x':Nat),x'<=zam/\zam-x'<zam-M/\(zs M=(↑x':Int)/\True)/\(zar M++bo ze (zax M++zj),zu)=(bo ze (jx o x'),zf)/\zy))/\(((nth bD zx M).2.1 == (2:Int))=false->True/\bb (zat M)+bb zay<=aL/\True/\bb (zat M++zay)+bb (zao M)<=aL/\bb (zat M++zay++zao M)+zai<=aL/\True/\bb (zaz M)+bb (zap M)<=aL/\bb (zaz M++zap M)+zai<=aL/\bb (zaz M++zap M++zah)+bb (zaw M)<=aL/\bb (zba M)+zk<=aL/\(zl/\zn/\zas M+bb (zba M++zj)<=(140737488355328:Nat))/\(zq M->zr->zt M/\∃(x':Nat),x'<=zam/\zam-x'<zam-M/\(zs M=(↑x':Int)/\True)/\(zar M++bo ze (zba M++zj),zu)=(bo ze (jx o x'),zf)/\zy))))/\((decide (zg M<(↑zam:Int)))=false->(zl/\zn)/\((decide ((↑(zas M):Int) > (1200:Int)))=true->([],aK.no (2:Int))=zb)/\((decide ((↑(zas M):Int) > (1200:Int)))=false->(zl/\zn)/\(bytesOf (zar M),aK.nil)=zb))))))) (by kernel_rfl) ?_
 dsimp -iota -proj -eta only;refine⟨ba,iB (fun h0=>(by rw[EF (fun e=>by rw[aQ.2 e]at h0;cases h0)])) (fun h0 h1=>⟨(⟨0,by omega,⟨rfl,ba⟩,rfl,ba⟩),fun F q_0=>iL (fun h2=>⟨?a,?b,?c,?d,fun h3 h4=>⟨?e,(⟨F+1,by omega,by omega,⟨by omega,ba⟩,oO (Pv (by omega)),(by trivial)⟩)⟩⟩) (fun h2 h3=>⟨(⟨0,by omega,⟨rfl,ba⟩,AL (by rw[Py,show F=o.1.length by omega]),ba⟩),fun I q_1=>iL (fun h4=>⟨?f,ba,?g,?h,?i,fun h5 h6=>⟨?j,(⟨I+1,by omega,by omega,⟨by omega,ba⟩,oO (Pw (by omega)),(by trivial)⟩)⟩⟩) (fun h4 h5=>⟨(⟨0,by omega,⟨rfl,ba⟩,AL (by rw[Pz,show I=o.2.1.length by omega]),ba⟩),fun K q_2=>iL (fun h6=>⟨?k,ba,?l,?m,?n,ba,?o,?p,?q,fun h7 h8=>⟨?r,(⟨K+1,by omega,by omega,⟨by omega,ba⟩,oO (Px (by omega)),(by trivial)⟩)⟩⟩) (fun h6 h7=>⟨(⟨0,by omega,⟨rfl,ba⟩,AL (by rw[PA,show K=o.2.2.1.length by omega]),ba⟩),fun M q_3=>iL (fun h8=>⟨?s,iQ (fun h9=>⟨ba,?t,?u,ba,?v,?w,?x,fun h10 h11=>⟨?y,(⟨M+1,by omega,by omega,⟨by omega,ba⟩,oO (MO (by omega) h9),(by trivial)⟩)⟩⟩) (fun h9=>iQ (fun h10=>⟨ba,?z,ba,?a0,?a1,ba,?a2,?a3,?a4,?a5,?a6,fun h11 h12=>⟨?a7,(⟨M+1,by omega,by omega,⟨by omega,ba⟩,oO (MP (by omega) h9 h10),(by trivial)⟩)⟩⟩) (fun h10=>⟨ba,?a8,ba,?a9,?aa,ba,?ab,?ac,?ad,?ae,?af,fun h11 h12=>⟨?ag,(⟨M+1,by omega,by omega,⟨by omega,ba⟩,oO (MQ (by omega) h9 h10),(by trivial)⟩)⟩⟩))⟩) (fun h8=>⟨?ah,iL (fun h9=>(by rw[Cc (aQ.1 h0) (show M=_ by omega) (by simp only[bx]at h9;omega)])) (fun h9=>⟨?ai,(by rw[vh (aQ.1 h0) (show M=_ by omega) (by simp only[bx]at h9;omega)];exact congrArg (·,aK.nil) (u9 _))⟩)⟩)⟩)⟩)⟩)⟩)⟩
 case a|f|k|s=>omega
 case b|c=>have a:=ED (mZ (aQ.1 h0)) (i:=F) (by omega);simp only[bt,bw,bz,bx,aL];omega
 case d|i|q|x|a6|af=>exact⟨rfl,rfl,by first|(have a:=Hx (mZ (aQ.1 h0)) (i:=M) (by omega);simp only[bt,bw,bz,bx,aL];omega)|(have a:=Hw (mZ (aQ.1 h0)) (i:=K) (by omega);simp only[bt,bw,bz,bx,aL];omega)|(have a:=EE (mZ (aQ.1 h0)) (i:=I) (by omega);simp only[bt,bw,bz,bx,aL];omega)|(have a:=ED (mZ (aQ.1 h0)) (i:=F) (by omega);simp only[bt,bw,bz,bx,aL];omega)⟩
 case e|j|r|y|a7|ag=>simp only[aJ,aL]at*;omega
 case g|h=>have a:=EE (mZ (aQ.1 h0)) (i:=I) (by omega);simp only[bt,bw,bz,bx,aL];omega
 case l|m|n|o|p=>have a:=Hw (mZ (aQ.1 h0)) (i:=K) (by omega);simp only[bt,bw,bz,bx,aL];omega
 case t|u|v|w|z|a0|a1|a2|a3|a4|a5|a8|a9|aa|ab|ac|ad|ae=>have a:=Hx (mZ (aQ.1 h0)) (i:=M) (by omega);simp only[bt,bw,bz,bx,aL];omega
 case ah|ai=>trivial
def Tryz.T7:bW Tryz.prog Tryz.B.eT Tryz.X 54 [aB] [.str,.err] (fun _=>True) (fun x y=>y=(fun o=>kn o) x):=
 cC (B:=(lW Tryz.B [41,64,91,85,104,110,123,129])) (X:=Tryz.X) (bO.hint (l:=[41,64,91,85,104,110,123,129]) Tryz.N9) Tryz.func54 (by kernel_rfl) (fun x=>I0 x) (fun x hw hp=>T6 x hw)
def Tryz.I1:List (FuncId×(Bool×aT)):=[(84,Tryz.spZ2),(103,Tryz.spZ14),(81,Tryz.spZ15),(52,Tryz.spZ16),(51,Tryz.spZ17),(54,(true,cB [aB] [.str,.err] (fun _=>True) (fun o=>kn o))),(53,(false,aU Tryz.o1 [.obj 0,.d .str,.obj 5] (fun a x=>a.1.length<=1000000/\x.2.1.length<=1000000/\x.2.2.1.length<=1000000/\x.2.2.2.1.length<=1000000/\x.2.2.2.2.1.length<=1000000) Tryz.Bh))]
def Tryz.Oa:bO Tryz.prog Tryz.B Tryz.X Tryz.I1:=
 aN (aE Tryz.oR) (aN (aE Tryz.sh) (aN (aE Tryz.nq) (aN (aE Tryz.mr) (aN (aE Tryz.si) (aN (aE Tryz.T7) (aN (Tryz.T0) (bR Tryz.bQ)))))))
def I2(s:List UInt8):dO:=[(200000,fun st=>{X:=Nat×D aB×Bool,inv:=fun x=>lD (parts 10 (br s [10])) x.1 x.2.1 x.2.2,cA:=fun x=>bb (parts 10 (br s [10]))-x.1,bK:=fun x=>[(19,sI x.1)],keep:=[0,2,3,4,5,17,18],aM:=Tryz.o1,refs:=[(4,0),(5,5)],pd:=fun x=>PN x.2})]
def Rr(s:List UInt8)(hw:gA [.str] s):(dG Tryz.B Tryz.I1 Tryz.f35 (I2 s) [.str] [aB,.err] (fun x y=>y=(fun s=>og s) x) s).holds:=by
 refine holds_of (p:=
  let za:=([],[],[],[],())
  let zb:=og s
  let zc:=br s [(10:UInt8)]
  let zd:=parts (10:UInt8) zc
  let ze:=@bc (List UInt8)=@bc (List UInt8)
  let zf:=@bc Int=@bc Int
  let zg:=@bc (List UInt8×Int×Bool×Unit)=@bc (List UInt8×Int×Bool×Unit)
  let zh:=@bc (Int×Int×Int×List UInt8×Bool×Unit)=@bc (Int×Int×Int×List UInt8×Bool×Unit)
  let zi:=List UInt8
  let zj:=Nat×(List zi×List Int×List (zi×Int×Bool×Unit)×List (Int×Int×Int×zi×Bool×Unit)×Unit)×Bool
  let zk:=(ze/\zf/\zg/\zh/\True)/\zh/\zg/\zf/\ze/\True
  let zl:=!false
  let zm:=(zl&&(zl&&(zl&&(zl&&(zl&&true)))))=true
  let zn:=fun(F:Nat×(List (List UInt8)×List Int×List (List UInt8×Int×Bool×Unit)×List (Int×Int×Int×List UInt8×Bool×Unit)×Unit)×Bool)=>(↑F.1:Int)<(↑(bb zd):Int)
  let zo:=fun(F:Nat×(List (List UInt8)×List Int×List (List UInt8×Int×Bool×Unit)×List (Int×Int×Int×List UInt8×Bool×Unit)×Unit)×Bool)=>F.2.1.2.2.1
  let zp:=fun(F:Nat×(List (List UInt8)×List Int×List (List UInt8×Int×Bool×Unit)×List (Int×Int×Int×List UInt8×Bool×Unit)×Unit)×Bool)=>F.2.1.2.2.2.1
  let zq:=fun(F:Nat×(List (List UInt8)×List Int×List (List UInt8×Int×Bool×Unit)×List (Int×Int×Int×List UInt8×Bool×Unit)×Unit)×Bool)=>gC (S6 ((),F.2.1.1,F.2.1.2.1,zo F,zp F,(F.2.2,()),())) F.2.2 (nth Ty.str zd F.1)
  let zr:=fun(F:Nat×(List (List UInt8)×List Int×List (List UInt8×Int×Bool×Unit)×List (Int×Int×Int×List UInt8×Bool×Unit)×Unit)×Bool)=>(zq F).1.2.2.2.1
  let zs:=(za,aK.no 4)=zb
  bb s<=aL->((decide ((↑(bb s):Int) > 1200))=true->(za,aK.no 2)=zb)/\((decide ((↑(bb s):Int) > 1200))=false->True/\(bb zc<4294967281/\bb [(10:UInt8)]=1)/\(bb zd<=aL->(ze/\zf/\zg/\zh/\∃(x':zj),lD zd (bh x') (bg x').1 (bg x').2/\True/\(0=(↑(bh x'):Int)/\True)/\zk/\zm/\((),[],[],[],[],(false,()),())=PN (bg x'))/\∀F:Nat×(List (List UInt8)×List Int×List (List UInt8×Int×Bool×Unit)×List (Int×Int×Int×List UInt8×Bool×Unit)×Unit)×Bool,lD zd F.1 F.2.1 F.2.2->((decide (zn F))=true->(0<=(↑F.1:Int)/\zn F)/\F.2.1.1=F.2.1.1/\F.2.1.2.1=F.2.1.2.1/\zo F=zo F/\zp F=zp F/\(bb (nth Ty.str zd F.1)<=1000000/\bb F.2.1.1<=1000000/\bb F.2.1.2.1<=1000000/\bb (zo F)<=1000000/\bb (zp F)<=1000000)/\(True->aJ (↑F.1:Int)->aJ 1->aJ ((↑F.1:Int)+1)/\(zq F).1.1=(zq F).1.1/\(zq F).1.2.1=(zq F).1.2.1/\(zq F).1.2.2.1=(zq F).1.2.2.1/\zr F=zr F/\∃(x':zj),lD zd (bh x') (bg x').1 (bg x').2/\bb zd-bh x'<bb zd-F.1/\((↑F.1:Int)+1=(↑(bh x'):Int)/\True)/\zk/\zm/\((),(zq F).1.1,(zq F).1.2.1,(zq F).1.2.2.1,zr F,((zq F).2,()),())=PN (bg x')))/\((decide (zn F))=false->True/\((F.2.2)=true->zs)/\((F.2.2)=false->((!aK.isNil (kn F.2.1).2)=true->zs)/\((!aK.isNil (kn F.2.1).2)=false->((!(kn F.2.1).1 == s)=true->zs)/\((!(kn F.2.1).1 == s)=false->(F.2.1,aK.nil)=zb))))))) (by kernel_rfl) ?_
 dsimp -iota -proj -eta only;refine fun h0=>iL (fun h1=>(Na (by omega))) (fun h1=>⟨ba,(by have:=yw s [10];exact⟨by omega,rfl⟩),fun h2=>⟨(⟨rfl,rfl,rfl,rfl,(0,bY aB,false),lD.zero _,ba,⟨rfl,ba⟩,⟨⟨rfl,rfl,rfl,rfl,ba⟩,rfl,rfl,rfl,rfl,ba⟩,rfl,rfl⟩),fun F q_0=>iL (fun h3=>⟨(by omega),rfl,rfl,rfl,rfl,?a,fun h4 h5 h6=>⟨(by simp only[aJ,aL]at*;omega),(by exact⟨rfl,rfl,rfl,rfl,(F.1+1,gC F.2.1 F.2.2 (nth .str (parts 10 (br s [10])) F.1)),q_0.next (by omega),by simp only;omega,⟨by simp only;omega,ba⟩,(by trivial),rfl,rfl⟩)⟩⟩) (fun h3=>⟨ba,⟨fun h4=>(xA q_0 (by omega) (by omega) (.inl h4)),fun h4=>iB (fun h5=>(xA q_0 (by omega) (by omega) (.inr (.inl h5)))) (fun h5=>⟨fun h6 =>?b,fun h6 =>?c⟩)⟩⟩)⟩⟩)
 case a=>
  have hf:=PQ s (by omega);have a0:=q_0.le;have a1:=q_0.l1;have a2:=q_0.l2;have a3:=q_0.l3;have a4:=q_0.l4;exact⟨b5 (Nb (by omega) _) (by decide),by omega,by omega,by omega,by omega⟩
 case b=>
  simp only[bl,reduceCtorEq]at h6;exact xA q_0 (by omega) (by omega) (.inr (.inr h6))
 case c=>
  simp only[bl,reduceCtorEq]at h6;exact S8 (by omega) ‹aK.isNil _=true› h6
def Tryz.Fw:bW Tryz.prog Tryz.B.eT Tryz.X 35 [.str] [aB,.err] (fun _=>True) (fun x y=>y=(fun s=>og s) x):=
 cC (X:=Tryz.X) Tryz.Oa Tryz.func35 (by kernel_rfl) (fun x=>I2 x) (fun x hw hp=>Rr x hw)
def Tryz.spZ27:Bool×aT:=(false,aU Tryz.aW [.obj 0,.d .str] (fun _ _=>True) Tryz.xT)
def Tryz.spZ28:Bool×aT:=(true,cB [.str] [aB,.err] (fun _=>True) (fun s=>og s))
def Tryz.Rs:List (FuncId×(Bool×aT)):=[(13,Tryz.spZ27),(35,Tryz.spZ28),(36,Tryz.spZ26)]
def Tryz.T8:bO Tryz.prog Tryz.B Tryz.X Tryz.Rs:=
 aN (Tryz.sj) (aN (aE Tryz.Fw) (aN (aE Tryz.xU) (bR Tryz.bQ)))
def Tryz.Rt(s:List UInt8)(f:cX):dO:=[
 (0,fun st=>{X:=Nat×List (List UInt8)×List (D aB),inv:=fun y=>kZ (aO f) s y.1 y.2.1 y.2.2,cA:=fun y=>7-y.1,bK:=fun y=>[(9,sI y.1),(7,.s (.one (.app .str y.2.1 (bG st 7)))),(8,.s (.one (.app aB y.2.2 (bG st 8))))],aF:=fun y=>[(bG st 7,.tok .str y.2.1),(bG st 8,.tok aB y.2.2)],keep:=[0],gQ:=[bG st 7,bG st 8]}),
 (2,fun st=>{X:=Nat,inv:=fun k=>k<=bb (cZ (.slice .str) st 50),cA:=fun k=>bb (cZ (.slice .str) st 50)-k,bK:=fun k=>[(52,sI k),(7,.s (.one (.app .str (gx (cZ (.slice .str) st 7) (bf k (cZ (.slice .str) st 50))) (bG st 7))))],aF:=fun k=>[(bG st 7,.tok .str (gx (cZ (.slice .str) st 7) (bf k (cZ (.slice .str) st 50))))],keep:=[0,4,5,6,8,9,10,12,13,18,19,20,21,24,25,26,27,28,29,30,31,32,33,34,35,36,37,38,39,40,41,42,43,44,45,46,47,48,49,50,51],gQ:=[bG st 7]})]
def Tryz.DK:List (Alt Tryz.aW [.obj 0,.d .str]):=[{bN:=Tryz.aW,res:=[.d (.slice .str),.d (.slice aB),.d .err],out:=fun _ x=>x,ret:=fun a x=>((bJ (aO x) a.1).1,(bJ (aO x) a.1).2.1,aI (bJ (aO x) a.1).2.2,())}]
def Ku(s:List UInt8)(f:cX)(hw:gH [.obj 0,.d .str] (s,()))(hp:(fun _ x=>x.2.1.1.length<=6) (s,()) f):(cR (lW Tryz.B [17]) Tryz.Rs Tryz.f12 (Tryz.Rt s f) Tryz.aW [.obj 0,.d .str] Tryz.DK (s,()) f).holds:=by
 refine holds_of (p:=
  let za:=List UInt8
  let zb:=Nat×List za×List (List za×List Int×List (za×Int×Bool×Unit)×List (Int×Int×Int×za×Bool×Unit)×Unit)
  let zc:=aO f
  let zd:=fun(F:Nat×List (List UInt8)×List (List (List UInt8)×List Int×List (List UInt8×Int×Bool×Unit)×List (Int×Int×Int×List UInt8×Bool×Unit)×Unit))=>(↑F.1:Int)<(↑(bb F.2.1):Int)
  let ze:=fun(F:Nat×List (List UInt8)×List (List (List UInt8)×List Int×List (List UInt8×Int×Bool×Unit)×List (Int×Int×Int×List UInt8×Bool×Unit)×Unit))=>aO f (nth Ty.str F.2.1 F.1)
  let zf:=bJ zc s
  let zg:=(zf.1,zf.2.1,aI zf.2.2,())
  let zh:=fun(F:Nat×List (List UInt8)×List (List (List UInt8)×List Int×List (List UInt8×Int×Bool×Unit)×List (Int×Int×Int×List UInt8×Bool×Unit)×Unit))=>(cU (ze F).1).1.1
  let zi:=fun(F:Nat×List (List UInt8)×List (List (List UInt8)×List Int×List (List UInt8×Int×Bool×Unit)×List (Int×Int×Int×List UInt8×Bool×Unit)×Unit))=>bb (zh F)
  let zj:=fun(F:Nat×List (List UInt8)×List (List (List UInt8)×List Int×List (List UInt8×Int×Bool×Unit)×List (Int×Int×Int×List UInt8×Bool×Unit)×Unit)) (I:Nat)=>gx F.2.1 (bf I (zh F))
  let zk:=aJ 1
  let zl:=fun(I:Nat)=>(↑I:Int)+1
  let zm:=@bc (List UInt8)=@bc (List UInt8)
  let zn:=C.eQ 1=C.eQ 1/\f.1.1=f.1.1/\True
  let zo:=f.2.1=f.2.1
  let zp:=fun(F:Nat×List (List UInt8)×List (List (List UInt8)×List Int×List (List UInt8×Int×Bool×Unit)×List (Int×Int×Int×List UInt8×Bool×Unit)×Unit))=>F.2.2++[(cU (ze F).1).1]
  let zq:=@bc (List (List UInt8)×List Int×List (List UInt8×Int×Bool×Unit)×List (Int×Int×Int×List UInt8×Bool×Unit)×Unit)=@bc (List (List UInt8)×List Int×List (List UInt8×Int×Bool×Unit)×List (Int×Int×Int×List UInt8×Bool×Unit)×Unit)
  let zr:=fun(F:Nat×List (List UInt8)×List (List (List UInt8)×List Int×List (List UInt8×Int×Bool×Unit)×List (Int×Int×Int×List UInt8×Bool×Unit)×Unit))=>(zh F=zh F/\(cU (ze F).1).1.2.1=(cU (ze F).1).1.2.1/\(cU (ze F).1).1.2.2.1=(cU (ze F).1).1.2.2.1/\(cU (ze F).1).1.2.2.2.1=(cU (ze F).1).1.2.2.2.1/\True)/\@bc (Int×Int×Int×List UInt8×Bool×Unit)=@bc (Int×Int×Int×List UInt8×Bool×Unit)/\@bc (List UInt8×Int×Bool×Unit)=@bc (List UInt8×Int×Bool×Unit)/\@bc Int=@bc Int/\zm/\zn/\zo/\zp F=zp F/\zq/\zm/\True
  (∃(x:zb),kZ zc s (bh x) (bg x).1 (bg x).2/\(0=(↑(bh x):Int)/\[s]=(bg x).1/\@bc (List (List UInt8)×List Int×List (List UInt8×Int×Bool×Unit)×List (Int×Int×Int×List UInt8×Bool×Unit)×Unit)=(bg x).2/\True)/\[s]=(bg x).1/\@bc (List (List UInt8)×List Int×List (List UInt8×Int×Bool×Unit)×List (Int×Int×Int×List UInt8×Bool×Unit)×Unit)=(bg x).2/\True)/\∀F:Nat×List (List UInt8)×List (List (List UInt8)×List Int×List (List UInt8×Int×Bool×Unit)×List (Int×Int×Int×List UInt8×Bool×Unit)×Unit),kZ zc s F.1 F.2.1 F.2.2->bb F.2.1<=aL->((decide (zd F))=true->(0<=(↑F.1:Int)/\zd F)/\True/\(True->((!aK.isNil (aI (ze F).2.2))=true->True/\f=f/\([],[],aI (ze F).2.2,())=zg)/\((!aK.isNil (aI (ze F).2.2))=false->True/\((!aK.isNil (aI (cU (ze F).1).2))=true->True/\f=f/\([],[],aI (cU (ze F).1).2,())=zg)/\((!aK.isNil (aI (cU (ze F).1).2))=false->(F.2.2=F.2.2/\bb F.2.2+bb [(cU (ze F).1).1]<=1000000000)/\(zi F<=aL->(∃(x:Nat),x<=zi F/\(0=(↑x:Int)/\F.2.1=gx F.2.1 (bf x (zh F))/\True)/\F.2.1=gx F.2.1 (bf x (zh F))/\True)/\∀I:Nat,I<=zi F->((decide ((↑I:Int)<(↑(zi F):Int)))=true->(0<=(↑I:Int)/\(↑I:Int)<(↑(zi F):Int))/\True/\((!c8 (zj F I) fun(x:za)=>x == nth Ty.str (zh F) I)=true->(zj F I=zj F I/\bb (zj F I)+bb [nth Ty.str (zh F) I]<=1000000000)/\(aJ (↑I:Int)->zk->aJ (zl I)/\∃(x':Nat),x'<=zi F/\zi F-x'<zi F-I/\(zl I=(↑x':Int)/\zj F I++[nth Ty.str (zh F) I]=gx F.2.1 (bf x' (zh F))/\True)/\zj F I++[nth Ty.str (zh F) I]=gx F.2.1 (bf x' (zh F))/\zr F))/\((!c8 (zj F I) fun(x:za)=>x == nth Ty.str (zh F) I)=false->aJ (↑I:Int)->zk->aJ (zl I)/\∃(x':Nat),x'<=zi F/\zi F-x'<zi F-I/\(zl I=(↑x':Int)/\zj F I=gx F.2.1 (bf x' (zh F))/\True)/\zj F I=gx F.2.1 (bf x' (zh F))/\zr F))/\((decide ((↑I:Int)<(↑(zi F):Int)))=false->aJ (↑F.1:Int)->zk->aJ ((↑F.1:Int)+1)/\∃(x':zb),kZ zc s (bh x') (bg x').1 (bg x').2/\7-bh x'<7-F.1/\((↑F.1:Int)+1=(↑(bh x'):Int)/\zj F I=(bg x').1/\zp F=(bg x').2/\True)/\zj F I=(bg x').1/\zp F=(bg x').2/\zq/\zm/\zn/\zo/\True))))))/\((decide (zd F))=false->True/\f=f/\(F.2.1,F.2.2,aK.nil,())=zg)) (by kernel_rfl) ?_
 dsimp -iota -proj -eta only;refine⟨(⟨(0,[s],[]),kZ.zero _ _,⟨rfl,rfl,rfl,ba⟩,(by trivial)⟩),fun F q_0 h0=>iL (fun h1=>⟨?a,ba,fun h2=>iB (fun h3=>(by rw[q_0.S9 (jy hp) (by omega) (fun e=>by rw[aQ.2 e]at h3;cases h3)];exact⟨ba,rfl,rfl⟩)) (fun h3=>⟨ba,iB (fun h4=>(by rw[q_0.Vj (by omega) (aQ.1 h3) (fun e=>by rw[aQ.2 e]at h4;cases h4)];exact⟨ba,rfl,rfl⟩)) (fun h4=>⟨⟨rfl,q_0.Xs⟩,fun h5=>⟨(⟨0,b4 _,⟨rfl,rfl,ba⟩,rfl,ba⟩),fun I q_1=>iL (fun h6=>⟨?b,ba,iB (fun h7=>⟨⟨rfl,q_0.WB (jy hp) (Dq (aQ.1 h3) (aQ.1 h4)) _⟩,fun h8 h9=>⟨?c,(⟨I+1,by omega,by omega,⟨by omega,Lg (by omega) ‹_›,ba⟩,Lg (by omega) ‹_›,(by trivial)⟩)⟩⟩) (fun h7 h8 h9=>⟨?d,(⟨I+1,by omega,by omega,⟨by omega,Lh (by omega) ‹_›,ba⟩,Lh (by omega) ‹_›,(by trivial)⟩)⟩)⟩) (fun h6 h7 h8=>⟨?e,(by exact⟨(F.1+1,_,_),q_0.next (jy hp) (by omega) (Dq (aQ.1 h3) (aQ.1 h4)),by have:=q_0.room (jy hp) (by omega) (Dq (aQ.1 h3) (aQ.1 h4));simp only;omega,⟨by simp only;omega,Li (by omega),rfl,ba⟩,Li (by omega),rfl,(by trivial)⟩)⟩)⟩⟩)⟩)⟩) (fun h1=>(by rw[q_0.done (by omega)];exact⟨ba,rfl,rfl⟩))⟩
 case a|b=>omega
 case c|d|e=>simp only[aJ,aL]at*;omega
def Tryz.Kv:bX Tryz.prog Tryz.B.eT Tryz.X 12 false (aU Tryz.aW [.obj 0,.d .str] (fun _ x=>x.2.1.1.length<=6) Tryz.DK):=
 bE (B:=(lW Tryz.B [17])) (X:=Tryz.X) (bO.hint (l:=[17]) Tryz.T8) Tryz.func12 (by kernel_rfl) (fun(a:CD [.obj 0,.d .str]) (x:PD Tryz.aW)=>Tryz.Rt a.1 x) (fun(a:CD [.obj 0,.d .str]) (x:PD Tryz.aW) hw hp=>Ku a.1 x hw hp)
def T9(n:Int)(hw:gA [.int .i64] n)(hp:(fun n=>0<=n/\n<=1000000) n):(dG Tryz.B [] Tryz.f91 [] [.int .i64] [.int .i64] (fun x y=>y=(fun n=>cM n) x) n).holds:=by
 refine holds_of (p:=
  let za:=aJ (16:Int)
  let zb:=aJ (n+(16:Int))
  let zc:=n+(16:Int)-(1:Int)
  aJ n->za->zb/\(zb->aJ (1:Int)->aJ zc/\(16:Int)≠(0:Int)/\∀F:Int,F=Int.tdiv zc (16:Int)->aJ zc->za->aJ F/\∀I:Int,I=F*(16:Int)->aJ F->za->aJ I/\I=cM n)) (by kernel_rfl) ?_
 dsimp -iota -proj -eta only;refine fun h0 h1=>⟨?a,fun h2 h3=>⟨?b,(by omega),fun F q_0 h4 h5=>⟨?c,fun I q_1 h6 h7=>⟨?d,?e⟩⟩⟩⟩
 case a|b=>simp only[aJ]at*;omega
 case c|d|e=>subst_vars;rw[Int.tdiv_eq_ediv_of_nonneg (by omega)];(try unfold cM);(try simp only[aJ]);omega
def Tryz.Ua:bW Tryz.prog Tryz.B.eT Tryz.X 91 [.int .i64] [.int .i64] (fun n=>0<=n/\n<=1000000) (fun x y=>y=(fun n=>cM n) x):=
 cC (X:=Tryz.X) (bR Tryz.bQ) Tryz.func91 (by kernel_rfl) (fun _=>[]) (fun x hw hp=>T9 x hw hp)
def Ub(a:Int×Int×Unit)(b:Int×Int×Unit)(hw:gA [aY,aY] (a,b))(hp:(fun x=>oX x.1/\oX x.2) (a,b)):(dG Tryz.B [] Tryz.f111 [] [aY,aY] [.bool] (fun x y=>y=(fun x=>ik x.1 x.2) x) (a,b)).holds:=by
 refine holds_of (p:=
  let za:=true=ik a b
  let zb:=a.1+a.2.1
  let zc:=b.1+b.2.1
  ((decide (a.2.1<=0))=true->za)/\((decide (a.2.1<=0))=false->((decide (b.2.1<=0))=true->za)/\((decide (b.2.1<=0))=false->aJ a.1->aJ a.2.1->aJ zb/\((decide (zb<=b.1))=true->za)/\((decide (zb<=b.1))=false->aJ b.1->aJ b.2.1->aJ zc/\decide (zc<=a.1)=ik a b)))) (by kernel_rfl) ?_
 dsimp -iota -proj -eta only;dsimp only at hp;simp only[oX]at hp;refine iE (fun h0 =>?a) (fun h0=>iE (fun h1 =>?b) (fun h1 h2 h3=>⟨?c,iE (fun h4 =>?d) (fun h4 h5 h6=>⟨?e,?f⟩)⟩))
 case a|b|d|f=>rw[dy];simp only[ik,Bool.or_eq_true,decide_eq_true_eq,true_iff];omega
 case c|e=>simp only[aJ]at*;omega
def Tryz.I3:bW Tryz.prog Tryz.B.eT Tryz.X 111 [aY,aY] [.bool] (fun x=>oX x.1/\oX x.2) (fun x y=>y=(fun x=>ik x.1 x.2) x):=
 cC (X:=Tryz.X) (bR Tryz.bQ) Tryz.func111 (by kernel_rfl) (fun _=>[]) (fun x hw hp=>Ub x.1 x.2 hw hp)
def Tryz.spZ29:Bool×aT:=(true,cB [aY,aY] [.bool] (fun x=>oX x.1/\oX x.2) (fun x=>ik x.1 x.2))
def Tryz.Fx:List (FuncId×(Bool×aT)):=[(111,Tryz.spZ29)]
def Tryz.Ky:bO Tryz.prog Tryz.B Tryz.X Tryz.Fx:=
 aN (aE Tryz.I3) (bR Tryz.bQ)
def Tryz.I4:List (FuncId×(Bool×aT)):=[(110,(false,gu Tryz.B Tryz.Fx Tryz.f110 []))]
def Tryz.Oc:bO Tryz.prog Tryz.B Tryz.X Tryz.I4:=
 aN (eP Tryz.Ky Tryz.func110 (by kernel_rfl) []) (bR Tryz.bQ)
def Fy:dO:=[(0,fun st=>{X:=Nat,inv:=fun i=>i<=(cZ (.slice aY) st 0).length/\∀j,j<i->ik (Sv aY st (Mx st 1 0)) (nth aY (cZ (.slice aY) st 0) j)=true,cA:=fun i=>(cZ (.slice aY) st 0).length-i,bK:=fun i=>[(8,sI i)],keep:=[0,1,7]})]
def Tryz.I5:List (FuncId×(Bool×aT)):=[(126,(false,gu Tryz.B Tryz.I4 Tryz.f126 Fy))]
def Tryz.Od:bO Tryz.prog Tryz.B Tryz.X Tryz.I5:=
 aN (eP Tryz.Oc Tryz.func126 (by kernel_rfl) Fy) (bR Tryz.bQ)
def Tryz.I6:List (FuncId×(Bool×aT)):=[(109,(false,gu Tryz.B Tryz.I5 Tryz.f109 []))]
def Tryz.Oe:bO Tryz.prog Tryz.B Tryz.X Tryz.I6:=
 aN (eP Tryz.Od Tryz.func109 (by kernel_rfl) []) (bR Tryz.bQ)
def VX(r:Int×Int×Unit)(l:List (D aY))(hw:gA [aY,.slice aY] (r,l))(hp:(fun x=>oX x.1/\∀y∈x.2,oX y) (r,l)):(dG Tryz.B Tryz.I6 Tryz.f92 [] [aY,.slice aY] [.bool] (fun x y=>y=(fun x=>iZ x.1 x.2) x) (r,l)).holds:=by
 refine holds_of (p:=
  let za:=bb l
  za<=aL->(∃(x:Nat),(x<=za/\∀(j:Nat),j<x->ik r (nth aY l j)=true)/\(0=(↑x:Int)/\True)/\True)/\∀F:Nat,(F<=za/\∀(j:Nat),j<F->ik r (nth aY l j)=true)->((decide ((↑F:Int)<(↑za:Int)))=true->(0<=(↑F:Int)/\(↑F:Int)<(↑za:Int))/\(oX r/\oX (nth aY l F))/\((!ik r (nth aY l F))=true->(!decide ((↑F:Int)>=0))=iZ r l)/\((!ik r (nth aY l F))=false->aJ (↑F:Int)->aJ 1->aJ ((↑F:Int)+1)/\∃(x':Nat),(x'<=za/\∀(j:Nat),j<x'->ik r (nth aY l j)=true)/\za-x'<za-F/\((↑F:Int)+1=(↑x':Int)/\True)/\(r.1=r.1/\r.2.1=r.2.1/\True)/\True))/\((decide ((↑F:Int)<(↑za:Int)))=false->(!decide ((-1:Int)>=0))=iZ r l)) (by kernel_rfl) ?_
 dsimp -iota -proj -eta only;dsimp only at hp;refine fun h0=>⟨?a,fun F q_0=>iL (fun h1=>⟨(by omega),⟨hp.1,hp.2 _ (eJ (by omega))⟩,iB (fun h2=>(by rw[y5 (j:=F) (by omega) h2];simp)) (fun h2 h3 h4=>⟨(by simp only[aJ,aL]at*;omega),(by exact⟨F+1,⟨by omega,fun j hj=>by by_cases e:j=F;(subst e;exact h2);exact q_0.2 j (by omega)⟩,by omega,⟨by omega,ba⟩,(by trivial)⟩)⟩)⟩) (fun h1=>(by rw[B5 fun j hj=>q_0.2 j (by omega)];simp))⟩
 case a=>refine⟨0,?_⟩;(repeat' (first|exact trivial|rfl|omega|assumption|apply dv))
def Tryz.VY:bW Tryz.prog Tryz.B.eT Tryz.X 92 [aY,.slice aY] [.bool] (fun x=>oX x.1/\∀y∈x.2,oX y) (fun x y=>y=(fun x=>iZ x.1 x.2) x):=
 cC (X:=Tryz.X) Tryz.Oe Tryz.func92 (by kernel_rfl) (fun _=>[]) (fun x hw hp=>VX x.1 x.2 hw hp)
def Tryz.I7:List (FuncId×(Bool×aT)):=[(45,Tryz.spZ0),(17,Tryz.spZ1),(91,(true,cB [.int .i64] [.int .i64] (fun n=>0<=n/\n<=1000000) (fun n=>cM n))),(111,Tryz.spZ29),(92,(true,cB [aY,.slice aY] [.bool] (fun x=>oX x.1/\∀y∈x.2,oX y) (fun x=>iZ x.1 x.2)))]
def Tryz.Of:bO Tryz.prog Tryz.B Tryz.X Tryz.I7:=
 aN (aE Tryz.jm) (aN (aE Tryz.ir) (aN (aE Tryz.Ua) (aN (aE Tryz.I3) (aN (aE Tryz.VY) (bR Tryz.bQ)))))
def I8(s:List Int)(l:List (D aY)):dO:=[
 (0,fun st=>{X:=Nat,inv:=fun i=>i<=s.length/\∀j,j<i->1<=(nth (.int .i64) s j:Int)/\(nth (.int .i64) s j:Int)<=40,cA:=fun i=>s.length-i,bK:=fun i=>[(26,sI i)],keep:=[0,1,24,25]}),
 (2,fun st=>{X:=Nat,inv:=fun i=>i<=l.length/\∀j,j<i->nP (nth aY l j),cA:=fun i=>l.length-i,bK:=fun i=>[(40,sI i)],keep:=[0,1,38,39]}),
 (4,fun st=>{X:=Nat×List (D aY)×List Int,inv:=fun x=>x.1<=s.length/\gS x.2.1 (s.drop x.1) x.2.2=gS l s []/\(∀y∈x.2.1,nP y)/\x.2.1.length=l.length+x.1/\x.2.2.length=x.1,cA:=fun x=>s.length-x.1,bK:=fun x=>[(68,sI x.1),(10,.s (.one (.app aY x.2.1 (bG st 10)))),(11,.s (.one (.app (.int .i64) x.2.2 (bG st 11))))],aF:=fun x=>[(bG st 10,.tok aY x.2.1),(bG st 11,.tok (.int .i64) x.2.2)],keep:=[66,67],gQ:=[bG st 10,bG st 11]}),
 (6,fun st=>{X:=Nat,inv:=fun j=>j<=32/\gv (cZ (.slice aY) st 10) (Mm (.int .i64) st (bG st 14) 1) (40-j) (16*(j:Int))=gv (cZ (.slice aY) st 10) (Mm (.int .i64) st (bG st 14) 1) 40 0,cA:=fun j=>40-j,bK:=fun j=>[],aF:=fun j=>[(bG st 14,.cells 181 [.d (.int .i64) (16*(j:Int)),.d (.int .i64) (Mm (.int .i64) st (bG st 14) 1)])],keep:=[4,5,10,11,13,14,66,67,68,69,70,71,72,73,74],gQ:=[bG st 14]})]
def Uc(s:List Int)(l:List (D aY))(hw:gA [.slice (.int .i64),.slice aY] (s,l)):(dG (lW Tryz.B [65]) Tryz.I7 Tryz.f62 (I8 s l) [.slice (.int .i64),.slice aY] [.slice (.int .i64),.err] (fun x y=>y=(fun x=>cN x) x) (s,l)).holds:=by
 refine holds_of (p:=
  let za:=bb s
  let zb:=za<=aL
  let zc:=(↑za:Int)
  let zd:=cN (s,l)
  let ze:=([],aK.no 2)=zd
  let zf:=bb l
  let zg:=Ty.int bm
  let zh:=fun(F:Nat)=>(↑F:Int)
  let zi:=([],aK.no 1)=zd
  let zj:=aJ 1
  let zk:=@bc Int=@bc Int/\True
  let zl:=Int×Int×Unit
  let zm:=Nat×List zl×List Int
  let zn:=gS l s (@bc Int)
  let zo:=fun(K:Nat×List (Int×Int×Unit)×List Int)=>cM (nth zg s K.1)
  let zp:=fun(K:Nat×List (Int×Int×Unit)×List Int)=>gv K.2.1 (zo K) 40 0
  let zq:=fun(M:Nat)=>16*zh M
  zb->((decide (zc > 6))=true->ze)/\((decide (zc > 6))=false->zf<=aL->((decide ((↑zf:Int) > 20))=true->ze)/\((decide ((↑zf:Int) > 20))=false->zb->(∃(x:Nat),(x<=za/\∀(j:Nat),j<x->1<=nth zg s j/\nth zg s j<=40)/\(0=(↑x:Int)/\True)/\True)/\∀F:Nat,(F<=za/\∀(j:Nat),j<F->1<=nth zg s j/\nth zg s j<=40)->((decide (zh F<zc))=true->(0<=zh F/\zh F<zc)/\((decide (nth zg s F<1))=true->zi)/\((decide (nth zg s F<1))=false->((decide (nth zg s F > 40))=true->zi)/\((decide (nth zg s F > 40))=false->aJ (zh F)->zj->aJ (zh F+1)/\∃(x':Nat),(x'<=za/\∀(j:Nat),j<x'->1<=nth zg s j/\nth zg s j<=40)/\za-x'<za-F/\(zh F+1=(↑x':Int)/\True)/\zk)))/\((decide (zh F<zc))=false->zf<=aL->(∃(x:Nat),(x<=zf/\∀(j:Nat),j<x->nP (nth aY l j))/\(0=(↑x:Int)/\True)/\True)/\∀I:Nat,(I<=zf/\∀(j:Nat),j<I->nP (nth aY l j))->((decide (zh I<(↑zf:Int)))=true->(0<=zh I/\zh I<(↑zf:Int))/\((decide ((nth aY l I).1<0))=true->zi)/\((decide ((nth aY l I).1<0))=false->((decide ((nth aY l I).1 > 256))=true->zi)/\((decide ((nth aY l I).1 > 256))=false->((decide ((nth aY l I).2.1<0))=true->zi)/\((decide ((nth aY l I).2.1<0))=false->((decide ((nth aY l I).2.1 > 256))=true->zi)/\((decide ((nth aY l I).2.1 > 256))=false->aJ (zh I)->zj->aJ (zh I+1)/\∃(x':Nat),(x'<=zf/\∀(j:Nat),j<x'->nP (nth aY l j))/\zf-x'<zf-I/\(zh I+1=(↑x':Int)/\True)/\zk)))))/\((decide (zh I<(↑zf:Int)))=false->zf<=1000000000/\(zb->(∃(x:zm),(bh x<=za/\gS (bg x).1 (bj (bh x) s) (bg x).2=zn/\(∀(y:zl),y∈(bg x).1->nP y)/\bb (bg x).1=zf+bh x/\bb (bg x).2=bh x)/\(0=(↑(bh x):Int)/\l=(bg x).1/\@bc Int=(bg x).2/\True)/\l=(bg x).1/\@bc Int=(bg x).2/\True)/\∀K:Nat×List (Int×Int×Unit)×List Int,K.1<=za/\gS K.2.1 (bj K.1 s) K.2.2=zn/\(∀(y:zl),y∈K.2.1->nP y)/\bb K.2.1=zf+K.1/\bb K.2.2=K.1->((decide ((↑K.1:Int)<zc))=true->(0<=(↑K.1:Int)/\(↑K.1:Int)<zc)/\(0<=nth zg s K.1/\nth zg s K.1<=1000000)/\(∃(x:Nat),(x<=32/\gv K.2.1 (zo K) (40-x) (16*(↑x:Int))=zp K)/\True/\(0=16*(↑x:Int)/\zo K=zo K/\True)/\True)/\∀M:Nat,M<=32/\gv K.2.1 (zo K) (40-M) (zq M)=zp K->(oX (zq M,zo K,())/\∀(y:zl),y∈K.2.1->oX y)/\((!iZ (zq M,zo K,()) K.2.1)=true->aJ (zq M)->aJ 16->aJ (zq M+16)/\∃(x':Nat),(x'<=32/\gv K.2.1 (zo K) (40-x') (16*(↑x':Int))=zp K)/\40-x'<40-M/\True/\(zq M+16=16*(↑x':Int)/\zo K=zo K/\True)/\K.2.1=K.2.1/\K.2.2=K.2.2/\zk)/\((!iZ (zq M,zo K,()) K.2.1)=false->aJ (zq M)->aJ (zo K)->aJ (zq M+zo K)/\((decide (zq M+zo K > 256))=true->([],aK.no 8)=zd)/\((decide (zq M+zo K > 256))=false->(K.2.1=K.2.1/\bb K.2.1+bb [(zq M,zo K,())]<=1000000000)/\(K.2.2=K.2.2/\bb K.2.2+bb [zq M]<=1000000000)/\(aJ (↑K.1:Int)->zj->aJ ((↑K.1:Int)+1)/\∃(x':zm),(bh x'<=za/\gS (bg x').1 (bj (bh x') s) (bg x').2=zn/\(∀(y:zl),y∈(bg x').1->nP y)/\bb (bg x').1=zf+bh x'/\bb (bg x').2=bh x')/\za-bh x'<za-K.1/\((↑K.1:Int)+1=(↑(bh x'):Int)/\K.2.1++[(zq M,zo K,())]=(bg x').1/\K.2.2++[zq M]=(bg x').2/\True)/\K.2.1++[(zq M,zo K,())]=(bg x').1/\K.2.2++[zq M]=(bg x').2/\zk))))/\((decide ((↑K.1:Int)<zc))=false->(K.2.2,aK.nil)=zd))))))) (by kernel_rfl) ?_
 dsimp -iota -proj -eta only;refine fun h0=>iL (fun h1 =>?a) (fun h1 h2=>iL (fun h3 =>?b) (fun h3 h4=>⟨?c,fun F q_0=>iL (fun h5=>⟨?d,iL (fun h6 =>?e) (fun h6=>iL (fun h7 =>?f) (fun h7 h8 h9=>⟨?g,(by(try dsimp only[D]at*);exact⟨F+1,⟨by omega,fun j hj=>by by_cases e:j=F;(subst e;(try dsimp only[D]);omega);exact q_0.2 j (by omega)⟩,by omega,⟨by omega,ba⟩,(by trivial)⟩)⟩))⟩) (fun h5 h6=>⟨?h,fun I q_1=>iL (fun h7=>⟨?i,iL (fun h8 =>?j) (fun h8=>iL (fun h9 =>?k) (fun h9=>iL (fun h10 =>?l) (fun h10=>iL (fun h11 =>?m) (fun h11 h12 h13=>⟨?n,(by(try dsimp only[D]at*);exact⟨I+1,⟨by omega,fun j hj=>by by_cases e:j=I;(subst e;unfold nP;(try dsimp only[D]);omega);exact q_1.2 j (by omega)⟩,by omega,⟨by omega,ba⟩,(by trivial)⟩)⟩))))⟩) (fun h7=>⟨?o,fun h8=>⟨(⟨(0,l,[]),⟨b4 _,rfl,(fun y (hy:y∈l)=>by obtain⟨i,hi,e⟩:=hH (t:=aY) hy;rw[<-e];exact q_1.2 i (by omega)),rfl,rfl⟩,(by trivial),(by trivial)⟩),fun K q_2=>iL (fun h9=>⟨?p,(by have:=q_0.2 K.1 (by omega);(try dsimp only[D]at*);omega),?q,fun M q_3=>⟨?r,iB (fun h10 h11 h12=>⟨?s,?t⟩) (fun h10 h11 h12=>⟨?u,iL (fun h13 =>?v) (fun h13=>⟨?w,?x,fun h14 h15=>⟨?y,?z⟩⟩)⟩)⟩⟩) (fun h9=>(by rw[wZ (by omega) (fun j hj=>q_0.2 j (by omega)) (fun j hj=>q_1.2 j (by omega)),<-q_2.2.1,JM (by omega)]))⟩⟩)⟩)⟩))
 case a|b=>rw[y7 (by omega)]
 case c|h|q=>refine⟨0,?_⟩;(repeat' (first|exact trivial|rfl|omega|assumption|apply dv))
 case d|i|o|p=>omega
 case e|f=>(try dsimp only[D]at*);rw[y8 (by omega) (i:=F) (by omega) (by(try dsimp only[D]);omega)]
 case g|n|s|y=>simp only[aJ,aL]at*;omega
 case j|k|l|m=>(try dsimp only[D]at*);rw[wY (by omega) (i:=I) (by omega) (by unfold nP;(try dsimp only[D]);omega)]
 case r=>
  have hs:=q_0.2 K.1 (by omega);have hr:=lr hs.1 hs.2;exact⟨by refine⟨?_,?_,?_,?_⟩ <;> simp only <;> omega,fun y hy=>(q_2.2.2.1 y hy).oX⟩
 case t=>
  have hf:iZ (16*(M:Int),cM (nth (.int .i64) s K.1),()) K.2.1=false:=by assumption
  have hn:=O8 q_2.2.2.1 hf;exact⟨M+1,⟨by omega,by rw[<-q_3.2,show 40-M=(40-(M+1))+1 by omega,El hf,show 16*((M+1:Nat):Int)=16*(M:Int)+16 by omega]⟩,by omega,ba,⟨by omega,rfl,ba⟩,(by trivial)⟩
 case u=>
  have hs:=q_0.2 K.1 (by omega);have hr:=lr hs.1 hs.2;have hf:iZ (16*(M:Int),cM (nth (.int .i64) s K.1),()) K.2.1=true:=by assumption
  have hb:=q_3.2.symm.trans (qn hf);simp only[aJ];omega
 case v=>
  have hs:=q_0.2 K.1 (by omega);have hr:=lr hs.1 hs.2;have hf:iZ (16*(M:Int),cM (nth (.int .i64) s K.1),()) K.2.1=true:=by assumption
  have hb:=q_3.2.symm.trans (qn hf);rw[wZ (by omega) (fun j hj=>q_0.2 j (by omega)) (fun j hj=>q_1.2 j (by omega)),<-q_2.2.1,rZ (by omega),if_pos (by rw[hb];omega)]
 case w|x=>simp only[b3,true_and];omega
 case z=>
  have hs:=q_0.2 K.1 (by omega);have hr:=lr hs.1 hs.2;have hf:iZ (16*(M:Int),cM (nth (.int .i64) s K.1),()) K.2.1=true:=by assumption
  have hb:=q_3.2.symm.trans (qn hf);exact⟨(K.1+1,_,_),⟨by omega,by rw[<-q_2.2.1,rZ (k:=K.1) (by omega),if_neg (by rw[hb];omega),hb],SA q_2.2.2.1 (by refine⟨?_,?_,?_,?_⟩ <;> simp only <;> omega),by simp only[bt,b3];omega,by simp only[bt,b3];omega⟩,by simp only;omega,⟨by simp only;omega,rfl,rfl,ba⟩,(by trivial)⟩
def Tryz.Ud:bW Tryz.prog Tryz.B.eT Tryz.X 62 [.slice (.int .i64),.slice aY] [.slice (.int .i64),.err] (fun _=>True) (fun x y=>y=(fun x=>cN x) x):=
 cC (B:=(lW Tryz.B [65])) (X:=Tryz.X) (bO.hint (l:=[65]) Tryz.Of) Tryz.func62 (by kernel_rfl) (fun x=>I8 x.1 x.2) (fun x hw hp=>Uc x.1 x.2 hw)
def I9(a:List Int)(b:List Int):dO:=[(0,fun st=>{X:=Nat,inv:=fun i=>i<=a.length/\∀j,j<i->nth (.int .i64) a j=nth (.int .i64) b j,cA:=fun i=>a.length-i,bK:=fun i=>[(5,sI i)],keep:=[0,1]})]
def DL(a:List Int)(b:List Int)(hw:gA [.slice (.int .i64),.slice (.int .i64)] (a,b)):(dG Tryz.B [] Tryz.f42 (I9 a b) [.slice (.int .i64),.slice (.int .i64)] [.bool] (fun x y=>y=(fun x=>mI x.1 x.2) x) (a,b)).holds:=by
 refine holds_of (p:=
  let za:=bb a
  let zb:=(↑(bb b):Int)
  let zc:=false=mI a b
  let zd:=Ty.int bm
  za<=aL->bb b<=aL->(((↑za:Int) != zb)=true->zc)/\(((↑za:Int) != zb)=false->(∃(x:Nat),(x<=za/\∀(j:Nat),j<x->nth zd a j=nth zd b j)/\(0=(↑x:Int)/\True)/\True)/\∀F:Nat,(F<=za/\∀(j:Nat),j<F->nth zd a j=nth zd b j)->za<=aL->((decide ((↑F:Int)<(↑za:Int)))=true->(0<=(↑F:Int)/\(↑F:Int)<(↑za:Int))/\(0<=(↑F:Int)/\(↑F:Int)<zb)/\((nth zd a F != nth zd b F)=true->zc)/\((nth zd a F != nth zd b F)=false->aJ (↑F:Int)->aJ 1->aJ ((↑F:Int)+1)/\∃(x':Nat),(x'<=za/\∀(j:Nat),j<x'->nth zd a j=nth zd b j)/\za-x'<za-F/\((↑F:Int)+1=(↑x':Int)/\True)/\True))/\((decide ((↑F:Int)<(↑za:Int)))=false->true=mI a b))) (by kernel_rfl) ?_
 dsimp -iota -proj -eta only;refine fun h0 h1=>iN (fun h2=>(O9 ‹_›)) (fun h2=>⟨(⟨0,⟨by omega,fun j hj=>by omega⟩,⟨rfl,ba⟩,ba⟩),fun F q_0 h3=>iL (fun h4=>⟨?a,?b,iN (fun h5=>(SB (i:=F) ‹_›)) (fun h5 h6 h7=>⟨(by simp only[aJ,aL]at*;omega),(⟨F+1,⟨by omega,Em q_0.2 ‹_›⟩,by omega,⟨by omega,ba⟩,(by trivial)⟩)⟩)⟩) (fun h4=>(MC ‹_› (fun i hi=>q_0.2 i (by omega))))⟩)
 case a|b=>omega
def Tryz.uu:bW Tryz.prog Tryz.B.eT Tryz.X 42 [.slice (.int .i64),.slice (.int .i64)] [.bool] (fun _=>True) (fun x y=>y=(fun x=>mI x.1 x.2) x):=
 cC (X:=Tryz.X) (bR Tryz.bQ) Tryz.func42 (by kernel_rfl) (fun x=>I9 x.1 x.2) (fun x hw hp=>DL x.1 x.2 hw)
def Ja(a:List (List UInt8))(b:List (List UInt8)):dO:=[(0,fun st=>{X:=Nat,inv:=fun i=>i<=a.length/\∀j,j<i->nth .str a j=nth .str b j,cA:=fun i=>a.length-i,bK:=fun i=>[(5,sI i)],keep:=[0,1]})]
def Jb(a:List (List UInt8))(b:List (List UInt8))(hw:gA [.slice .str,.slice .str] (a,b)):(dG Tryz.B [] Tryz.f24 (Ja a b) [.slice .str,.slice .str] [.bool] (fun x y=>y=(fun x=>nE x.1 x.2) x) (a,b)).holds:=by
 refine holds_of (p:=
  let za:=bb a
  let zb:=(↑(bb b):Int)
  let zc:=false=nE a b
  za<=aL->bb b<=aL->(((↑za:Int) != zb)=true->zc)/\(((↑za:Int) != zb)=false->(∃(x:Nat),(x<=za/\∀(j:Nat),j<x->nth Ty.str a j=nth Ty.str b j)/\(0=(↑x:Int)/\True)/\True)/\∀F:Nat,(F<=za/\∀(j:Nat),j<F->nth Ty.str a j=nth Ty.str b j)->za<=aL->((decide ((↑F:Int)<(↑za:Int)))=true->(0<=(↑F:Int)/\(↑F:Int)<(↑za:Int))/\(0<=(↑F:Int)/\(↑F:Int)<zb)/\((!nth Ty.str a F == nth Ty.str b F)=true->zc)/\((!nth Ty.str a F == nth Ty.str b F)=false->aJ (↑F:Int)->aJ 1->aJ ((↑F:Int)+1)/\∃(x':Nat),(x'<=za/\∀(j:Nat),j<x'->nth Ty.str a j=nth Ty.str b j)/\za-x'<za-F/\((↑F:Int)+1=(↑x':Int)/\True)/\True))/\((decide ((↑F:Int)<(↑za:Int)))=false->true=nE a b))) (by kernel_rfl) ?_
 dsimp -iota -proj -eta only;refine fun h0 h1=>iN (fun h2=>(Pa ‹_›)) (fun h2=>⟨(⟨0,⟨by omega,fun j hj=>by omega⟩,⟨rfl,ba⟩,ba⟩),fun F q_0 h3=>iL (fun h4=>⟨?a,?b,⟨fun h5 =>?c,fun h5 h6 h7=>⟨?d,?e⟩⟩⟩) (fun h4=>(MD ‹_› (fun i hi=>q_0.2 i (by omega))))⟩)
 case a|b=>omega
 case c=>
  simp only[bl,reduceCtorEq]at h5;exact SC (i:=F) ‹_›
 case d=>
  simp only[bl,reduceCtorEq]at h5;simp only[aJ,aL]at*;omega
 case e=>
  simp only[bl,reduceCtorEq]at h5;exact⟨F+1,⟨by omega,Em q_0.2 ‹_›⟩,by omega,⟨by omega,ba⟩,(by trivial)⟩
def Tryz.Jc:bW Tryz.prog Tryz.B.eT Tryz.X 24 [.slice .str,.slice .str] [.bool] (fun _=>True) (fun x y=>y=(fun x=>nE x.1 x.2) x):=
 cC (X:=Tryz.X) (bR Tryz.bQ) Tryz.func24 (by kernel_rfl) (fun x=>Ja x.1 x.2) (fun x hw hp=>Jb x.1 x.2 hw)
def Jd(l:List (D aB))(s:List UInt8):dO:=[
 (0,fun st=>{X:=Nat×Int×Int,inv:=fun x=>x.1<=l.length/\iW l s x.1 0 x.2.1 x.2.2,cA:=fun x=>l.length-x.1,bK:=fun x=>[(14,sI x.1),(6,sI x.2.1),(7,sI x.2.2)],keep:=[1,12,13]}),
 (2,fun st=>{X:=Nat×Int×Int,inv:=fun x=>x.1<=(nth aB l (cZ (.int .i64) st 14).toNat).2.2.1.length/\iW l s (cZ (.int .i64) st 14).toNat x.1 x.2.1 x.2.2,cA:=fun x=>(nth aB l (cZ (.int .i64) st 14).toNat).2.2.1.length-x.1,bK:=fun x=>[(22,sI x.1),(6,sI x.2.1),(7,sI x.2.2)],keep:=[1,8,9,12,13,14,15,16,17,18,19,20,21]})]
def Ue(l:List (D aB))(s:List UInt8)(hw:gA [.slice aB,.str] (l,s)):(dG Tryz.B [] Tryz.f127 (Jd l s) [.slice aB,.str] [.int .i64,.int .i64] (fun x y=>y=(fun x=>dY x) x) (l,s)).holds:=by
 refine holds_of (p:=
  let za:=bb l
  let zb:=Nat×Int×Int
  let zc:=fun(F:Nat×Int×Int)=>(↑F.1:Int)
  let zd:=fun(F:Nat×Int×Int)=>(nth aB l F.1).2.2.1
  let ze:=fun(F:Nat×Int×Int)=>bb (zd F)
  let zf:=aJ 1
  let zg:=fun(I:Nat×Int×Int)=>zc I+1
  let zh:=fun(F:Nat×Int×Int)=>(nth aB l F.1).2.2.2.1
  let zi:=fun(F:Nat×Int×Int)=>((nth aB l F.1).1=(nth aB l F.1).1/\(nth aB l F.1).2.1=(nth aB l F.1).2.1/\zd F=zd F/\zh F=zh F/\True)/\@bc (Int×Int×Int×List UInt8×Bool×Unit)=@bc (Int×Int×Int×List UInt8×Bool×Unit)/\@bc (List UInt8×Int×Bool×Unit)=@bc (List UInt8×Int×Bool×Unit)/\@bc Int=@bc Int/\@bc (List UInt8)=@bc (List UInt8)/\True
  let zj:=fun(I:Nat×Int×Int) (F:Nat×Int×Int)=>aJ (zc I)->zf->aJ (zg I)/\∃(x':zb),(bh x'<=ze F/\iW l s F.1 (bh x') (bg x').1 (bg x').2)/\ze F-bh x'<ze F-I.1/\(zg I=(↑(bh x'):Int)/\I.2.1=(bg x').1/\I.2.2=(bg x').2/\True)/\zi F
  let zk:=dY (l,s)
  za<=aL->(∃(x:zb),(bh x<=za/\iW l s (bh x) 0 (bg x).1 (bg x).2)/\(0=(↑(bh x):Int)/\(-1:Int)=(bg x).1/\(-1:Int)=(bg x).2/\True)/\True)/\∀F:Nat×Int×Int,F.1<=za/\iW l s F.1 0 F.2.1 F.2.2->((decide (zc F<(↑za:Int)))=true->(0<=zc F/\zc F<(↑za:Int))/\(ze F<=aL->(∃(x:zb),(bh x<=ze F/\iW l s F.1 (bh x) (bg x).1 (bg x).2)/\(0=(↑(bh x):Int)/\F.2.1=(bg x).1/\F.2.2=(bg x).2/\True)/\True)/\∀I:Nat×Int×Int,I.1<=ze F/\iW l s F.1 I.1 I.2.1 I.2.2->((decide (zc I<(↑(ze F):Int)))=true->(0<=zc I/\zc I<(↑(ze F):Int))/\((!(nth aS (zd F) I.1).1 == s)=true->zj I F)/\((!(nth aS (zd F) I.1).1 == s)=false->((!(nth aS (zd F) I.1).2.2.1)=true->(zc F,zc I)=zk)/\((!(nth aS (zd F) I.1).2.2.1)=false->((decide (I.2.1<0))=true->aJ (zc I)->zf->aJ (zg I)/\∃(x':zb),(bh x'<=ze F/\iW l s F.1 (bh x') (bg x').1 (bg x').2)/\ze F-bh x'<ze F-I.1/\(zg I=(↑(bh x'):Int)/\zc F=(bg x').1/\zc I=(bg x').2/\True)/\zi F)/\((decide (I.2.1<0))=false->zj I F))))/\((decide (zc I<(↑(ze F):Int)))=false->aJ (zc F)->zf->aJ (zg F)/\∃(x':zb),(bh x'<=za/\iW l s (bh x') 0 (bg x').1 (bg x').2)/\za-bh x'<za-F.1/\(zg F=(↑(bh x'):Int)/\I.2.1=(bg x').1/\I.2.2=(bg x').2/\True)/\True)))/\((decide (zc F<(↑za:Int)))=false->F.2=zk)) (by kernel_rfl) ?_
 dsimp -iota -proj -eta only;refine fun h0=>⟨(⟨(0,-1,-1),⟨by omega,iW.start l s⟩,⟨rfl,rfl,rfl,ba⟩,ba⟩),fun F q_0=>iL (fun h1=>⟨?a,fun h2=>⟨(⟨(0,F.2),⟨by omega,q_0.2⟩,⟨rfl,rfl,rfl,ba⟩,ba⟩),fun I q_1=>iL (fun h3=>⟨?b,⟨fun h4 h5 h6=>⟨?c,?d⟩,fun h4=>iB (fun h5 =>?e) (fun h5=>iL (fun h6 h7 h8=>⟨?f,?g⟩) (fun h6 h7 h8=>⟨?h,?i⟩))⟩⟩) (fun h3 h4 h5=>⟨(by simp only[aJ,aL]at*;omega),(by exact⟨(F.1+1,I.2),⟨by omega,q_1.2.row (by omega)⟩,by simp only;omega,⟨by simp only;omega,rfl,rfl,ba⟩,(by trivial)⟩)⟩)⟩⟩) (fun h1=>((q_0.2.done (by omega)).symm))⟩
 case a|b=>omega
 case c|f|h=>
  simp only[bl,reduceCtorEq]at h4;simp only[aJ,aL]at*;omega
 case d=>
  simp only[bl,reduceCtorEq]at h4;exact⟨(I.1+1,I.2),⟨by omega,q_1.2.skip ‹_›⟩,by simp only;omega,⟨by simp only;omega,rfl,rfl,ba⟩,(by trivial)⟩
 case e=>
  simp only[bl,reduceCtorEq]at h4;exact(q_1.2.Ww (by omega) (by omega) ‹_› ‹_›).symm
 case g=>
  simp only[bl,reduceCtorEq]at h4;exact⟨(I.1+1,_,_),⟨by omega,q_1.2.Db (by omega) (by omega) ‹_› (by simp_all) (by omega)⟩,by simp only;omega,⟨by simp only;omega,rfl,rfl,ba⟩,(by trivial)⟩
 case i=>
  simp only[bl,reduceCtorEq]at h4;exact⟨(I.1+1,I.2),⟨by omega,q_1.2.more (by simp_all) (by omega)⟩,by simp only;omega,⟨by simp only;omega,rfl,rfl,ba⟩,(by trivial)⟩
def Tryz.Uf:bW Tryz.prog Tryz.B.eT Tryz.X 127 [.slice aB,.str] [.int .i64,.int .i64] (fun _=>True) (fun x y=>y=(fun x=>dY x) x):=
 cC (X:=Tryz.X) (bR Tryz.bQ) Tryz.func127 (by kernel_rfl) (fun x=>Jd x.1 x.2) (fun x hw hp=>Ue x.1 x.2 hw)
def Tryz.Je:List (FuncId×(Bool×aT)):=[(45,Tryz.spZ0),(17,Tryz.spZ1),(127,(true,cB [.slice aB,.str] [.int .i64,.int .i64] (fun _=>True) (fun x=>dY x)))]
def Tryz.Og:bO Tryz.prog Tryz.B Tryz.X Tryz.Je:=
 aN (aE Tryz.jm) (aN (aE Tryz.ir) (aN (aE Tryz.Uf) (bR Tryz.bQ)))
def Ru(l:List (D aB))(b:List Int)(t:D bD)(hw:gA [.slice aB,.slice (.int .i64),bD] (l,b,t))(hp:(fun x=>jN x.1/\x.2.1.length=x.1.length/\pL x.2.1) (l,b,t)):(dG Tryz.B Tryz.Je Tryz.f112 [] [.slice aB,.slice (.int .i64),bD] [.int .i64,.err] (fun x y=>y=(fun x=>fJ x.1 x.2.1 x.2.2) x) (l,b,t)).holds:=by
 refine holds_of (p:=
  let za:=dY (l,t.2.2.2.1)
  let zb:=0<=za.1
  let zc:=(nth aB l (bd za.1)).2.2.1
  let zd:=nth (Ty.int bm) b (bd za.1)
  let ze:=(nth aS zc (bd za.2)).2.1
  let zf:=fJ l b t
  True/\((decide (za.1>=0))=true->(zb/\za.1<(↑(bb b):Int))/\(zb/\za.1<(↑(bb l):Int))/\(0<=za.2/\za.2<(↑(bb zc):Int))/\(aJ zd->aJ ze->aJ (zd+ze)/\(zd+ze,aK.nil)=zf))/\((decide (za.1>=0))=false->((t.2.2.2.2.1)=true->(0,aK.nil)=zf)/\((t.2.2.2.2.1)=false->(0,aK.no 6)=zf))) (by kernel_rfl) ?_
 dsimp -iota -proj -eta only;dsimp only at hp;refine⟨ba,iE (fun h0=>⟨?a,?b,?c,fun h1 h2=>⟨?d,((B6 (by omega)).symm)⟩⟩) (fun h0=>⟨fun h1=>((y9 (by omega) h1).symm),fun h1=>((w5 (by omega) h1).symm)⟩)⟩
 case a|b|c=>
  have hf:=yn (l:=l) (s:=t.2.2.2.1) (by omega);omega
 case d=>
  have hf:=yn (l:=l) (s:=t.2.2.2.1) (by omega);have hb:=p3 (n:=l.length) (i:=(dY (l,t.2.2.2.1)).1) hp.2.2 hp.2.1 (by omega) hf.1;have hs:=Pg (s:=t.2.2.2.1) hp.1 (by omega);unfold Small at hs;dsimp only[D]at*;simp only[aJ];omega
def Tryz.Rv:bW Tryz.prog Tryz.B.eT Tryz.X 112 [.slice aB,.slice (.int .i64),bD] [.int .i64,.err] (fun x=>jN x.1/\x.2.1.length=x.1.length/\pL x.2.1) (fun x y=>y=(fun x=>fJ x.1 x.2.1 x.2.2) x):=
 cC (X:=Tryz.X) Tryz.Og Tryz.func112 (by kernel_rfl) (fun _=>[]) (fun x hw hp=>Ru x.1 x.2.1 x.2.2 hw hp)
def Tryz.Fz:List (FuncId×(Bool×aT)):=[(112,(true,cB [.slice aB,.slice (.int .i64),bD] [.int .i64,.err] (fun x=>jN x.1/\x.2.1.length=x.1.length/\pL x.2.1) (fun x=>fJ x.1 x.2.1 x.2.2)))]
def Tryz.Kz:bO Tryz.prog Tryz.B Tryz.X Tryz.Fz:=
 aN (aE Tryz.Rv) (bR Tryz.bQ)
def WR(l:List (D aB))(b:List Int)(i:Int)(t:D bD)(hw:gA [.slice aB,.slice (.int .i64),.int .i64,bD] (l,b,i,t))(hp:(fun x=>jN x.1/\x.2.1.length=x.1.length/\pL x.2.1/\0<=x.2.2.1/\x.2.2.1<x.1.length/\Small x.2.2.2.1/\Word x.2.2.2.2.2.1) (l,b,i,t)):(dG Tryz.B Tryz.Fz Tryz.f93 [] [.slice aB,.slice (.int .i64),.int .i64,bD] [.int .i64,.err] (fun x y=>y=(fun x=>gT x.1 x.2.1 x.2.2.1 x.2.2.2) x) (l,b,i,t)).holds:=by
 refine holds_of (p:=
  let za:=0<=i/\i<(↑(bb b):Int)
  let zb:=nth (Ty.int bm) b (bd i)
  let zc:=t.2.2.1
  let zd:=zb+zc
  let ze:=fJ l b t
  let zf:=gT l b i t
  let zg:=ze.1+zc
  let zh:=t.2.1 == 3
  let zi:=zb+t.1
  let zj:=aJ zi
  let zk:=zg-zi
  let zl:=(0,aK.no 7)=zf
  let zm:=(-2147483648:Int)
  let zn:=zd-zi
  za/\(aJ zb->aJ zc->aJ zd/\((t.2.1 != 1)=true->(jN l/\bb b=bb l/\pL b)/\((!aK.isNil ze.2)=true->(0,ze.2)=zf)/\((!aK.isNil ze.2)=false->aJ ze.1->aJ zc->aJ zg/\(zh=true->za/\(aJ zb->aJ t.1->zj/\(aJ zg->zj->aJ zk/\((decide (zk<(-500:Int)))=true->zl)/\((decide (zk<(-500:Int)))=false->((decide (zk > 500))=true->zl)/\((decide (zk > 500))=false->((decide (zk<zm))=true->zl)/\((decide (zk<zm))=false->((decide (zk > 2147483647))=true->zl)/\((decide (zk > 2147483647))=false->(zk,aK.nil)=zf)))))))/\(zh=false->((decide (zg<zm))=true->zl)/\((decide (zg<zm))=false->((decide (zg > 2147483647))=true->zl)/\((decide (zg > 2147483647))=false->(zg,aK.nil)=zf)))))/\((t.2.1 != 1)=false->(zh=true->za/\(aJ zb->aJ t.1->zj/\(aJ zd->zj->aJ zn/\((decide (zn<(-500:Int)))=true->zl)/\((decide (zn<(-500:Int)))=false->((decide (zn > 500))=true->zl)/\((decide (zn > 500))=false->((decide (zn<zm))=true->zl)/\((decide (zn<zm))=false->((decide (zn > 2147483647))=true->zl)/\((decide (zn > 2147483647))=false->(zn,aK.nil)=zf)))))))/\(zh=false->((decide (zd<zm))=true->zl)/\((decide (zd<zm))=false->((decide (zd > 2147483647))=true->zl)/\((decide (zd > 2147483647))=false->(zd,aK.nil)=zf)))))) (by kernel_rfl) ?_
 dsimp -iota -proj -eta only;dsimp only at hp;refine⟨?a,fun h0 h1=>⟨?b,iN (fun h2=>⟨(by simp_all),iB (fun h3=>((Va ‹_› ‹_›).symm)) (fun h3 h4 h5=>⟨?c,iQ (fun h6=>⟨?d,fun h7 h8=>⟨?e,fun h9 h10=>⟨?f,iL (fun h11 =>?g) (fun h11=>iL (fun h12 =>?h) (fun h12=>iL (fun h13 =>?i) (fun h13=>iL (fun h14 =>?j) (fun h14=>(by rw[yq ‹_› ‹_›,Vb ‹_› rfl (by dsimp only[D]at*;omega)])))))⟩⟩⟩) (fun h6=>iL (fun h7 =>?k) (fun h7=>iL (fun h8 =>?l) (fun h8=>(by rw[yq ‹_› ‹_›,Dj ‹_› rfl (by dsimp only[D]at*;omega)]))))⟩)⟩) (fun h2=>iQ (fun h3=>⟨?m,fun h4 h5=>⟨?n,fun h6 h7=>⟨?o,iL (fun h8 =>?p) (fun h8=>iL (fun h9 =>?q) (fun h9=>iL (fun h10 =>?r) (fun h10=>iL (fun h11 =>?s) (fun h11 =>?t))))⟩⟩⟩) (fun h3=>iL (fun h4 =>?u) (fun h4=>iL (fun h5 =>?v) (fun h5=>(by rw[AH ‹_›,Dj (by simp_all) rfl (by dsimp only[D]at*;omega)])))))⟩⟩
 case a|d|i|j|m|r|s=>omega
 case b|c|e|f|n|o=>
  have hb:=p3 hp.2.2.1 hp.2.1 hp.2.2.2.1 hp.2.2.2.2.1;have ht:=w6 t hp.1 hp.2.1 hp.2.2.1;have hs:=hp.2.2.2.2.2;unfold Small Word at hs;dsimp only[D]at*;simp only[aJ];omega
 case g|h=>rw[yq ‹_› ‹_›,SI ‹_› (by dsimp only[D]at*;omega)]
 case k|l=>
  have hb:=p3 hp.2.2.1 hp.2.1 hp.2.2.2.1 hp.2.2.2.2.1;have ht:=w6 t hp.1 hp.2.1 hp.2.2.1;have hs:=hp.2.2.2.2.2;unfold Small Word at hs;dsimp only[D]at*
  first|omega|(rw[yq ‹_› ‹_›,Hb ‹_› (by omega)])
 case p|q|t=>dsimp only[D]at*;omega
 case u|v=>
  have hb:=p3 hp.2.2.1 hp.2.1 hp.2.2.2.1 hp.2.2.2.2.1;have ht:=w6 t hp.1 hp.2.1 hp.2.2.1;have hs:=hp.2.2.2.2.2;unfold Small Word at hs;dsimp only[D]at*
  first|omega|(rw[AH ‹_›,Hb (by simp_all) (by omega)])
def Tryz.WS:bW Tryz.prog Tryz.B.eT Tryz.X 93 [.slice aB,.slice (.int .i64),.int .i64,bD] [.int .i64,.err] (fun x=>jN x.1/\x.2.1.length=x.1.length/\pL x.2.1/\0<=x.2.2.1/\x.2.2.1<x.1.length/\Small x.2.2.2.1/\Word x.2.2.2.2.2.1) (fun x y=>y=(fun x=>gT x.1 x.2.1 x.2.2.1 x.2.2.2) x):=
 cC (X:=Tryz.X) Tryz.Kz Tryz.func93 (by kernel_rfl) (fun _=>[]) (fun x hw hp=>WR x.1 x.2.1 x.2.2.1 x.2.2.2 hw hp)
def Tryz.FA:List (FuncId×(Bool×aT)):=[(93,(true,cB [.slice aB,.slice (.int .i64),.int .i64,bD] [.int .i64,.err] (fun x=>jN x.1/\x.2.1.length=x.1.length/\pL x.2.1/\0<=x.2.2.1/\x.2.2.1<x.1.length/\Small x.2.2.2.1/\Word x.2.2.2.2.2.1) (fun x=>gT x.1 x.2.1 x.2.2.1 x.2.2.2)))]
def Tryz.KA:bO Tryz.prog Tryz.B Tryz.X Tryz.FA:=
 aN (aE Tryz.WS) (bR Tryz.bQ)
def Rw(l:List (D aB))(b:List Int):dO:=[
 (0,fun st=>{X:=Nat,inv:=fun i=>i<=b.length/\∀j,j<i->0<=(nth (.int .i64) b j:Int)/\(nth (.int .i64) b j:Int)<=256,cA:=fun i=>b.length-i,bK:=fun i=>[(23,sI i)],keep:=[0,1,21,22]}),
 (2,fun st=>{X:=Nat×List (D aR),inv:=fun x=>x.1<=l.length/\nQ l b (l.drop x.1) x.1 x.2=nQ l b l 0 []/\x.2.length<=10*x.1,cA:=fun x=>l.length-x.1,bK:=fun x=>[(37,sI x.1),(8,.s (.one (.app aR x.2 (bG st 8))))],aF:=fun x=>[(bG st 8,.tok aR x.2)],keep:=[0,1,35,36],gQ:=[bG st 8]}),
 (4,fun st=>{X:=Nat×List (D aR),inv:=fun x=>x.1<=(nth aB l (cZ (.int .i64) st 37).toNat).2.2.2.1.length/\oB (nQ l b (l.drop ((cZ (.int .i64) st 37).toNat+1)) ((cZ (.int .i64) st 37).toNat+1)) (od l b (cZ (.int .i64) st 37).toNat ((nth aB l (cZ (.int .i64) st 37).toNat).2.2.2.1.drop x.1) x.2)=nQ l b l 0 []/\x.2.length<=10*(cZ (.int .i64) st 37).toNat+x.1,cA:=fun x=>(nth aB l (cZ (.int .i64) st 37).toNat).2.2.2.1.length-x.1,bK:=fun x=>[(45,sI x.1),(8,.s (.one (.app aR x.2 (bG st 8))))],aF:=fun x=>[(bG st 8,.tok aR x.2)],keep:=[0,1,9,10,35,36,37,38,39,40,41,42,43,44],gQ:=[bG st 8]})]
def WT(l:List (D aB))(b:List Int)(hw:gA [.slice aB,.slice (.int .i64)] (l,b))(hp:(fun x=>jN x.1) (l,b)):(dG Tryz.B Tryz.FA Tryz.f64 (Rw l b) [.slice aB,.slice (.int .i64)] [.slice aR,.err] (fun x y=>y=(fun x=>iF x) x) (l,b)).holds:=by
 refine holds_of (p:=
  let za:=bb b
  let zb:=bb l
  let zc:=iF (l,b)
  let zd:=Ty.int bm
  let ze:=([],aK.no 1)=zc
  let zf:=aJ 1
  let zg:=@bc (Int×Int×Int×Unit)=@bc (Int×Int×Int×Unit)/\True
  let zh:=Nat×List (Int×Int×Int×Unit)
  let zi:=nQ l b l 0 (@bc Pt)
  let zj:=fun(I:Nat×List (Int×Int×Int×Unit))=>10*I.1
  let zk:=fun(I:Nat×List (Int×Int×Int×Unit))=>(↑I.1:Int)
  let zl:=fun(I:Nat×List (Int×Int×Int×Unit))=>zk I<(↑zb:Int)
  let zm:=fun(I:Nat×List (Int×Int×Int×Unit))=>0<=zk I
  let zn:=fun(I:Nat×List (Int×Int×Int×Unit))=>(nth aB l I.1).2.2.2.1
  let zo:=fun(I:Nat×List (Int×Int×Int×Unit))=>bb (zn I)
  let zp:=fun(I:Nat×List (Int×Int×Int×Unit))=>nQ l b (bj (I.1+1) l) (I.1+1)
  let zq:=fun(I K:Nat×List (Int×Int×Int×Unit))=>(gT l b (zk I) (nth bD (zn I) K.1)).2
  let zr:=fun(I K:Nat×List (Int×Int×Int×Unit))=>[(zk I,(nth bD (zn I) K.1).1,(gT l b (zk I) (nth bD (zn I) K.1)).1,())]
  za<=aL->zb<=aL->(((↑za:Int) != (↑zb:Int))=true->([],aK.no 3)=zc)/\(((↑za:Int) != (↑zb:Int))=false->za<=aL->(∃(x:Nat),(x<=za/\∀(j:Nat),j<x->0<=nth zd b j/\nth zd b j<=256)/\(0=(↑x:Int)/\True)/\True)/\∀F:Nat,(F<=za/\∀(j:Nat),j<F->0<=nth zd b j/\nth zd b j<=256)->((decide ((↑F:Int)<(↑za:Int)))=true->(0<=(↑F:Int)/\(↑F:Int)<(↑za:Int))/\((decide (nth zd b F<0))=true->ze)/\((decide (nth zd b F<0))=false->((decide (nth zd b F > 256))=true->ze)/\((decide (nth zd b F > 256))=false->aJ (↑F:Int)->zf->aJ ((↑F:Int)+1)/\∃(x':Nat),(x'<=za/\∀(j:Nat),j<x'->0<=nth zd b j/\nth zd b j<=256)/\za-x'<za-F/\((↑F:Int)+1=(↑x':Int)/\True)/\zg)))/\((decide ((↑F:Int)<(↑za:Int)))=false->zb<=aL->(∃(x:zh),(bh x<=zb/\nQ l b (bj (bh x) l) (bh x) (bg x)=zi/\bb (bg x)<=10*bh x)/\(0=(↑(bh x):Int)/\@bc (Int×Int×Int×Unit)=bg x/\True)/\@bc (Int×Int×Int×Unit)=bg x/\True)/\∀I:Nat×List (Int×Int×Int×Unit),I.1<=zb/\nQ l b (bj I.1 l) I.1 I.2=zi/\bb I.2<=zj I->((decide (zl I))=true->(zm I/\zl I)/\(zo I<=aL->(∃(x:zh),(bh x<=zo I/\oB (zp I) (od l b I.1 (bj (bh x) (zn I)) (bg x))=zi/\bb (bg x)<=zj I+bh x)/\(0=(↑(bh x):Int)/\I.2=bg x/\True)/\I.2=bg x/\True)/\∀K:Nat×List (Int×Int×Int×Unit),K.1<=zo I/\oB (zp I) (od l b I.1 (bj K.1 (zn I)) K.2)=zi/\bb K.2<=zj I+K.1->((decide (zk K<(↑(zo I):Int)))=true->(zm K/\zk K<(↑(zo I):Int))/\(jN l/\za=zb/\pL b/\zm I/\zl I/\Small (nth bD (zn I) K.1).1/\Word (nth bD (zn I) K.1).2.2.1)/\((!aK.isNil (zq I K))=true->([],zq I K)=zc)/\((!aK.isNil (zq I K))=false->(K.2=K.2/\bb K.2+bb (zr I K)<=1000000000)/\(aJ (zk K)->zf->aJ (zk K+1)/\∃(x':zh),(bh x'<=zo I/\oB (zp I) (od l b I.1 (bj (bh x') (zn I)) (bg x'))=zi/\bb (bg x')<=zj I+bh x')/\zo I-bh x'<zo I-K.1/\(zk K+1=(↑(bh x'):Int)/\K.2++zr I K=bg x'/\True)/\K.2++zr I K=bg x'/\((nth aB l I.1).1=(nth aB l I.1).1/\(nth aB l I.1).2.1=(nth aB l I.1).2.1/\(nth aB l I.1).2.2.1=(nth aB l I.1).2.2.1/\zn I=zn I/\True)/\@bc (Int×Int×Int×List UInt8×Bool×Unit)=@bc (Int×Int×Int×List UInt8×Bool×Unit)/\@bc (List UInt8×Int×Bool×Unit)=@bc (List UInt8×Int×Bool×Unit)/\@bc Int=@bc Int/\@bc (List UInt8)=@bc (List UInt8)/\zg)))/\((decide (zk K<(↑(zo I):Int)))=false->aJ (zk I)->zf->aJ (zk I+1)/\∃(x':zh),(bh x'<=zb/\nQ l b (bj (bh x') l) (bh x') (bg x')=zi/\bb (bg x')<=10*bh x')/\zb-bh x'<zb-I.1/\(zk I+1=(↑(bh x'):Int)/\K.2=bg x'/\True)/\K.2=bg x'/\zg)))/\((decide (zl I))=false->(I.2,aK.nil)=zc)))) (by kernel_rfl) ?_
 dsimp -iota -proj -eta only;dsimp only at hp;refine fun h0 h1=>iN (fun h2=>((SH (by omega)).symm)) (fun h2 h3=>⟨(⟨0,⟨by omega,fun j hj=>by omega⟩,⟨rfl,ba⟩,ba⟩),fun F q_0=>iL (fun h4=>⟨?a,iL (fun h5 =>?b) (fun h5=>iL (fun h6 =>?c) (fun h6 h7 h8=>⟨?d,(⟨F+1,⟨by omega,lX q_0.2 (by dsimp only[D]at*;omega)⟩,by omega,⟨by omega,ba⟩,(by trivial)⟩)⟩))⟩) (fun h4 h5=>⟨(⟨(0,[]),⟨by omega,rfl,by simp⟩,(by trivial),(by trivial)⟩),fun I q_1=>iL (fun h6=>⟨?e,fun h7=>⟨(by exact⟨(0,I.2),⟨by omega,by rw[<-Pe (by omega)];exact q_1.2.1,by simp only;omega⟩,(by trivial),(by trivial)⟩),fun K q_2=>iL (fun h8=>⟨?f,?g,iB (fun h9 =>?h) (fun h9=>⟨?i,fun h10 h11=>⟨?j,?k⟩⟩)⟩) (fun h8 h9 h10=>⟨?l,?m⟩)⟩⟩) (fun h6 =>?n)⟩)⟩)
 case a|e|f=>omega
 case b|c=>exact(Pf (i:=F) (by omega) (by omega) (by dsimp only[D]at*;omega)).symm
 case d|j|l=>simp only[aJ,aL]at*;omega
 case g=>
  have hlen:b.length=l.length:=(by omega);have hib:pL b:=fun j hj=>q_0.2 j (by omega)
  have hm:=hp.2 I.1 (by omega);have htk:=hm.2.2 K.1 (by omega);have hb:=p3 (i:=(I.1:Int)) hib hlen (by omega) (by omega);unfold Small Word at htk;rw[e0]at hb;exact⟨hp,hlen,hib,by omega,by omega,htk.1,htk.2⟩
 case h=>
  have hlen:b.length=l.length:=(by omega);have hib:pL b:=fun j hj=>q_0.2 j (by omega)
  rw[Di hlen hib,<-q_2.2.1,U8 (by omega) ‹_›]
 case i=>
  have hlen:b.length=l.length:=(by omega);have hib:pL b:=fun j hj=>q_0.2 j (by omega)
  have hm:=hp.2 I.1 (by omega);have htk:=hm.2.2 K.1 (by omega);have hb:=p3 (i:=(I.1:Int)) hib hlen (by omega) (by omega);unfold Small Word at htk;rw[e0]at hb;have:=hm.1;have:=hp.1;exact⟨rfl,by simp only[b3,aL];omega⟩
 case k=>
  have ho:(gT l b I.1 (nth bD (nth aB l I.1).2.2.2.1 K.1)).2.isNil=true:=by assumption
  exact⟨(K.1+1,_),⟨by omega,by rw[<-q_2.2.1,Wx (k:=K.1) (by omega) ho],by simp only[bt,b3];omega⟩,by simp only;omega,⟨by simp only;omega,rfl,ba⟩,(by trivial)⟩
 case m=>
  have hm:=hp.2 I.1 (by omega);exact⟨(I.1+1,K.2),⟨by omega,by rw[<-q_2.2.1,U9 (by omega)],by have:=hm.1;simp only;omega⟩,by simp only;omega,⟨by simp only;omega,rfl,ba⟩,(by trivial)⟩
 case n=>
  have hlen:b.length=l.length:=(by omega);have hib:pL b:=fun j hj=>q_0.2 j (by omega)
  rw[Di hlen hib,<-q_1.2.1,U7 (by omega)]
def Tryz.WU:bW Tryz.prog Tryz.B.eT Tryz.X 64 [.slice aB,.slice (.int .i64)] [.slice aR,.err] (fun x=>jN x.1) (fun x y=>y=(fun x=>iF x) x):=
 cC (X:=Tryz.X) Tryz.KA Tryz.func64 (by kernel_rfl) (fun x=>Rw x.1 x.2) (fun x hw hp=>WT x.1 x.2 hw hp)
def Rx(w:List (List Int))(l:List (D aR)):dO:=[
 (200000,fun st=>{X:=Nat,inv:=fun i=>i<=w.length,cA:=fun i=>w.length-i,bK:=fun i=>[(13,sI i)],aM:=[.ext 0 mi],refs:=[(6,0)],pd:=fun i=>(w.take i,()),keep:=[1,4,5,11,12]}),
 (2,fun st=>{X:=Nat,inv:=fun k=>k<=l.length/\∀j,j<k->ua w (nth aR l j),cA:=fun k=>l.length-k,bK:=fun k=>[(25,sI k)],aF:=fun k=>[(bG st 6,.ext 0 mi (lu w (l.take k)))],keep:=[6,23,24],gQ:=[bG st 6]})]
def WV(w:List (List Int))(l:List (D aR))(hw:gA [mi,.slice aR] (w,l))(hp:(fun x=>x.1.length<=100000/\∀i,i<x.1.length->(nth ji x.1 i).length<=100000000) (w,l)):(dG (lW Tryz.B [6]) [] Tryz.f65 (Rx w l) [mi,.slice aR] [mi,.err] (fun x y=>y=(fun x=>iX x) x) (w,l)).holds:=by
 refine holds_of (p:=
  let za:=bb w
  let zb:=@bc (List Int)=@bc (List Int)/\True
  let zc:=(!false&&true)=true
  let zd:=fun(F:Nat)=>[nth (Ty.slice (Ty.int bm)) w F]
  let ze:=fun(F:Nat)=>(↑F:Int)+1
  let zf:=bb l
  let zg:=fun(I:Nat)=>(nth aR l I).1
  let zh:=([],aK.no 1)=iX (w,l)
  let zi:=fun(I:Nat)=>lu w (bf I l)
  let zj:=fun(I:Nat)=>(nth aR l I).2.1
  let zk:=fun(I:Nat)=>0<=zg I/\zg I<(↑(bb (zi I)):Int)
  let zl:=fun(I:Nat)=>bd (zg I)<bb (zi I)
  let zm:=fun(I:Nat)=>nth ji (zi I) (bd (zg I))
  za<=aL->(∃(x':Nat),x'<=za/\True/\(0=(↑x':Int)/\True)/\zb/\zc/\([],())=(bf x' w,()))/\∀F:Nat,F<=za->((decide ((↑F:Int)<(↑za:Int)))=true->(0<=(↑F:Int)/\(↑F:Int)<(↑za:Int))/\bb (nth (Ty.slice (Ty.int bm)) w F)<=1000000000/\(0<bb (zd F)/\bb (bf F w)+bb (zd F)<=1000000000)/\(aJ (↑F:Int)->aJ 1->aJ (ze F)/\∃(x':Nat),x'<=za/\za-x'<za-F/\(ze F=(↑x':Int)/\True)/\zb/\zc/\(bf F w++zd F,())=(bf x' w,())))/\((decide ((↑F:Int)<(↑za:Int)))=false->zf<=aL->(∃(x:Nat),(x<=zf/\∀(j:Nat),j<x->ua w (nth aR l j))/\(0=(↑x:Int)/\True)/\bf F w=lu w (bf x l)/\True)/\∀I:Nat,(I<=zf/\∀(j:Nat),j<I->ua w (nth aR l j))->((decide ((↑I:Int)<(↑zf:Int)))=true->(0<=(↑I:Int)/\(↑I:Int)<(↑zf:Int))/\((decide (zg I<0))=true->zh)/\((decide (zg I<0))=false->bb (zi I)<=aL->((decide (zg I>=(↑(bb (zi I)):Int)))=true->zh)/\((decide (zg I>=(↑(bb (zi I)):Int)))=false->((decide (zj I<0))=true->zh)/\((decide (zj I<0))=false->zk I/\zl I/\zl I/\(bb (zm I)<=aL->((decide (zj I>=(↑(bb (zm I)):Int)))=true->zh)/\((decide (zj I>=(↑(bb (zm I)):Int)))=false->zk I/\zl I/\(zl I/\0<=zj I/\zj I<(↑(bb (zm I)):Int))/\(zl I/\bd (zj I)<bb (zm I))/\(aJ (↑I:Int)->aJ 1->aJ (ze I)/\∃(x':Nat),(x'<=zf/\∀(j:Nat),j<x'->ua w (nth aR l j))/\zf-x'<zf-I/\(ze I=(↑x':Int)/\True)/\c7 (zi I) (bd (zg I)) (c7 (zm I) (bd (zj I)) (nth aR l I).2.2.1)=lu w (bf x' l)/\zb)))))))/\((decide ((↑I:Int)<(↑zf:Int)))=false->(zi I,aK.nil)=iX (w,l)))) (by kernel_rfl) ?_
 dsimp -iota -proj -eta only;dsimp only at hp;refine fun h0=>⟨(⟨0,by omega,ba,⟨rfl,ba⟩,⟨rfl,ba⟩,rfl,rfl⟩),fun F q_0=>iL (fun h1=>⟨?a,(by have:=hp.2 F (by omega);show bb (nth ji w F)<=1000000000;omega),(by have:=hp.1;simp only[b3,b7,aL];omega),fun h2 h3=>⟨?b,(⟨F+1,by omega,by omega,⟨by omega,ba⟩,⟨rfl,ba⟩,rfl,by rw[lK (t:=ji) (by omega)]⟩)⟩⟩) (fun h1 h2=>⟨(by exact⟨0,⟨by omega,fun j hj=>by omega⟩,⟨rfl,ba⟩,by rw[de (by omega)];rfl,ba⟩),fun I q_1=>iL (fun h3=>⟨?c,iL (fun h4 =>?d) (fun h4 h5=>iE (fun h6 =>?e) (fun h6=>iL (fun h7 =>?f) (fun h7=>⟨?g,?h,?i,fun h8=>iE (fun h9 =>?j) (fun h9=>⟨?k,?l,?m,?n,fun h10 h11=>⟨?o,?p⟩⟩)⟩)))⟩) (fun h3=>(by rw[yp fun i hi=>q_1.2 i (by omega),de (by omega)]))⟩)⟩
 case a|c=>omega
 case b|o=>simp only[aJ,aL]at*;omega
 case d|e|f|j=>
  have hr:=w4 (l.take I) w (nth aR l I).1.toNat;have hll:=qo (l.take I) w;exact(SE (i:=I) (by omega) (by unfold ua;dsimp only[D]at*;omega)).symm
 case g|h|i|k|l|m|n=>
  have hr:=w4 (l.take I) w (nth aR l I).1.toNat;have hll:=qo (l.take I) w
  first|omega|(dsimp only[D]at*;omega)
 case p=>
  have hr:=w4 (l.take I) w (nth aR l I).1.toNat;have hll:=qo (l.take I) w;exact⟨I+1,⟨by omega,lX q_1.2 (by unfold ua;dsimp only[D]at*;omega)⟩,by omega,⟨by omega,ba⟩,Pd (by omega),(by trivial)⟩
def Tryz.WW:bW Tryz.prog Tryz.B.eT Tryz.X 65 [mi,.slice aR] [mi,.err] (fun x=>x.1.length<=100000/\∀i,i<x.1.length->(nth ji x.1 i).length<=100000000) (fun x y=>y=(fun x=>iX x) x):=
 cC (B:=(lW Tryz.B [6])) (X:=Tryz.X) (bO.hint (l:=[6]) (bR Tryz.bQ)) Tryz.func65 (by kernel_rfl) (fun x=>Rx x.1 x.2) (fun x hw hp=>WV x.1 x.2 hw hp)
end Go.Proofs.YtgokjhhcfemnhadGreatDoor

