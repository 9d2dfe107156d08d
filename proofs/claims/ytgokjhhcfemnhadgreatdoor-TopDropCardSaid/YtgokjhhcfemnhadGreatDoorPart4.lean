/- A part of the proof that the law TopDropCard holds of the given program: facts that are used there. -/
import Derived.Test.YtgokjhhcfemnhadGreatDoorPart3
import Derived.Test.YtgokjhhcfemnhadGreatDoorChecked
import Derived.Lib.LaidTab
import Derived.Lib.ItoaNum
import Derived.Shelf.Strconv.Itoa3
import Derived.Shelf.Strconv.AtoiAll
import Derived.Shelf.Strings.Split
import Derived.Shelf.Small.Wraps
import Derived.Shelf.Strings.Prefix
import Derived.Shelf.LaysM
import Derived.Shelf.LaysC
import Derived.Sort.Grow
import Derived.Lib.SplitLaws
import Derived.Lib.Builder
import Derived.Lib.UnsafeStr
import Derived.Lib.Strings
import Derived.Lib.Slices
import Derived.Lib.Walk
import Derived.Laws.Externs
import Derived.Deep.Heap
import Derived.Shelf.RegionOpenPlain
import Derived.RangeFuncLeaves
import Derived.Shelf.Abstract
import Derived.WalkKit
import Derived.OwnWalkIn
import Derived.TacticsInMore
import Derived.LoopNIn
import Derived.LoopIn
import Derived.BigRegionIn
import Derived.Deep.LoopGhost
import Derived.Deep.RegionLaw
import Derived.Lib.SliceRun
import Derived.Shelf.SlicesG.Delete
import Derived.Deep.Upon
set_option linter.unusedSimpArgs false
set_option linter.unusedVariables false
set_option maxRecDepth 100000
set_option maxHeartbeats 4000000
set_option linter.defProp false
noncomputable section
open True renaming intro->ba
open List renaming length->bb,nil->bc,take->bd,drop->bj,map->bo,length_append->bt,length_singleton->bu,length_cons->bx,length_map->bz,length_nil->b3,length_take->b5,replicate->ch,length_replicate->cp,range->cr,take_of_length_le->cu,drop_zero->c7,set->c8,any->da,length_eq_zero_iff->dk,length_eq_one_iff->dn,length_drop->dw,mem_of_getElem?->ef,length_set->en,range_succ->ep,take_zero->er
open Int renaming toNat->bf,fdiv->cf,tmod->db,le_refl->dh,one_mul->du,le_of_lt_add_one->dz,toNat_natCast->e0
open Prod renaming snd->bg,fst->bh
open Go.IntKind renaming wrap->bk,i64->bm,u64->bw,u8->cd,bits->cj
open Go.Lib renaming itoa->bp,countB->bq,trimSuffix->br,splitB->b8,trimPrefix->cb,cell_of_heap->cc,hasPrefix->cz,atoiAll->dc,frozen_of_heap->de,TabIs->di,pow10Tab->dj,atoiSat->dm,nDigits_small->dT,decDigits_length->ec,splitB_all->ed,splitB_data->ee,run_unsafeSliceData_row->ej
open Nat renaming le_trans->b4,zero_le->b6,le_refl->b9,min->cg,not_lt_zero->cw,add_zero->dp,lt_div_iff_mul_lt->eo
open UInt8 renaming toNat->b7
open BitVec renaming ofInt->ca,toNat->cq
open Option renaming isNone->ck,map_eq_some_iff->c6,map_some->eg
open Go.Builtin renaming zeroCells->cm,clear_->dx,unsafeSliceData_->ei,unsafeString_->ek
open Go.Value renaming string->cn
open Bool renaming noConfusion->ct,eq_iff_iff->dy
open Go.Shelf renaming Ren->cy
open ByteArray renaming size->dd
open Array renaming length_toList->df
open Go.Result renaming andThen->dq
open Go.Oper renaming upon_value->dr
open Go.Deep renaming nblk_setCell->ds,blk_setCell_other->dt
open And renaming intro->dv
open Go.World renaming shape?->eh,os_setCells->eu,output_setCells->ew,heap_setCells_other->ey
open Go.Proofs.Lays renaming n103->e5,n102->e9,n146->fa
open Go.Proofs.LaysM renaming n171->e7
open Go.Proofs.LaysC renaming n172->e8
open Go.Extern.AbiNoEscape renaming same->fb
namespace Go.Proofs.YtgokjhhcfemnhadGreatDoor
open Go.Vg
def Tryz.B:Cx:={eT:=94,τ:=[(2,(.int .i64)),(3,(.int .i64)),(4,.bool),(5,(.int .u8)),(7,(.prod (.int .i64) (.prod (.int .i64) (.prod .bool (.prod (.int .u8) .unit))))),(9,.str),(12,(.int .u64)),(13,(.prod .str (.prod (.int .u64) .unit))),(18,(.prod .gB .unit)),(21,(.int .i32)),(22,(.slice dB)),(23,.gB),(24,.gB),(25,.gB),(30,.err),(31,.err),(33,(.slice jq)),(36,(.slice .str)),(37,(.slice aB)),(40,(.slice (.int .i64))),(48,(.int .u64)),(50,(.slice aG)),(51,(.slice aR)),(52,aC),(53,aC),(54,dB),(55,dB),(66,.gB),(74,(.prod .gB (.prod .gB .unit))),(75,(.prod .gB (.prod .gB .unit))),(81,(.slice aS)),(82,(.slice bC)),(83,aB),(84,aB),(88,(.prod .str (.prod (.int .i64) .unit))),(89,(.prod .str (.prod (.int .i64) .unit))),(91,.gB),(92,(.prod .gB (.prod (.int .i64) .unit))),(93,(.prod .gB (.prod (.int .i64) .unit))),(94,(.int .i64)),(96,(.slice jr)),(97,Um),(98,Um),(99,jr),(100,jr),(107,jq),(108,jq),(112,aG),(113,aG),(114,(.slice aC)),(116,(.prod .gB (.prod (.int .i64) (.prod (.slice aC) .unit)))),(117,(.prod .gB (.prod (.int .i64) (.prod (.slice aC) .unit)))),(138,(.slice (.slice (.int .i64)))),(148,aR),(149,aR),(157,(.slice (.int .u8))),(162,aS),(163,aS),(164,bC),(165,bC),(168,(.prod .gB (.prod (.slice (.int .u8)) .unit))),(169,(.prod .gB (.prod (.slice (.int .u8)) .unit))),(175,(.int .u64)),(179,(.slice aZ)),(180,aZ),(181,aZ),(197,(.int .u32)),(214,(.int .i64)),(227,(.prod (.int .u8) (.prod (.int .u8) .unit))),(228,(.prod (.int .u8) (.prod (.int .u8) .unit))),(233,(.prod .str (.prod .str (.prod .err .unit)))),(234,(.prod .str (.prod .str (.prod .err .unit)))),(242,(.prod .str .unit)),(243,(.prod .str .unit))],Ae:=[(221,(24,5)),(226,(256,5)),(229,(16,228)),(236,(20,48)),(237,(65,5)),(245,(32,5)),(246,(64,5)),(249,(0,16))],Γ:=[],N:=0,eqs:=[],oE:=[25,66,167],qt:=[(91,(9,89))],sk:=[(169,5)]}
def Tryz.bQ:TyOK Tryz.prog Tryz.B:=UW (n:=16) (by kernel_rfl)
structure Tryz.WA (w:World):Prop where
 pow:di Tryz.prog w "internal/strconv.uint64pow10" .u64 dj
 max:∃m,w.cell? ⟨0,0,none⟩=some (.int .i64 m)
 Xs:∃ev,w.cell? ⟨3,0,none⟩=some ev/\(ev=.nilIface\/∃te pe,ev=.iface te pe)
 Xt:∃ev,w.cell? ⟨4,0,none⟩=some ev/\(ev=.nilIface\/∃te pe,ev=.iface te pe)
def Tryz.WB:Tryz.prog.globalNamed "internal/strconv.uint64pow10" =some 5:=by kernel_rfl
def yC{w:World}{b o:Nat}{v:Value}(h:w.cell? ⟨b,o,none⟩=some v):b<w.heap.size:=by
 unfold World.cell? at h;by_cases hb:b<w.heap.size
 ·exact hb
 ·have h0:w.heap[b]?=none:=Array.getElem?_eq_none (by omega)
  simp[h0]at h
def vD{w w':World}{b o:Nat}(h:w'.heap[b]?=w.heap[b]?):w'.cell? ⟨b,o,none⟩=w.cell? ⟨b,o,none⟩:=by
 unfold World.cell?;rw[h]
def QG{P:Program}{w w':World}{nm:String}{g:Nat}(hg:P.globalNamed nm=some g)(h:w'.heap[g]?=w.heap[g]?):w'.var? P nm=w.var? P nm:=by
 unfold World.var?;rw[hg];simp[h]
def Tryz.X:Ext:=
 {WY with
  vY:=Tryz.WA
  DO:=[5,0,3,4]
  Gi:=fun{w} h b hb=>by
   obtain⟨h1,⟨m,h2⟩,⟨e3,h3,_⟩,⟨e4,h4,_⟩⟩:=h;simp only[List.mem_cons,List.not_mem_nil,or_false]at hb;rcases hb with rfl|rfl|rfl|rfl
   ·have h1':=World.var?_cell Tryz.WB h1 0
    exact yC (v:=.int .u64 1) (by simpa[dj]using h1')
   ·exact yC h2
   ·exact yC h3
   ·exact yC h4
  Bk:=fun{w w'} h hb=>by
   obtain⟨h1,⟨m,h2⟩,⟨e3,h3,h5⟩,⟨e4,h4,h6⟩⟩:=h;refine⟨?_,⟨m,?_⟩,⟨e3,?_,h5⟩,⟨e4,?_,h6⟩⟩
   ·unfold di at h1 ⊢
    rw[QG Tryz.WB (hb 5 (by simp))];exact h1
   ·rw[vD (hb 0 (by simp))];exact h2
   ·rw[vD (hb 3 (by simp))];exact h3
   ·rw[vD (hb 4 (by simp))];exact h4}
end Go.Proofs.YtgokjhhcfemnhadGreatDoor

namespace Go.Proofs.YtgokjhhcfemnhadGreatDoor
open Go.Vg Go.Mrl
def IF(s:List UInt8):dY:=[(0,fun st=>{X:=Nat,inv:=fun i=>i<=s.length/\∀j,j<i->ko j (dS s j)=false,cD:=fun i=>s.length-i,bM:=fun i=>[(15,.s (.one (.d (.int .i64) i)))],aF:=fun _=>[],keep:=[0,14],gP:=[]})]
def Tw(s:List UInt8)(hw:gU [.str] s):(dM Tryz.B [] Tryz.f45 (IF s) [.str] [.err] (fun x y=>y=(fun s=>aI (aO s)) x) s).holds:=by
 refine holds_of (p:=
  let za:=aI (aO s)
  let zb:=aL.no 1=za
  let zc:=bb s
  let zd:=fun(E:Nat)=>(↑(b7 (dS s E)):Int)
  let ze:=aL.no 3=za
  let zf:=fun(E:Nat)=>aJ (↑E:Int)->aJ 1->aJ ((↑E:Int)+1)/\∃(x':Nat),(x'<=zc/\∀(j:Nat),j<x'->ko j (dS s j)=false)/\zc-x'<zc-E/\((↑E:Int)+1=(↑x':Int)/\True)/\True
  let zg:=fun(E:Nat)=>((zd E != 95)=true->ze)/\((zd E != 95)=false->zf E)
  let zh:=fun(E:Nat)=>(((↑E:Int) == 0)=true->ze)/\(((↑E:Int) == 0)=false->((decide (zd E<48))=true->zg E)/\((decide (zd E<48))=false->((decide (zd E > 57))=true->zg E)/\((decide (zd E > 57))=false->zf E)))
  ((s == @bc UInt8)=true->zb)/\((s == @bc UInt8)=false->zc<=aM->((decide ((↑zc:Int) > 8))=true->zb)/\((decide ((↑zc:Int) > 8))=false->zc<=aM->(∃(x:Nat),(x<=zc/\∀(j:Nat),j<x->ko j (dS s j)=false)/\(0=(↑x:Int)/\True)/\True)/\∀E:Nat,(E<=zc/\∀(j:Nat),j<E->ko j (dS s j)=false)->((decide ((↑E:Int)<(↑zc:Int)))=true->(0<=(↑E:Int)/\(↑E:Int)<(↑zc:Int))/\((decide (zd E<97))=true->zh E)/\((decide (zd E<97))=false->((decide (zd E > 122))=true->zh E)/\((decide (zd E > 122))=false->zf E)))/\((decide ((↑E:Int)<(↑zc:Int)))=false->aL.nil=za)))) (by kernel_rfl) ?_
 dsimp -iota -proj -eta only;refine iQ (fun h0 =>?a) (fun h0 h1=>iL (fun h2 =>?b) (fun h2 h3=>⟨(⟨0,⟨by omega,fun j hj=>by omega⟩,⟨rfl,ba⟩,ba⟩),fun E q_0=>iL (fun h4=>⟨?c,iL (fun h5=>iQ (fun h6 =>?d) (fun h6=>iL (fun h7=>iN (fun h8 =>?e) (fun h8 h9 h10=>⟨?f,?g⟩)) (fun h7=>iL (fun h8=>iN (fun h9 =>?h) (fun h9 h10 h11=>⟨?i,?j⟩)) (fun h8 h9 h10=>⟨?k,?l⟩)))) (fun h5=>iL (fun h6=>iQ (fun h7 =>?m) (fun h7=>iL (fun h8=>iN (fun h9 =>?n) (fun h9 h10 h11=>⟨?o,?p⟩)) (fun h8=>iL (fun h9=>iN (fun h10 =>?q) (fun h10 h11 h12=>⟨?r,?s⟩)) (fun h9 h10 h11=>⟨?t,?u⟩)))) (fun h6 h7 h8=>⟨?v,?w⟩))⟩) (fun h4 =>?x)⟩))
 case a|b=>rw[FY (by first|omega|simp[h0])];rfl
 case c|f|o|r|t=>omega
 case d|e|h|m|n|q=>
  have hl:s.length≠0:=fun e=>h0 (dk.1 e)
  rw[BY (i:=E) (by omega) (by omega) (Ek.2 (by omega))];rfl
 case g|j|l|p|s|u|w=>exact⟨E+1,⟨by omega,Sn q_0.2 (JH.2 (by omega))⟩,by omega,⟨by omega,ba⟩,ba⟩
 case i|k|v=>simp only[aJ,aM]at*;omega
 case x=>
  have hl:s.length≠0:=fun e=>h0 (dk.1 e)
  rw[Dg (by omega) (fun i hi=>q_0.2 i (by omega))];rfl
def Tryz.jl:bY Tryz.prog Tryz.B.eT Tryz.X 45 [.str] [.err] (fun _=>True) (fun x y=>y=(fun s=>aI (aO s)) x):=
 cF (X:=Tryz.X) (bR Tryz.bQ) Tryz.func45 (by kernel_rfl) (fun x=>IF x) (fun x hw hp=>Tw x hw)
def QH(e:aL)(hw:gU [.err] e):(dM Tryz.B [] Tryz.f17 [] [.err] [.int .i64] (fun x y=>y=(fun e=>iA e) x) e).holds:=by
 refine holds_of (p:=
  ((aL.isNil e)=true->0=iA e)/\((aL.isNil e)=false->((!aL.LQ e)=true->(-1:Int)=iA e)/\((!aL.LQ e)=false->aL.num e=iA e))) (by kernel_rfl) ?_
 refine⟨fun h0 =>?a,fun h0=>iB (fun h1 =>?b) (fun h1 =>?c)⟩
 case a|b|c=>cases e <;> simp_all [aL.isNil,aL.LQ,aL.num,iA]
def Tryz.im:bY Tryz.prog Tryz.B.eT Tryz.X 17 [.err] [.int .i64] (fun _=>True) (fun x y=>y=(fun e=>iA e) x):=
 cF (X:=Tryz.X) (bR Tryz.bQ) Tryz.func17 (by kernel_rfl) (fun _=>[]) (fun x hw hp=>QH x hw)
def Tryz.spZ0:Bool×aT:=(true,cE [.str] [.err] (fun _=>True) (fun s=>aI (aO s)))
def Tryz.spZ1:Bool×aT:=(true,cE [.err] [.int .i64] (fun _=>True) (fun e=>iA e))
def Tryz.Lo:List (FuncId×(Bool×aT)):=[(45,Tryz.spZ0),(17,Tryz.spZ1)]
def Tryz.QI:bO Tryz.prog Tryz.B Tryz.X Tryz.Lo:=
 aQ (aE Tryz.jl) (aQ (aE Tryz.im) (bR Tryz.bQ))
def Lp(e:D aC):dY:=[
 (0,fun st=>{X:=Nat,inv:=fun i=>i<=bb e.2.1/\∀j,j<i->eG (nth aG e.2.1 j)=0,cD:=fun i=>bb e.2.1-i,bM:=fun i=>[(34,sI i)],keep:=[1,32,33]}),
 (2,fun st=>{X:=Nat,inv:=fun i=>i<=bb e.2.2.1/\∀j,j<i->eN e.2.1.length (nth aR e.2.2.1 j)=0,cD:=fun i=>bb e.2.2.1-i,bM:=fun i=>[(73,sI i)],keep:=[1,71,72]})]
def QJ(e:D aC)(hw:gU [aC] e):(dM Tryz.B Tryz.Lo Tryz.f46 (Lp e) [aC] [.err] (fun x y=>y=(fun e=>aI (bB e)) x) e).holds:=by
 refine holds_of (p:=
  let za:=aI (aO e.1)
  let zb:=aI (bB e)
  let zc:=e.2.1
  let zd:=bb zc
  let ze:=zd<=aM
  let zf:=(↑zd:Int)
  let zg:=aL.no (2:Int)=zb
  let zh:=e.2.2.1
  let zi:=bb zh
  let zj:=fun(E:Nat)=>aI (aO (nth aG zc E).1)
  let zk:=aL.no (1:Int)=zb
  let zl:=fun(E:Nat)=>(nth aG zc E).2.2.1
  let zm:=fun(E:Nat)=>(↑E:Int)+(1:Int)
  let zn:=(e.1=e.1/\zc=zc/\zh=zh/\True)/\True
  True/\((!aL.isNil za)=true->za=zb)/\((!aL.isNil za)=false->ze->((decide (zf<(1:Int)))=true->zg)/\((decide (zf<(1:Int)))=false->ze->((decide (zf > (6:Int)))=true->zg)/\((decide (zf > (6:Int)))=false->zi<=aM->((decide ((↑zi:Int) > (36:Int)))=true->zg)/\((decide ((↑zi:Int) > (36:Int)))=false->ze->(∃(x:Nat),(x<=zd/\∀(j:Nat),j<x->eG (nth aG zc j)=(0:Int))/\((0:Int)=(↑x:Int)/\True)/\True)/\∀E:Nat,(E<=zd/\∀(j:Nat),j<E->eG (nth aG zc j)=(0:Int))->((decide ((↑E:Int)<zf))=true->((0:Int)<=(↑E:Int)/\(↑E:Int)<zf)/\True/\((!aL.isNil (zj E))=true->zj E=zb)/\((!aL.isNil (zj E))=false->((decide ((nth aG zc E).2.1<(1:Int)))=true->zk)/\((decide ((nth aG zc E).2.1<(1:Int)))=false->((decide ((nth aG zc E).2.1 > (1000000:Int)))=true->zk)/\((decide ((nth aG zc E).2.1 > (1000000:Int)))=false->((decide (zl E<(0:Int)))=true->zk)/\((decide (zl E<(0:Int)))=false->((decide (zl E>=(256:Int)))=true->zk)/\((decide (zl E>=(256:Int)))=false->(16:Int)≠(0:Int)/\∀F:Int,F=db (zl E) (16:Int)->((F != (0:Int))=true->zk)/\((F != (0:Int))=false->aJ (↑E:Int)->aJ (1:Int)->aJ (zm E)/\∃(x':Nat),(x'<=zd/\∀(j:Nat),j<x'->eG (nth aG zc j)=(0:Int))/\zd-x'<zd-E/\(zm E=(↑x':Int)/\True)/\zn)))))))/\((decide ((↑E:Int)<zf))=false->zi<=aM->(∃(x:Nat),(x<=zi/\∀(j:Nat),j<x->eN zd (nth aR zh j)=(0:Int))/\((0:Int)=(↑x:Int)/\True)/\True)/\∀F:Nat,(F<=zi/\∀(j:Nat),j<F->eN zd (nth aR zh j)=(0:Int))->((decide ((↑F:Int)<(↑zi:Int)))=true->((0:Int)<=(↑F:Int)/\(↑F:Int)<(↑zi:Int))/\((decide ((nth aR zh F).1<(0:Int)))=true->zk)/\((decide ((nth aR zh F).1<(0:Int)))=false->ze->((decide ((nth aR zh F).1>=zf))=true->zk)/\((decide ((nth aR zh F).1>=zf))=false->((decide ((nth aR zh F).2.1<(0:Int)))=true->zk)/\((decide ((nth aR zh F).2.1<(0:Int)))=false->((decide ((nth aR zh F).2.1>=(40:Int)))=true->zk)/\((decide ((nth aR zh F).2.1>=(40:Int)))=false->((decide ((nth aR zh F).2.2.1<(-2147483648:Int)))=true->zk)/\((decide ((nth aR zh F).2.2.1<(-2147483648:Int)))=false->((decide ((nth aR zh F).2.2.1 > (2147483647:Int)))=true->zk)/\((decide ((nth aR zh F).2.2.1 > (2147483647:Int)))=false->aJ (↑F:Int)->aJ (1:Int)->aJ (zm F)/\∃(x':Nat),(x'<=zi/\∀(j:Nat),j<x'->eN zd (nth aR zh j)=(0:Int))/\zi-x'<zi-F/\(zm F=(↑x':Int)/\True)/\zn)))))))/\((decide ((↑F:Int)<(↑zi:Int)))=false->aL.nil=zb))))))) (by kernel_rfl) ?_
 dsimp -iota -proj -eta only;refine⟨ba,iB (fun h0=>(by rw[zL (mY (eV _) h0)])) (fun h0 h1=>iL (fun h2=>(by rw[qm (dE (by assumption:(aI (aO e.1)).isNil=true)) (.inl (by omega))];rfl)) (fun h2 h3=>iL (fun h4=>(by rw[qm (dE (by assumption:(aI (aO e.1)).isNil=true)) (.inr (.inl (by omega)))];rfl)) (fun h4 h5=>iL (fun h6=>(by rw[qm (dE (by assumption:(aI (aO e.1)).isNil=true)) (.inr (.inr (by omega)))];rfl)) (fun h6 h7=>⟨?a,fun E q_0=>iL (fun h8=>⟨?b,ba,iB (fun h9=>(by have hp:=mY (eV _) h9;rw[(jC (dE (by assumption:(aI (aO e.1)).isNil=true)) (iJ (by omega) (by omega) (by omega)) q_0.2 (by omega) (M9 hp) (by omega))])) (fun h9=>iL (fun h10=>(by rw[(jC (dE (by assumption:(aI (aO e.1)).isNil=true)) (iJ (by omega) (by omega) (by omega)) q_0.2 (by omega) (qF (dE h9) (.inl ‹_›)) (by decide))];rfl)) (fun h10=>iL (fun h11=>(by rw[(jC (dE (by assumption:(aI (aO e.1)).isNil=true)) (iJ (by omega) (by omega) (by omega)) q_0.2 (by omega) (qF (dE h9) (.inr (.inl ‹_›))) (by decide))];rfl)) (fun h11=>iL (fun h12=>(by rw[(jC (dE (by assumption:(aI (aO e.1)).isNil=true)) (iJ (by omega) (by omega) (by omega)) q_0.2 (by omega) (qF (dE h9) (.inr (.inr (.inl ‹_›)))) (by decide))];rfl)) (fun h12=>iE (fun h13=>(by rw[(jC (dE (by assumption:(aI (aO e.1)).isNil=true)) (iJ (by omega) (by omega) (by omega)) q_0.2 (by omega) (qF (dE h9) (.inr (.inr (.inr (.inl ‹_›))))) (by decide))];rfl)) (fun h13=>⟨(by trivial),fun F q_1=>iN (fun h14=>(by have hb:=HV h12 q_1;rw[(jC (dE (by assumption:(aI (aO e.1)).isNil=true)) (iJ (by omega) (by omega) (by omega)) q_0.2 (by omega) (qF (dE h9) (.inr (.inr (.inr (.inr (by rw[hb]at h14;exact(Int.lt_iff_le_and_ne.2 ⟨Int.emod_nonneg _ (by decide),fun e'=>h14 e'.symm⟩))))))) (by decide))];rfl)) (fun h14 h15 h16=>⟨?c,(by have hb:=HV h12 q_1;exact⟨E+1,⟨by omega,lY q_0.2 (HU (dE h9) h10 h11 h12 (dz (show _<(255:Int)+1 from h13)) (hb.symm.trans h14))⟩,by omega,⟨by omega,ba⟩,(by trivial)⟩)⟩)⟩)))))⟩) (fun h8 h9=>⟨?d,fun F q_1=>iL (fun h10=>⟨?e,iL (fun h11=>(by rw[(jD (dE (by assumption:(aI (aO e.1)).isNil=true)) (iJ (by omega) (by omega) (by omega)) (fun j hj=>q_0.2 j (by omega)) q_1.2 (by omega) (oV (.inl ‹_›)))];rfl)) (fun h11 h12=>iE (fun h13=>(by rw[(jD (dE (by assumption:(aI (aO e.1)).isNil=true)) (iJ (by omega) (by omega) (by omega)) (fun j hj=>q_0.2 j (by omega)) q_1.2 (by omega) (oV (.inr (.inl ‹_›))))];rfl)) (fun h13=>iL (fun h14=>(by rw[(jD (dE (by assumption:(aI (aO e.1)).isNil=true)) (iJ (by omega) (by omega) (by omega)) (fun j hj=>q_0.2 j (by omega)) q_1.2 (by omega) (oV (.inr (.inr (.inl ‹_›)))))];rfl)) (fun h14=>iE (fun h15=>(by rw[(jD (dE (by assumption:(aI (aO e.1)).isNil=true)) (iJ (by omega) (by omega) (by omega)) (fun j hj=>q_0.2 j (by omega)) q_1.2 (by omega) (oV (.inr (.inr (.inr (.inl ‹_›))))))];rfl)) (fun h15=>iL (fun h16=>(by rw[(jD (dE (by assumption:(aI (aO e.1)).isNil=true)) (iJ (by omega) (by omega) (by omega)) (fun j hj=>q_0.2 j (by omega)) q_1.2 (by omega) (oV (.inr (.inr (.inr (.inr (.inl ‹_›)))))))];rfl)) (fun h16=>iL (fun h17=>(by rw[(jD (dE (by assumption:(aI (aO e.1)).isNil=true)) (iJ (by omega) (by omega) (by omega)) (fun j hj=>q_0.2 j (by omega)) q_1.2 (by omega) (oV (.inr (.inr (.inr (.inr (.inr ‹_›)))))))];rfl)) (fun h17 h18 h19=>⟨?f,(⟨F+1,⟨by omega,lY q_1.2 (Ck ‹_› ‹_› ‹_› (dz (show _<(39:Int)+1 from h15)) ‹_› ‹_›)⟩,by omega,⟨by omega,ba⟩,(by trivial)⟩)⟩))))))⟩) (fun h10=>(by rw[EN (dE (by assumption:(aI (aO e.1)).isNil=true)) (iJ (by omega) (by omega) (by omega)) (fun j hj=>q_0.2 j (by omega)) (fun j hj=>q_1.2 j (by omega))];rfl))⟩)⟩))))⟩
 case a|d=>exact⟨0,⟨b6 _,fun j hj=>absurd hj (cw _)⟩,⟨rfl,ba⟩,ba⟩
 case b|e=>omega
 case c|f=>simp only[aJ,aM]at*;omega
def Tryz.Fh:bY Tryz.prog Tryz.B.eT Tryz.X 46 [aC] [.err] (fun _=>True) (fun x y=>y=(fun e=>aI (bB e)) x):=
 cF (X:=Tryz.X) Tryz.QI Tryz.func46 (by kernel_rfl) (fun x=>Lp x) (fun x hw hp=>QJ x hw)
end Go.Proofs.YtgokjhhcfemnhadGreatDoor

namespace Go.Proofs.YtgokjhhcfemnhadGreatDoor
open Go.Shelf
def Tryz.Kd:cy:=⟨fun|103=>81|210=>102|206=>119|n=>n,fun|9=>9|4=>4|24=>159|3=>3|n=>n,fun|n=>n⟩
def Tryz.Vr:e5 Tryz.prog Tryz.Kd:={
 mixed:=by kernel_rfl
 f103:=Tryz.func81.trans (congrArg some (by kernel_rfl))
 f206:=Tryz.func119.trans (congrArg some (by kernel_rfl))
 f210:=Tryz.func102.trans (congrArg some (by kernel_rfl))
 t3:=Tryz.underlying3
 a3:=Tryz.isAgg3
 z3:=Tryz.sizeOf3
 v3:=Tryz.zeroValue3
 t4:=Tryz.underlying4
 a4:=Tryz.isAgg4
 z4:=Tryz.sizeOf4
 v4:=Tryz.zeroValue4
 t9:=Tryz.underlying9
 a9:=Tryz.isAgg9
 z9:=Tryz.sizeOf9
 v9:=Tryz.zeroValue9
 t24:=Tryz.underlying159
 a24:=Tryz.isAgg159
 z24:=Tryz.sizeOf159
 v24:=Tryz.zeroValue159}
open Go.RowKit in
def Tryz.strings_CutPrefix(s p:ByteArray)(w:World) :
  Calls Tryz.prog 81 #[.string s,.string p] w fun e w'=>e=.returned (.tuple #[.string ⟨(cb s.data.toList p.data.toList).toArray⟩,.bool (cz s.data.toList p.data.toList)])/\w'=w:=Any.strings_CutPrefix Tryz.Vr s p w
def Tryz.IG:cy:=⟨fun|171=>84|243=>107|246=>124|283=>139|284=>140|285=>141|286=>142|129=>149|317=>148|318=>150|319=>151|320=>152|337=>155|338=>156|n=>n,fun|3=>3|9=>9|2=>2|4=>4|171=>221|0=>0|53=>48|37=>157|5=>5|173=>224|212=>236|51=>197|20=>20|213=>237|46=>175|232=>245|233=>246|n=>n,fun|17=>5|18=>6|19=>7|n=>n⟩
def Tryz.Tx:e7 Tryz.prog Tryz.IG:={
 mixed:=by kernel_rfl
 f129:=Tryz.func149.trans (congrArg some (by kernel_rfl))
 f171:=Tryz.func84.trans (congrArg some (by kernel_rfl))
 f243:=Tryz.func107.trans (congrArg some (by kernel_rfl))
 f246:=Tryz.func124.trans (congrArg some (by kernel_rfl))
 f283:=Tryz.func139.trans (congrArg some (by kernel_rfl))
 f284:=Tryz.func140.trans (congrArg some (by kernel_rfl))
 f285:=Tryz.func141.trans (congrArg some (by kernel_rfl))
 f286:=Tryz.func142.trans (congrArg some (by kernel_rfl))
 f317:=Tryz.func148.trans (congrArg some (by kernel_rfl))
 f318:=Tryz.func150.trans (congrArg some (by kernel_rfl))
 f319:=Tryz.func151.trans (congrArg some (by kernel_rfl))
 f320:=Tryz.func152.trans (congrArg some (by kernel_rfl))
 f337:=Tryz.func155.trans (congrArg some (by kernel_rfl))
 f338:=Tryz.func156.trans (congrArg some (by kernel_rfl))
 t0:=Tryz.underlying0
 a0:=Tryz.isAgg0
 z0:=Tryz.sizeOf0
 v0:=Tryz.zeroValue0
 t2:=Tryz.underlying2
 a2:=Tryz.isAgg2
 z2:=Tryz.sizeOf2
 v2:=Tryz.zeroValue2
 t3:=Tryz.underlying3
 a3:=Tryz.isAgg3
 z3:=Tryz.sizeOf3
 v3:=Tryz.zeroValue3
 t4:=Tryz.underlying4
 a4:=Tryz.isAgg4
 z4:=Tryz.sizeOf4
 v4:=Tryz.zeroValue4
 t5:=Tryz.underlying5
 a5:=Tryz.isAgg5
 z5:=Tryz.sizeOf5
 v5:=Tryz.zeroValue5
 t9:=Tryz.underlying9
 a9:=Tryz.isAgg9
 z9:=Tryz.sizeOf9
 v9:=Tryz.zeroValue9
 t20:=Tryz.underlying20
 a20:=Tryz.isAgg20
 z20:=Tryz.sizeOf20
 v20:=Tryz.zeroValue20
 t37:=Tryz.underlying157
 a37:=Tryz.isAgg157
 z37:=Tryz.sizeOf157
 v37:=Tryz.zeroValue157
 t46:=Tryz.underlying175
 a46:=Tryz.isAgg175
 z46:=Tryz.sizeOf175
 v46:=Tryz.zeroValue175
 t51:=Tryz.underlying197
 a51:=Tryz.isAgg197
 z51:=Tryz.sizeOf197
 v51:=Tryz.zeroValue197
 t53:=Tryz.underlying48
 a53:=Tryz.isAgg48
 z53:=Tryz.sizeOf48
 v53:=Tryz.zeroValue48
 t171:=Tryz.underlying221
 a171:=Tryz.isAgg221
 z171:=Tryz.sizeOf221
 v171:=Tryz.zeroValue221
 t173:=Tryz.underlying224
 a173:=Tryz.isAgg224
 z173:=Tryz.sizeOf224
 v173:=Tryz.zeroValue224
 t212:=Tryz.underlying236
 a212:=Tryz.isAgg236
 z212:=Tryz.sizeOf236
 v212:=Tryz.zeroValue236
 t213:=Tryz.underlying237
 a213:=Tryz.isAgg237
 z213:=Tryz.sizeOf237
 t232:=Tryz.underlying245
 a232:=Tryz.isAgg245
 z232:=Tryz.sizeOf245
 v232:=Tryz.zeroValue245
 t233:=Tryz.underlying246
 a233:=Tryz.isAgg246
 z233:=Tryz.sizeOf246
 v233:=Tryz.zeroValue246
 g17:=by kernel_rfl
 g18:=by kernel_rfl
 g19:=by kernel_rfl
 i0:=by kernel_rfl
 i2:=by kernel_rfl
 i3:=by kernel_rfl
 i4:=by kernel_rfl
 i5:=by kernel_rfl
 i9:=by kernel_rfl
 i20:=by kernel_rfl
 i37:=by kernel_rfl
 i46:=by kernel_rfl
 i51:=by kernel_rfl
 i53:=by kernel_rfl
 i171:=by kernel_rfl
 i173:=by kernel_rfl
 i212:=by kernel_rfl
 i232:=by kernel_rfl
 i233:=by kernel_rfl
 m17:=by kernel_rfl
 m18:=by kernel_rfl
 m19:=by kernel_rfl}
open Go.RowKit Go.Sort Go.Lib in
def Tryz.strconv_Itoa(n:Int)(h0 : -9223372036854775808<=n)(h1:n<=9223372036854775807)(w:World)(htab:di Tryz.prog w "internal/strconv.uint64pow10" .u64 dj) :
  Calls Tryz.prog 84 #[.int .i64 n] w fun e w'=>e=.returned (.string ⟨(bp n).toArray⟩)/\∃k os,w'=grow (w.drewN k) os:=Any.strconv_Itoa Tryz.Tx n h0 h1 w htab
def Tryz.IH:cy:=⟨fun|172=>103|244=>120|245=>121|247=>133|279=>134|280=>135|281=>136|282=>137|287=>145|316=>146|171=>84|205=>147|321=>153|322=>154|243=>107|246=>124|283=>139|284=>140|285=>141|286=>142|129=>149|317=>148|318=>150|319=>151|320=>152|337=>155|338=>156|n=>n,fun|9=>9|3=>3|75=>31|76=>171|4=>4|5=>5|167=>214|37=>157|0=>0|85=>215|2=>2|168=>217|53=>48|175=>231|46=>175|210=>234|127=>192|145=>243|143=>241|21=>21|171=>221|173=>224|212=>236|51=>197|20=>20|213=>237|232=>245|233=>246|80=>174|n=>n,fun|15=>3|16=>4|17=>5|18=>6|19=>7|n=>n⟩
def Tryz.A4:e8 Tryz.prog Tryz.IH:={
 mixed:=by kernel_rfl
 f129:=Tryz.func149.trans (congrArg some (by kernel_rfl))
 f171:=Tryz.func84.trans (congrArg some (by kernel_rfl))
 f172:=Tryz.func103.trans (congrArg some (by kernel_rfl))
 f205:=Tryz.func147.trans (congrArg some (by kernel_rfl))
 f243:=Tryz.func107.trans (congrArg some (by kernel_rfl))
 f244:=Tryz.func120.trans (congrArg some (by kernel_rfl))
 f245:=Tryz.func121.trans (congrArg some (by kernel_rfl))
 f246:=Tryz.func124.trans (congrArg some (by kernel_rfl))
 f247:=Tryz.func133.trans (congrArg some (by kernel_rfl))
 f279:=Tryz.func134.trans (congrArg some (by kernel_rfl))
 f280:=Tryz.func135.trans (congrArg some (by kernel_rfl))
 f281:=Tryz.func136.trans (congrArg some (by kernel_rfl))
 f282:=Tryz.func137.trans (congrArg some (by kernel_rfl))
 f283:=Tryz.func139.trans (congrArg some (by kernel_rfl))
 f284:=Tryz.func140.trans (congrArg some (by kernel_rfl))
 f285:=Tryz.func141.trans (congrArg some (by kernel_rfl))
 f286:=Tryz.func142.trans (congrArg some (by kernel_rfl))
 f287:=Tryz.func145.trans (congrArg some (by kernel_rfl))
 f316:=Tryz.func146.trans (congrArg some (by kernel_rfl))
 f317:=Tryz.func148.trans (congrArg some (by kernel_rfl))
 f318:=Tryz.func150.trans (congrArg some (by kernel_rfl))
 f319:=Tryz.func151.trans (congrArg some (by kernel_rfl))
 f320:=Tryz.func152.trans (congrArg some (by kernel_rfl))
 f321:=Tryz.func153.trans (congrArg some (by kernel_rfl))
 f322:=Tryz.func154.trans (congrArg some (by kernel_rfl))
 f337:=Tryz.func155.trans (congrArg some (by kernel_rfl))
 f338:=Tryz.func156.trans (congrArg some (by kernel_rfl))
 t0:=Tryz.underlying0
 a0:=Tryz.isAgg0
 z0:=Tryz.sizeOf0
 v0:=Tryz.zeroValue0
 t2:=Tryz.underlying2
 a2:=Tryz.isAgg2
 z2:=Tryz.sizeOf2
 v2:=Tryz.zeroValue2
 t3:=Tryz.underlying3
 a3:=Tryz.isAgg3
 z3:=Tryz.sizeOf3
 v3:=Tryz.zeroValue3
 t4:=Tryz.underlying4
 a4:=Tryz.isAgg4
 z4:=Tryz.sizeOf4
 v4:=Tryz.zeroValue4
 t5:=Tryz.underlying5
 a5:=Tryz.isAgg5
 z5:=Tryz.sizeOf5
 v5:=Tryz.zeroValue5
 t9:=Tryz.underlying9
 a9:=Tryz.isAgg9
 z9:=Tryz.sizeOf9
 v9:=Tryz.zeroValue9
 t20:=Tryz.underlying20
 a20:=Tryz.isAgg20
 z20:=Tryz.sizeOf20
 v20:=Tryz.zeroValue20
 t21:=Tryz.underlying21
 a21:=Tryz.isAgg21
 z21:=Tryz.sizeOf21
 v21:=Tryz.zeroValue21
 t37:=Tryz.underlying157
 a37:=Tryz.isAgg157
 z37:=Tryz.sizeOf157
 v37:=Tryz.zeroValue157
 t46:=Tryz.underlying175
 a46:=Tryz.isAgg175
 z46:=Tryz.sizeOf175
 v46:=Tryz.zeroValue175
 t51:=Tryz.underlying197
 a51:=Tryz.isAgg197
 z51:=Tryz.sizeOf197
 v51:=Tryz.zeroValue197
 t53:=Tryz.underlying48
 a53:=Tryz.isAgg48
 z53:=Tryz.sizeOf48
 v53:=Tryz.zeroValue48
 t75:=Tryz.underlying31
 a75:=Tryz.isAgg31
 z75:=Tryz.sizeOf31
 v75:=Tryz.zeroValue31
 t76:=Tryz.underlying171
 a76:=Tryz.isAgg171
 z76:=Tryz.sizeOf171
 v76:=Tryz.zeroValue171
 t85:=Tryz.underlying215
 a85:=Tryz.isAgg215
 z85:=Tryz.sizeOf215
 v85:=Tryz.zeroValue215
 t127:=Tryz.underlying192
 a127:=Tryz.isAgg192
 z127:=Tryz.sizeOf192
 v127:=Tryz.zeroValue192
 t143:=Tryz.underlying241
 a143:=Tryz.isAgg241
 z143:=Tryz.sizeOf241
 v143:=Tryz.zeroValue241
 t145:=Tryz.underlying243
 a145:=Tryz.isAgg243
 z145:=Tryz.sizeOf243
 v145:=Tryz.zeroValue243
 t167:=Tryz.underlying214
 a167:=Tryz.isAgg214
 z167:=Tryz.sizeOf214
 v167:=Tryz.zeroValue214
 t168:=Tryz.underlying217
 a168:=Tryz.isAgg217
 z168:=Tryz.sizeOf217
 v168:=Tryz.zeroValue217
 t171:=Tryz.underlying221
 a171:=Tryz.isAgg221
 z171:=Tryz.sizeOf221
 v171:=Tryz.zeroValue221
 t173:=Tryz.underlying224
 a173:=Tryz.isAgg224
 z173:=Tryz.sizeOf224
 v173:=Tryz.zeroValue224
 t175:=Tryz.underlying231
 a175:=Tryz.isAgg231
 z175:=Tryz.sizeOf231
 v175:=Tryz.zeroValue231
 t210:=Tryz.underlying234
 a210:=Tryz.isAgg234
 z210:=Tryz.sizeOf234
 v210:=Tryz.zeroValue234
 t212:=Tryz.underlying236
 a212:=Tryz.isAgg236
 z212:=Tryz.sizeOf236
 v212:=Tryz.zeroValue236
 t213:=Tryz.underlying237
 a213:=Tryz.isAgg237
 z213:=Tryz.sizeOf237
 t232:=Tryz.underlying245
 a232:=Tryz.isAgg245
 z232:=Tryz.sizeOf245
 v232:=Tryz.zeroValue245
 t233:=Tryz.underlying246
 a233:=Tryz.isAgg246
 z233:=Tryz.sizeOf246
 v233:=Tryz.zeroValue246
 g15:=by kernel_rfl
 g16:=by kernel_rfl
 g17:=by kernel_rfl
 g18:=by kernel_rfl
 g19:=by kernel_rfl
 t80:=Tryz.underlying174
 a80:=Tryz.isAgg174
 z80:=Tryz.sizeOf174
 v80:=Tryz.zeroValue174
 i0:=by kernel_rfl
 i2:=by kernel_rfl
 i3:=by kernel_rfl
 i4:=by kernel_rfl
 i5:=by kernel_rfl
 i9:=by kernel_rfl
 i20:=by kernel_rfl
 i21:=by kernel_rfl
 i37:=by kernel_rfl
 i46:=by kernel_rfl
 i51:=by kernel_rfl
 i53:=by kernel_rfl
 i75:=by kernel_rfl
 i76:=by kernel_rfl
 i80:=by kernel_rfl
 i85:=by kernel_rfl
 i127:=by kernel_rfl
 i143:=by kernel_rfl
 i145:=by kernel_rfl
 i167:=by kernel_rfl
 i168:=by kernel_rfl
 i171:=by kernel_rfl
 i173:=by kernel_rfl
 i175:=by kernel_rfl
 i210:=by kernel_rfl
 i212:=by kernel_rfl
 i232:=by kernel_rfl
 i233:=by kernel_rfl
 m15:=by kernel_rfl
 m16:=by kernel_rfl
 m17:=by kernel_rfl
 m18:=by kernel_rfl
 m19:=by kernel_rfl
 c0:=by kernel_rfl
 c2:=by kernel_rfl
 c3:=by kernel_rfl
 c4:=by kernel_rfl
 c5:=by kernel_rfl
 c9:=by kernel_rfl
 c20:=by kernel_rfl
 c21:=by kernel_rfl
 c37:=by kernel_rfl
 c46:=by kernel_rfl
 c51:=by kernel_rfl
 c53:=by kernel_rfl
 c75:=by kernel_rfl
 c76:=by kernel_rfl
 c80:=by kernel_rfl
 c85:=by kernel_rfl
 c127:=by kernel_rfl
 c143:=by kernel_rfl
 c145:=by kernel_rfl
 c167:=by kernel_rfl
 c168:=by kernel_rfl
 c171:=by kernel_rfl
 c173:=by kernel_rfl
 c175:=by kernel_rfl
 c210:=by kernel_rfl
 c212:=by kernel_rfl
 c213:=by kernel_rfl
 c232:=by kernel_rfl
 c233:=by kernel_rfl}
open Go.RowKit in
def Tryz.strconv_Atoi_ok(s:ByteArray)(hmax:s.size<=9223372036854775806)(v:Int)(h:dc s.data.toList=.ok v)(w:World) :
  Calls Tryz.prog 103 #[.string s] w fun e w'=>e=.returned (.tuple #[.int .i64 v,.nilIface])/\(w'=w\/∃t,w'=Lib.bytesWorld w 5 t):=Any.strconv_Atoi_ok Tryz.A4 s hmax v h w
open Go.RowKit in
def Tryz.strconv_Atoi_syntax(s:ByteArray)(hlim:s.size<=281474976710656)(h:dc s.data.toList=Go.Lib.NumEnd.syntax)(ev:Value)(w:World)(hv:w.cell? ⟨3,0,none⟩=some ev)(hev:ev=.nilIface\/∃te pe,ev=.iface te pe) :
  Calls Tryz.prog 103 #[.string s] w fun e w'=>∃N,e=.returned (.tuple #[.int .i64 (0),.iface 217 (.pointer (some ⟨N,0,none⟩))])/\w.heap.size<=N/\w'.heap[N]?=some (.cells #[.string ⟨#[65,116,111,105]⟩,.string s,ev] 234 (0,0))/\Below w.heap.size w w':=Any.strconv_Atoi_syntax Tryz.A4 s hlim h ev w hv hev
open Go.RowKit in
def Tryz.strconv_Atoi_range(s:ByteArray)(hlim:s.size<=281474976710656)(h:dc s.data.toList=.range)(ev:Value)(w:World)(hv:w.cell? ⟨4,0,none⟩=some ev)(hev:ev=.nilIface\/∃te pe,ev=.iface te pe) :
  Calls Tryz.prog 103 #[.string s] w fun e w'=>∃N,e=.returned (.tuple #[.int .i64 (dm s.data.toList),.iface 217 (.pointer (some ⟨N,0,none⟩))])/\w.heap.size<=N/\w'.heap[N]?=some (.cells #[.string ⟨#[65,116,111,105]⟩,.string s,ev] 234 (0,0))/\Below w.heap.size w w':=Any.strconv_Atoi_range Tryz.A4 s hlim h ev w hv hev
def Tryz.Ke:cy:=⟨fun|102=>52|209=>80|207=>101|n=>n,fun|9=>9|4=>4|3=>3|n=>n,fun|n=>n⟩
def Tryz.Vs:e9 Tryz.prog Tryz.Ke:={
 mixed:=by kernel_rfl
 f102:=Tryz.func52.trans (congrArg some (by kernel_rfl))
 f207:=Tryz.func101.trans (congrArg some (by kernel_rfl))
 f209:=Tryz.func80.trans (congrArg some (by kernel_rfl))
 t3:=Tryz.underlying3
 a3:=Tryz.isAgg3
 z3:=Tryz.sizeOf3
 v3:=Tryz.zeroValue3
 t4:=Tryz.underlying4
 a4:=Tryz.isAgg4
 z4:=Tryz.sizeOf4
 v4:=Tryz.zeroValue4
 t9:=Tryz.underlying9
 a9:=Tryz.isAgg9
 z9:=Tryz.sizeOf9
 v9:=Tryz.zeroValue9}
open Go.RowKit Go.Lib in
def Tryz.strings_TrimSuffix(s p:ByteArray)(w:World)(hs:s.size<=9223372036854775807) :
  Calls Tryz.prog 52 #[.string s,.string p] w fun e w'=>e=.returned (.string ⟨(br s.data.toList p.data.toList).toArray⟩)/\w'=w:=Any.strings_TrimSuffix Tryz.Vs s p w hs
def Tryz.Kf:cy:=⟨fun|146=>51|221=>79|268=>98|138=>99|143=>100|195=>115|197=>116|218=>117|219=>118|260=>128|217=>129|225=>130|224=>131|267=>132|266=>143|314=>144|n=>n,fun|9=>9|31=>36|3=>3|4=>4|0=>0|105=>202|21=>21|5=>5|46=>175|119=>226|139=>229|138=>228|146=>198|51=>197|n=>n,fun|1=>0|3=>1|4=>2|n=>n⟩
def Tryz.Lq:fa Tryz.prog Tryz.Kf:={
 mixed:=by kernel_rfl
 f138:=Tryz.func99.trans (congrArg some (by kernel_rfl))
 f143:=Tryz.func100.trans (congrArg some (by kernel_rfl))
 f146:=Tryz.func51.trans (congrArg some (by kernel_rfl))
 f195:=Tryz.func115.trans (congrArg some (by kernel_rfl))
 f197:=Tryz.func116.trans (congrArg some (by kernel_rfl))
 f217:=Tryz.func129.trans (congrArg some (by kernel_rfl))
 f218:=Tryz.func117.trans (congrArg some (by kernel_rfl))
 f219:=Tryz.func118.trans (congrArg some (by kernel_rfl))
 f221:=Tryz.func79.trans (congrArg some (by kernel_rfl))
 f224:=Tryz.func131.trans (congrArg some (by kernel_rfl))
 f225:=Tryz.func130.trans (congrArg some (by kernel_rfl))
 f260:=Tryz.func128.trans (congrArg some (by kernel_rfl))
 f266:=Tryz.func143.trans (congrArg some (by kernel_rfl))
 f267:=Tryz.func132.trans (congrArg some (by kernel_rfl))
 f268:=Tryz.func98.trans (congrArg some (by kernel_rfl))
 f314:=Tryz.func144.trans (congrArg some (by kernel_rfl))
 t0:=Tryz.underlying0
 a0:=Tryz.isAgg0
 z0:=Tryz.sizeOf0
 v0:=Tryz.zeroValue0
 t3:=Tryz.underlying3
 a3:=Tryz.isAgg3
 z3:=Tryz.sizeOf3
 v3:=Tryz.zeroValue3
 t4:=Tryz.underlying4
 a4:=Tryz.isAgg4
 z4:=Tryz.sizeOf4
 v4:=Tryz.zeroValue4
 t5:=Tryz.underlying5
 a5:=Tryz.isAgg5
 z5:=Tryz.sizeOf5
 v5:=Tryz.zeroValue5
 t9:=Tryz.underlying9
 a9:=Tryz.isAgg9
 z9:=Tryz.sizeOf9
 v9:=Tryz.zeroValue9
 t21:=Tryz.underlying21
 a21:=Tryz.isAgg21
 z21:=Tryz.sizeOf21
 v21:=Tryz.zeroValue21
 t31:=Tryz.underlying36
 a31:=Tryz.isAgg36
 z31:=Tryz.sizeOf36
 v31:=Tryz.zeroValue36
 t46:=Tryz.underlying175
 a46:=Tryz.isAgg175
 z46:=Tryz.sizeOf175
 v46:=Tryz.zeroValue175
 t51:=Tryz.underlying197
 a51:=Tryz.isAgg197
 z51:=Tryz.sizeOf197
 v51:=Tryz.zeroValue197
 t105:=Tryz.underlying202
 a105:=Tryz.isAgg202
 z105:=Tryz.sizeOf202
 v105:=Tryz.zeroValue202
 t119:=Tryz.underlying226
 a119:=Tryz.isAgg226
 z119:=Tryz.sizeOf226
 t138:=Tryz.underlying228
 a138:=Tryz.isAgg228
 z138:=Tryz.sizeOf228
 v138:=Tryz.zeroValue228
 t139:=Tryz.underlying229
 a139:=Tryz.isAgg229
 z139:=Tryz.sizeOf229
 v139:=Tryz.zeroValue229
 t146:=Tryz.underlying198
 a146:=Tryz.isAgg198
 z146:=Tryz.sizeOf198
 v146:=Tryz.zeroValue198
 g1:=by kernel_rfl
 g3:=by kernel_rfl
 g4:=by kernel_rfl}
open Go.RowKit Go.Lib in
def Tryz.strings_Split(s sep:ByteArray)(m:Int)(w:World)(hs:s.size<4294967281)(hm:w.cell? ⟨0,0,none⟩=some (.int .i64 m))(h1:1<=sep.size) :
  Calls Tryz.prog 51 #[.string s,.string sep] w fun e w'=>
   e=.returned (.slice (some ⟨w.heap.size,0,none⟩) (bq s sep+1) (bq s sep+1))/\w'=w.alloc (.cells ((b8 sep 0 (bq s sep) s).map cn).toArray 9):=Any.strings_Split Tryz.Lq (by kernel_rfl) s sep m w hs hm h1
end Go.Proofs.YtgokjhhcfemnhadGreatDoor

namespace Go.Proofs.YtgokjhhcfemnhadGreatDoor
open Go.Vg Go.Mrl
def NK(w:World)(k:Nat)(os:Array Obj):Vg.Below w.heap.size w (Sort.grow (w.drewN k) os):=by
 refine⟨rfl,rfl,?_,fun i hi =>?_⟩
 ·show w.heap.size<=(w.heap++os).size
  simp
 ·show(w.heap++os)[i]?=w.heap[i]?
  rw[Array.getElem?_append,if_pos hi]
def Vt{eT:TypeId}{n:Int}{O:aH}{w:World}{v:Value}(h:VR eT (.int .i64) n O w v):v=.int .i64 n/\-9223372036854775808<=n/\n<=9223372036854775807:=by
 obtain⟨h1,h2,h3⟩:=VR.one rfl h;exact⟨by simpa using h1,h2,h3⟩
def nM{eT:TypeId}{s:List UInt8}{O:aH}{w:World}{v:Value}(h:VR eT .str s O w v):v=.string ⟨s.toArray⟩/\s.length<=aM:=by
 obtain⟨h1,h2⟩:=VR.one rfl h;exact⟨by simpa using h1,h2⟩
def II{eT:TypeId}{s:List UInt8}{O:aH}{w:World}(h:s.length<=aM):VR eT .str s O w (.string ⟨s.toArray⟩):=VR.cH rfl ⟨rfl,h⟩
def vE:∀(k u:Nat),u<10^(k+1)->Lib.nDigits u<=k+1
 |0,u,h=>by rw[dT (by simpa using h)];exact b9 _
 |k+1,u,h=>by
  by_cases hu:u<10
  ·rw[dT hu];omega
  ·rw[Lib.nDigits_big hu]
   have:=vE k (u / 10) (by rw[Nat.pow_succ]at h;omega);omega
def Tz{n:Int}(h0 : -9223372036854775808<=n)(h1:n<=9223372036854775807):(bp n).length<=21:=by
 unfold bp;split
 ·rw[bx,ec]
  have:=vE 19 n.natAbs (by omega);omega
 ·rw[ec]
  have:=vE 19 n.toNat (by omega);omega
def Tryz.oO:bY Tryz.prog Tryz.B.eT Tryz.X 84 [.int .i64] [.str] (fun _=>True) (fun n y=>y=bp n):=by
 refine⟨⟨Tryz.f84,Tryz.func84,by kernel_rfl,by kernel_rfl⟩,fun O w n vs hG hO ha _ =>?_⟩;obtain⟨v,rfl,hv⟩:=ha;obtain⟨rfl,h0,h1⟩:=Vt hv;refine(Tryz.strconv_Itoa n h0 h1 w hG.pow).mono ?_;rintro e w' ⟨rfl,k,os,rfl⟩;exact⟨[.string ⟨(bp n).toArray⟩],bp n,rfl,rfl,⟨_,rfl,II (by have:=Tz h0 h1;unfold aM;omega)⟩,NK w k os⟩
def Tryz.sd:bY Tryz.prog Tryz.B.eT Tryz.X 103 [.str] [.int .i64,.err] (fun s=>s.length<=281474976710656) (fun s y=>y=dZ s):=by
 refine⟨⟨Tryz.f103,Tryz.func103,by kernel_rfl,by kernel_rfl⟩,fun O w s vs hG hO ha hs =>?_⟩;obtain⟨v,rfl,hv⟩:=ha;obtain⟨rfl,hl⟩:=nM hv;have hsz:(⟨s.toArray⟩:ByteArray).size=s.length:=by simp[dd]
 have hsl:(⟨s.toArray⟩:ByteArray).data.toList=s:=by simp
 cases ha:dc s with
 |ok n=>
  refine(Tryz.strconv_Atoi_ok ⟨s.toArray⟩ (by rw[hsz];omega) n (by rw[hsl];exact ha) w).mono ?_;rintro e w' ⟨rfl,hw⟩;obtain⟨b0,b1⟩:=Lib.atoiAll_bounds ha;refine⟨[.int .i64 n,.nilIface],(n,.nil),rfl,by unfold dZ;rw[ha],⟨_,_,rfl,VR.cH rfl ⟨rfl,b0,b1⟩,⟨_,rfl,VR.cH rfl ⟨_,rfl,rfl⟩⟩⟩,?_⟩;rcases hw with rfl|⟨t,rfl⟩
  ·exact Vg.Below.refl _ _
  ·exact .of (Lib.bytesWorld_below _ _ _)
 |range=>
  obtain⟨ev,hv,he⟩:=hG.Xt;obtain⟨b0,b1⟩:=Lib.atoiSat_bounds s;have hA:=Tryz.strconv_Atoi_range ⟨s.toArray⟩ (by rw[hsz];exact hs) (by rw[hsl];exact ha) ev w hv he;rw[hsl]at hA;refine hA.mono ?_;rintro e w' ⟨N,rfl,_,_,hb⟩;exact⟨[.int .i64 (dm s),_],(dm s,.other),rfl,by unfold dZ;rw[ha],⟨_,_,rfl,VR.cH rfl ⟨rfl,b0,b1⟩,⟨_,rfl,VR.cH rfl ⟨_,rfl,_,_,rfl,by decide+kernel⟩⟩⟩,.of hb⟩
 |_=>
  obtain⟨ev,hv,he⟩:=hG.Xs;refine(Tryz.strconv_Atoi_syntax ⟨s.toArray⟩ (by rw[hsz];exact hs) (by rw[hsl];exact ha) ev w hv he).mono ?_;rintro e w' ⟨N,rfl,_,_,hb⟩;exact⟨[.int .i64 0,_],(0,.other),rfl,by unfold dZ;rw[ha],⟨_,_,rfl,VR.cH rfl ⟨rfl,by decide,by decide⟩,⟨_,rfl,VR.cH rfl ⟨_,rfl,_,_,rfl,by decide+kernel⟩⟩⟩,.of hb⟩
def Tryz.np:bY Tryz.prog Tryz.B.eT Tryz.X 81 [.str,.str] [.str,.bool] (fun _=>True) (fun x y=>y=(cb x.1 x.2,cz x.1 x.2)):=by
 refine⟨⟨Tryz.f81,Tryz.func81,by kernel_rfl,by kernel_rfl⟩,fun O w x vs hG hO ha _ =>?_⟩;obtain⟨s,p⟩:=x;obtain⟨v,vs',rfl,hv,u,rfl,hu⟩:=ha;obtain⟨rfl,hl⟩:=nM hv;obtain⟨rfl,_⟩:=nM hu;refine(Tryz.strings_CutPrefix ⟨s.toArray⟩ ⟨p.toArray⟩ w).mono ?_;rintro e w' ⟨rfl,rfl⟩;have hle:(cb s p).length<=s.length:=by unfold cb;split <;> simp
 exact⟨[.string ⟨(cb s p).toArray⟩,.bool (cz s p)],_,rfl,rfl,⟨_,_,rfl,II (b4 hle hl),_,rfl,VR.cH rfl rfl⟩,Vg.Below.refl _ _⟩
def Tryz.mv:bY Tryz.prog Tryz.B.eT Tryz.X 52 [.str,.str] [.str] (fun _=>True) (fun x y=>y=br x.1 x.2):=by
 refine⟨⟨Tryz.f52,Tryz.func52,by kernel_rfl,by kernel_rfl⟩,fun O w x vs hG hO ha _ =>?_⟩;obtain⟨s,p⟩:=x;obtain⟨v,vs',rfl,hv,u,rfl,hu⟩:=ha;obtain⟨rfl,hl⟩:=nM hv;obtain⟨rfl,_⟩:=nM hu;have hl:s.length<=aM:=hl;have hsz:(⟨s.toArray⟩:ByteArray).size=s.length:=by simp[dd]
 refine(Tryz.strings_TrimSuffix ⟨s.toArray⟩ ⟨p.toArray⟩ w (by rw[hsz];exact hl)).mono ?_;rintro e w' ⟨rfl,rfl⟩;have hle:(br s p).length<=s.length:=by unfold br;split <;> simp
 exact⟨[.string ⟨(br s p).toArray⟩],_,rfl,rfl,⟨_,rfl,II (b4 hle hl)⟩,Vg.Below.refl _ _⟩
def Tryz.se:bY Tryz.prog Tryz.B.eT Tryz.X 51 [.str,.str] [.slice .str] (fun x=>x.1.length<4294967281/\x.2.length=1) (fun x y=>y=parts (Hu x.2) x.1):=by
 refine⟨⟨Tryz.f51,Tryz.func51,by kernel_rfl,by kernel_rfl⟩,fun O w x vs hG hO ha hp =>?_⟩;obtain⟨s,p⟩:=x;obtain⟨hs,hp⟩:=hp;obtain⟨c,rfl⟩:∃c,p=[c]:=dn.1 hp
 obtain⟨v,vs',rfl,hv,u,rfl,hu⟩:=ha;obtain⟨rfl,hl⟩:=nM hv;obtain⟨rfl,_⟩:=nM hu;obtain⟨m,hm⟩:=hG.max;have hsz:(⟨s.toArray⟩:ByteArray).size=s.length:=by simp[dd]
 have h1:1<=(⟨#[c]⟩:ByteArray).size:=b9 1;refine(Tryz.strings_Split ⟨s.toArray⟩ ⟨#[c]⟩ m w (by rw[hsz];exact hs) hm h1).mono ?_;rintro e w' ⟨rfl,rfl⟩;have hlen:=ed ⟨#[c]⟩ h1 0 _ ⟨s.toArray⟩ rfl;have hdat:=ee ⟨#[c]⟩ 0 (bq ⟨s.toArray⟩ ⟨#[c]⟩) ⟨s.toArray⟩;have hcb:=Lib.countB_le ⟨#[c]⟩ h1 _ ⟨s.toArray⟩ (b9 _);have hd:(b8 ⟨#[c]⟩ 0 (bq ⟨s.toArray⟩ ⟨#[c]⟩) ⟨s.toArray⟩).map (·.data.toList)=parts c s:=by rw[hdat,<-rX,<-Lib.count_one]
 have hlf:(parts c s).length=bq ⟨s.toArray⟩ ⟨#[c]⟩ +1:=by rw[<-hd,bz,hlen]
 refine⟨[_],parts c s,rfl,rfl,⟨_,rfl,VR.cH rfl ⟨_,rfl,?_,.inr ⟨w.heap.size,0,bq ⟨s.toArray⟩ ⟨#[c]⟩ +1,by rw[hlf],by rw[hlf];exact b9 _,fun i y hy =>?_⟩⟩⟩,(Vg.Below.refl _ w).alloc (b9 _) _⟩
 ·rw[hlf];have hs:s.length<4294967281:=hs;rw[hsz]at hcb;unfold aM;omega
 ·have hyl:=oI c s y (ef hy)
  refine⟨[.string ⟨y.toArray⟩],⟨rfl,b4 hyl hl⟩,fun j u hj=>⟨?_,fun hh =>?_⟩⟩
  ·have hj0:j=0:=by
    rcases j with _|j
    ·rfl
    ·simp at hj
   subst hj0;simp at hj;subst hj;rw[<-hd,List.getElem?_map,c6]at hy;obtain⟨q,hq,rfl⟩:=hy;have hh:(w.alloc (.cells ((b8 ⟨#[c]⟩ 0 (bq ⟨s.toArray⟩ ⟨#[c]⟩) ⟨s.toArray⟩).map cn).toArray 9)).heap[w.heap.size]?=some (.cells ((b8 ⟨#[c]⟩ 0 (bq ⟨s.toArray⟩ ⟨#[c]⟩) ⟨s.toArray⟩).map cn).toArray 9 (0,0)):=heap_alloc_new w _;rw[cc hh];simp only[Ty.size,Nat.mul_one,Nat.zero_add,dp,List.getElem?_toArray,List.getElem?_map,hq,eg]
  ·have:=hO _ _ hh
   simp at this
def Tryz.spZ2:Bool×aT:=(true,cE [.int .i64] [.str] (fun _=>True) (fun n=>bp n))
def Tryz.spZ3:Bool×aT:=(true,cE [aC] [.err] (fun _=>True) (fun e=>aI (bB e)))
def Tryz.IJ:List (FuncId×(Bool×aT)):=[(45,Tryz.spZ0),(17,Tryz.spZ1),(84,Tryz.spZ2),(46,Tryz.spZ3)]
def Tryz.NL:bO Tryz.prog Tryz.B Tryz.X Tryz.IJ:=
 aQ (aE Tryz.jl) (aQ (aE Tryz.im) (aQ (aE Tryz.oO) (aQ (aE Tryz.Fh) (bR Tryz.bQ))))
def IK(e:D aC):dY:=[
 (0,fun st=>{X:=Nat,inv:=fun i=>i<=bb e.2.1,cD:=fun i=>bb e.2.1-i,bM:=fun i=>[(35,sI i),(6,sS (jK e i))],keep:=[1,2,3,5,33,34]}),
 (2,fun st=>{X:=Nat,inv:=fun i=>i<=bb e.2.2.1,cD:=fun i=>bb e.2.2.1-i,bM:=fun i=>[(60,sI i),(6,sS (jv e i))],keep:=[2,3,5,58,59]})]
def TA(e:D aC)(hw:gU [aC] e):(dM (lX Tryz.B [23,30,47,53,68,74,80]) Tryz.IJ Tryz.f90 (IK e) [aC] [.str,.err] (fun x y=>y=(fun e=>dG e) x) e).holds:=by
 refine holds_of (p:=
  let za:=aI (bB e)
  let zb:=[(32:UInt8)]
  let zc:=bb zb
  let zd:=e.2.1
  let ze:=bb zd
  let zf:=e.2.2.1
  let zg:=bb zf
  let zh:=bp (↑ze:Int)
  let zi:=e.1++zb++zh
  let zj:=bp (↑zg:Int)
  let zk:=fun(E:Nat)=>zb++(nth aG zd E).1
  let zl:=fun(E:Nat)=>bp (nth aG zd E).2.1
  let zm:=fun(E:Nat)=>zk E++zb++zl E++zb
  let zn:=fun(E:Nat)=>bp (nth aG zd E).2.2.1
  let zo:=fun(E:Nat)=>(↑E:Int)+1
  let zp:=(e.1=e.1/\zd=zd/\zf=zf/\True)/\True
  let zq:=fun(F:Nat)=>zb++bp (nth aR zf F).1
  let zr:=fun(F:Nat)=>zq F++zb++bp (nth aR zf F).2.1
  let zs:=fun(F:Nat)=>bp (nth aR zf F).2.2.1
  True/\((!aL.isNil za)=true->([],za)=dG e)/\((!aL.isNil za)=false->bb e.1+zc<=aM/\(ze<=aM->zg<=aM->True/\bb (e.1++zb)+bb zh<=aM/\bb zi+zc<=aM/\True/\bb (zi++zb)+bb zj<=aM/\(ze<=aM->(∃(x:Nat),x<=ze/\(0=(↑x:Int)/\zi++zb++zj=jK e x/\True)/\True)/\∀E:Nat,E<=ze->((decide ((↑E:Int)<(↑ze:Int)))=true->(0<=(↑E:Int)/\(↑E:Int)<(↑ze:Int))/\zc+bb (nth aG zd E).1<=aM/\bb (zk E)+zc<=aM/\True/\bb (zk E++zb)+bb (zl E)<=aM/\bb (zk E++zb++zl E)+zc<=aM/\True/\bb (zm E)+bb (zn E)<=aM/\bb (jK e E)+bb (zm E++zn E)<=aM/\(aJ (↑E:Int)->aJ 1->aJ (zo E)/\∃(x':Nat),x'<=ze/\ze-x'<ze-E/\(zo E=(↑x':Int)/\jK e E++(zm E++zn E)=jK e x'/\True)/\zp))/\((decide ((↑E:Int)<(↑ze:Int)))=false->zg<=aM->(∃(x:Nat),x<=zg/\(0=(↑x:Int)/\jK e E=jv e x/\True)/\True)/\∀F:Nat,F<=zg->((decide ((↑F:Int)<(↑zg:Int)))=true->(0<=(↑F:Int)/\(↑F:Int)<(↑zg:Int))/\True/\zc+bb (bp (nth aR zf F).1)<=aM/\bb (zq F)+zc<=aM/\True/\bb (zq F++zb)+bb (bp (nth aR zf F).2.1)<=aM/\bb (zr F)+zc<=aM/\True/\bb (zr F++zb)+bb (zs F)<=aM/\bb (jv e F)+bb (zr F++zb++zs F)<=aM/\(aJ (↑F:Int)->aJ 1->aJ (zo F)/\∃(x':Nat),x'<=zg/\zg-x'<zg-F/\(zo F=(↑x':Int)/\jv e F++(zr F++zb++zs F)=jv e x'/\True)/\zp))/\((decide ((↑F:Int)<(↑zg:Int)))=false->bb (jv e F)+bb [(10:UInt8)]<=aM/\(jv e F++[(10:UInt8)],aL.nil)=dG e)))))) (by kernel_rfl) ?_
 dsimp -iota -proj -eta only;refine⟨ba,iB (fun h0=>(Nj (fun e=>by rw[aP.2 e]at h0;cases h0))) (fun h0=>⟨?a,fun h1 h2=>⟨ba,?b,?c,ba,?d,fun h3=>⟨(⟨0,by omega,⟨rfl,(Na e).symm,ba⟩,ba⟩),fun E q_0=>iL (fun h4=>⟨?e,?f,?g,ba,?h,?i,ba,?j,?k,fun h5 h6=>⟨?l,(⟨E+1,by omega,by omega,⟨by omega,Nh (by omega),ba⟩,(by trivial)⟩)⟩⟩) (fun h4 h5=>⟨(⟨0,by omega,⟨rfl,by rw[Nb,show E=e.2.1.length by omega],ba⟩,ba⟩),fun F q_1=>iL (fun h6=>⟨?m,ba,?n,?o,ba,?p,?q,ba,?r,?s,fun h7 h8=>⟨?t,(⟨F+1,by omega,by omega,⟨by omega,Ni (by omega),ba⟩,(by trivial)⟩)⟩⟩) (fun h6=>⟨(by have a:=(lG (aP.1 h0)).AI F;simp only[bt,bx,b3,aM];omega),(PU (aP.1 h0) (by omega))⟩)⟩)⟩⟩⟩)⟩
 case a|b|c|d=>have a:=(lG (aP.1 h0)).lens;simp only[bt,bx,b3,aM];omega
 case e|m=>omega
 case f|g|h|i|j|k=>have a:=(lG (aP.1 h0)).W0 (i:=E) (by omega);simp only[bt,bx,b3,aM];omega
 case l|t=>simp only[aJ,aM]at*;omega
 case n|o|p|q|r|s=>have a:=(lG (aP.1 h0)).W4 (i:=F) (by omega);simp only[bt,bx,b3,aM];omega
def Tryz.IL:bY Tryz.prog Tryz.B.eT Tryz.X 90 [aC] [.str,.err] (fun _=>True) (fun x y=>y=(fun e=>dG e) x):=
 cF (B:=(lX Tryz.B [23,30,47,53,68,74,80])) (X:=Tryz.X) (bO.hint (l:=[23,30,47,53,68,74,80]) Tryz.NL) Tryz.func90 (by kernel_rfl) (fun x=>IK x) (fun x hw hp=>TA x hw)
end Go.Proofs.YtgokjhhcfemnhadGreatDoor

namespace Go.Proofs.YtgokjhhcfemnhadGreatDoor
open Go.RowKit Go.Vg
def Tryz.Xg:(Tryz.prog.info? 169).map (·.size)=some 2:=by kernel_rfl
def Tryz.Xu:liesAt Tryz.prog Tryz.prog.depth 169 (2 / Tryz.prog.cellsOf 169) 0 169 1=true:=by kernel_rfl
set_option maxHeartbeats 1000000 in
set_option maxRecDepth 100000 in
def Tryz.NM(b:Nat)(v:Value)(w:World)(hb:w.heap[b]?=some (.cells #[.pointer (some ⟨b,0,none⟩),v] 169 (0,0))) :
  Calls Tryz.prog 108 #[.pointer (some ⟨b,0,none⟩)] w fun e w'=>e=.returned (.tuple #[])/\w'=w:=by
 obtain⟨j,hj,_⟩:=c6.1 Tryz.Xg;have h0:w.cell? ⟨b,0,none⟩=some (.pointer (some ⟨b,0,none⟩)):=by rw[cc hb];rfl
 go_enter Tryz.func108,Tryz.ntmps108
 go_wp2
 rw[Lib.run_neq_ptr_same w _ Tryz.underlying167 hj]
 go_wp2
 go_end0
 exact⟨rfl,rfl⟩
set_option maxHeartbeats 1000000 in
set_option maxRecDepth 100000 in
def Tryz.Kg(b:Nat)(v:Value)(w:World)(hb:w.heap[b]?=some (.cells #[.pointer none,v] 169 (0,0))) :
  Calls Tryz.prog 108 #[.pointer (some ⟨b,0,none⟩)] w fun e w'=>e=.returned (.tuple #[])/\w'=w.setCell ⟨b,0,none⟩ (.pointer (some ⟨b,0,none⟩)):=by
 obtain⟨j,hj,hjs⟩:=c6.1 Tryz.Xg;have h0:w.cell? ⟨b,0,none⟩=some (.pointer none):=by rw[cc hb];rfl
 have hsh:w.shape? b=some (169,2):=by simp[eh,hb]
 have hfz:w.frozen? ⟨b,0,none⟩=false:=de hb 0
 go_enter Tryz.func108,Tryz.ntmps108
 go_wp2
 rw[Lib.run_to_unsafe w ⟨b,0,none⟩ Tryz.underlying167 Tryz.underlying209 hj (by rw[hjs];decide) hsh (Nat.zero_lt_succ 1)];simp only[dq];rw[dr]
 go_wp2
 rw[run_callFunc_extern Tryz.func125 (by kernel_rfl) (by kernel_rfl) (by kernel_rfl) (e:=fb) (by kernel_rfl)];rw[Lib.run_noEscape];simp only[dq];rw[dr]
 go_wp2
 rw[Lib.run_from_unsafe w ⟨b,0,none⟩ Tryz.underlying209 Tryz.underlying167 hj hsh Tryz.Xu];simp only[dq];rw[dr]
 go_wp2
 go_end0
 exact⟨rfl,rfl⟩
def Tryz.Xv:(Tryz.prog.info? 5).map (fun i=>(i.zero,i.size,i.bytes))=some (some (.int .u8 0),1,1):=by kernel_rfl
def Tryz.Xo:Tryz.prog.cellsOf 5=1:=by kernel_rfl
set_option maxHeartbeats 2000000 in
set_option maxRecDepth 100000 in
def Tryz.QK(b:Nat)(p v:Value)(xs:List Value)(s:ByteArray)(w:World)(hb:w.heap[b]?=some (.cells #[p,v] 169 (0,0)))(hp:p=.pointer none\/p=.pointer (some ⟨b,0,none⟩))
  (hown:w.ownsRow 0 5 1 v xs.length xs)(hne:v.ownBlock≠some b)(hcap:∀a n c,v=.slice (some a) n c->0<c)(hlen:xs.length+s.size<=140737488355328) :
  Calls Tryz.prog 85 #[.pointer (some ⟨b,0,none⟩),.string s] w fun e w'=>e=.returned (.tuple #[.int .i64 s.size,.nilIface])/\
   ∃v',w'.heap[b]?=some (.cells #[.pointer (some ⟨b,0,none⟩),v'] 169 (0,0))/\w'.ownsRow 0 5 1 v' (xs.length+s.size) (xs++Lib.strCells s)/\v'.ownBlock≠some b/\Kept b v w w'/\
    (∀a n c,v'=.slice (some a) n c->0<c)/\(∀g,v'.ownBlock=some g->v.ownBlock=some g\/w.heap.size<=g):=by
 obtain⟨i0,hi,hz0⟩:=c6.1 Tryz.Xv;simp only[Prod.mk.injEq]at hz0;obtain⟨hz0,hz1,hz2⟩:=hz0;have hchk:Calls Tryz.prog 108 #[.pointer (some ⟨b,0,none⟩)] w fun e w1=>e=.returned (.tuple #[])/\w1.heap[b]?=some (.cells #[.pointer (some ⟨b,0,none⟩),v] 169 (0,0))/\
   w1.os=w.os/\w1.output=w.output/\w1.heap.size=w.heap.size/\∀k,k≠b->w1.heap[k]?=w.heap[k]?:=by
  rcases hp with rfl|rfl
  ·refine(Tryz.Kg b v w hb).mono ?_
   rintro e w1 ⟨rfl,rfl⟩;exact⟨rfl,(Sl hb).trans (by simp),rfl,rfl,ds _ _ _,fun k hk=>dt _ _ _ _ hk⟩
  ·refine(Tryz.NM b v w hb).mono ?_
   rintro e w1 ⟨rfl,rfl⟩;exact⟨rfl,hb,rfl,rfl,rfl,fun _ _=>rfl⟩
 go_enter Tryz.func85,Tryz.ntmps85
 go_wp2_with (go_at_call 108;refine hchk.mono ?_)
 rintro e w1 ⟨rfl,hb1,ho1,hu1,hs1,hk1⟩;have hown1:w1.ownsRow 0 5 1 v xs.length xs:=by
  refine⟨hown.1,?_⟩;rcases hown.2 with h|⟨g,cap,cur,h1,h2,h3,h4⟩
  ·exact .inl h
  ·refine .inr ⟨g,cap,cur,h1,h2,?_,h4⟩
   rw[hk1 g (fun e=>hne (by rw[h1,e];rfl))];exact h3
 have c0:w1.cell? ⟨b,0,none⟩=some (.pointer (some ⟨b,0,none⟩)):=by rw[cc hb1];rfl
 have c1:w1.cell? ⟨b,1,none⟩=some v:=by rw[cc hb1];rfl
 obtain⟨v',w2,hrun,hown',hgrow,hcap',hnew⟩:=UX (t:=157) (u:=9) (ty:=157) Tryz.underlying157 Tryz.underlying9 hi hz0 hz1 hz2 hown1 hcap s hlen;have hlt:b<w1.heap.size:=(Array.getElem?_eq_some_iff.1 hb1).1;have hb2:w2.heap[b]?=some (.cells #[.pointer (some ⟨b,0,none⟩),v] 169 (0,0)):=by rw[hgrow.block b hlt (fun e=>hne e.symm)];exact hb1
 have d1:w2.cell? ⟨b,1,none⟩=some v:=by rw[cc hb2];rfl
 have f1:w2.frozen? ⟨b,1,none⟩=false:=de hb2 1;have hne':v'.ownBlock≠some b:=by
  intro e;rcases hown'.2 with⟨h,_⟩|⟨g',cap,cur,h,_,h3,_⟩
  ·rw[h]at e;cases e
  ·rw[h]at e
   cases e;rw[hb2]at h3;cases h3
 have hv1:∃a n c,v'=.slice a n c:=by
  rcases hown'.2 with⟨h,_⟩|⟨g',cap,cur,h,_⟩ <;> exact⟨_,_,_,h⟩
 obtain⟨va,vn,vc,rfl⟩:=hv1;rw[hs1]at hnew
 go_wp2_with (at_builtin;refine yF rfl _ _ 157 9 rfl rfl rfl hrun ?_)
 go_ret2
 refine⟨rfl,.slice va vn vc,(Sl hb2).trans (by simp),⟨hown'.1,?_⟩,hne',⟨hgrow.os.trans ho1,hgrow.output.trans hu1,?_,fun k h1 h2 h3 =>?_⟩,hcap',hnew⟩
 ·rcases hown'.2 with h|⟨g,cap,cur,h1,h2,h3,h4⟩
  ·exact .inl h
  ·refine .inr ⟨g,cap,cur,h1,h2,?_,h4⟩
   rw[dt _ _ _ _ (fun e=>hne' (by rw[h1,show g=b from e];rfl))];exact h3
 ·rw[ds];have:=hgrow.size;omega
 ·rw[dt _ _ _ _ (show k≠b from h2),hgrow.block k (by omega) (fun e=>h3 e.symm),hk1 k h2]
set_option maxHeartbeats 2000000 in
set_option maxRecDepth 100000 in
def Tryz.NN(b:Nat)(p v:Value)(l:List UInt8)(w:World)(hb:w.heap[b]?=some (.cells #[p,v] 169 (0,0)))(hown:w.ownsRow 0 5 1 v l.length (l.map fun c=>Value.int .u8 c.toNat))(hcap:∀a n c,v=.slice (some a) n c->0<c) :
  Calls Tryz.prog 88 #[.pointer (some ⟨b,0,none⟩)] w fun e w'=>e=.returned (.string ⟨l.toArray⟩)/\Mt v w w':=by
 have c1:w.drew.cell? ⟨b,1,none⟩=some v:=by
  have:w.drew.heap[b]?=some (.cells #[p,v] 169 (0,0)):=hb;rw[cc this];rfl
 have mixed:Tryz.prog.follows .mixedOrders=true:=by kernel_rfl
 by_cases h0:l=[]
 ·subst h0
  obtain⟨q,n,c,rfl,hn,hSD⟩:∃q n c,v=.slice q n c/\n=0/\(ei #[157] 192 #[v]).run Tryz.prog w.drew=.ok (.pointer q) w.drew:=by
   rcases hown.2 with⟨rfl,_⟩|⟨g,cap,cur,rfl,_⟩
   ·exact⟨none,0,0,rfl,rfl,Lib.run_unsafeSliceData_nil _ _ _ _ _⟩
   ·exact⟨_,_,_,rfl,rfl,ej _ _ _ _ _ _ (by have:=hcap _ _ _ rfl;omega)⟩
  subst hn;have hUS:(ek #[192,3] 9 #[.pointer q,.int .i64 0]).run Tryz.prog w.drew=.ok (.string .empty) w.drew:=Lib.run_unsafeString_none _ _ _ _ q
  go_enter Tryz.func88,Tryz.ntmps88
  go_wp2
  go_region_o
  all_goals (go_wp2;go_ret;exact⟨rfl,rfl,rfl,rfl,fun _ _=>rfl⟩)
 ·have hl0:l.length≠0:=by simpa using h0
  rcases hown.2 with⟨_,hz⟩|⟨g,cap,cur,rfl,hbg,hg,hnc,hcm,hcs,htake⟩
  ·exact absurd hz hl0
  have hSD:(ei #[157] 192 #[.slice (some ⟨g,0,none⟩) l.length cap]).run Tryz.prog w.drew=.ok (.pointer (some ⟨g,0,none⟩)) w.drew:=ej _ _ _ _ _ _ (by omega);have hUS:(ek #[192,3] 9 #[.pointer (some ⟨g,0,none⟩),.int .i64 l.length]).run Tryz.prog w.drew=.ok (.string ⟨l.toArray⟩) (w.drew.freeze ⟨g,0,none⟩ l.length):=by
   refine Lib.run_unsafeString_row w.drew 192 3 9 5 Tryz.underlying192 Tryz.Xo g cur.size (by have hg':w.drew.heap[g]?=some (.cells cur 5 (0,0)):=hg;simp[eh,hg']) l h0 (by omega) (by unfold maxLen at hcm;omega) ?_;intro j x hx;exact hown.cells (g:=g) rfl j (.int .u8 x.toNat) (by simp[hx])
  go_enter Tryz.func88,Tryz.ntmps88
  go_wp2
  go_region_o
  all_goals (go_wp2;go_ret;exact⟨rfl,JF⟩)
def Tryz.Vu(b:Nat)(p _q:Value)(a:Option Addr)(n c:Nat)(w:World)(hb:w.heap[b]?=some (.cells #[p,.slice a n c] 169 (0,0))) :
  Calls Tryz.prog 87 #[.pointer (some ⟨b,0,none⟩)] w fun r w'=>r=.returned (.int .i64 n)/\w'=w:=by
 have c1:w.cell? ⟨b,1,none⟩=some (.slice a n c):=by rw[cc hb];rfl
 go_enter Tryz.func87,Tryz.ntmps87
 go_wp2
 go_ret
 exact⟨rfl,rfl⟩
def Tryz.z6:bX Tryz.prog Tryz.B.eT Tryz.X 85 false (rS 169 5):=
 BX ⟨Tryz.f85,Tryz.func85,by kernel_rfl,by kernel_rfl⟩ Tryz.QK
def Tryz.xM:bX Tryz.prog Tryz.B.eT Tryz.X 88 false (qC 169 5):=
 AA ⟨Tryz.f88,Tryz.func88,by kernel_rfl,by kernel_rfl⟩ Tryz.NN
def Tryz.Fi:bX Tryz.prog Tryz.B.eT Tryz.X 87 true (wQ 169 5):=
 FX ⟨Tryz.f87,Tryz.func87,by kernel_rfl,by kernel_rfl⟩ Tryz.Vu
end Go.Proofs.YtgokjhhcfemnhadGreatDoor

namespace Go.Proofs.YtgokjhhcfemnhadGreatDoor
open Go.Vg Go.Mrl
@[reducible] def Tryz.bD:List Ob:=[.box 98 [.obj 1,.obj 2,.obj 3,.d (.int .i64),.d .bool],.row true .str,.row true .str,.tok jr]
def Vv(s:List UInt8)(hw:gU [.str] s)(hp:(fun s=>s.length<=64) s):(dM Tryz.B [] Tryz.f68 [] [.str] [.str] (fun x y=>y=(fun s=>eJ s) x) s).holds:=by
 refine holds_of (p:=
  let za:=bb s
  let zb:=64-(↑za:Int)
  let zc:=ch (bf zb) (bW (Ty.int cd))
  za<=aM->aJ 64->aJ (↑za:Int)->aJ zb/\(0<=zb/\zb=zb/\zb<=1000000000)/\bb zc<=aM/\za+bb (bytesOf zc)<=aM/\s++bytesOf zc=eJ s) (by kernel_rfl) ?_
 dsimp -iota -proj -eta only;exact fun h0 h1 h2=>⟨(by simp only[aJ,aM]at*;omega),(by omega),(by simp only[cp,Gg];omega),(by simp only[bytesOf,bz,cp,Gg];omega),(by show s++bytesOf (ch _ 0)=_;rw[Mx,eJ,show bf (64-(s.length:Int))=64-s.length by omega])⟩
def Tryz.Lr:bY Tryz.prog Tryz.B.eT Tryz.X 68 [.str] [.str] (fun s=>s.length<=64) (fun x y=>y=(fun s=>eJ s) x):=
 cF (X:=Tryz.X) (bR Tryz.bQ) Tryz.func68 (by kernel_rfl) (fun _=>[]) (fun x hw hp=>Vv x hw hp)
def TB(x:Int)(y:Int)(hw:gU [.int .u64,.int .u64] (x,y))(hp:(fun z=>z.1=1/\0<=z.2/\z.2<=1000000) (x,y)):(dM Tryz.B [] Tryz.f114 [] [.int .u64,.int .u64] [.int .u64,.int .u64] (fun x y=>y=(fun z=>xa z) x) (x,y)).holds:=by
 refine holds_of (p:=
  let za:=cj bw
  let zb:=ca za (4294967295:Int)
  let zc:=(0:Int)<=(32:Int)
  let zd:=(2:Int)^min 32 za
  let ze:=fun(M K:Int)=>M=bk bw K
  ∀E:Int,E=bk bw (↑(cq (ca za x&&&zb)):Int)->zc/\∀F:Int,F=cf x zd->∀G:Int,G=bk bw (↑(cq (ca za y&&&zb)):Int)->zc/\∀I:Int,I=cf y zd->∀K:Int,K=E*G->∀M:Int,ze M K->∀R:Int,R=F*G->∀U:Int,ze U R->zc/\∀x_8:Int,x_8=cf M zd->∀Q:Int,Q=bk bw (U+x_8)->∀V:Int,V=bk bw (↑(cq (ca za Q&&&zb)):Int)->zc/\∀x_11:Int,x_11=cf Q zd->∀Y:Int,Y=E*I->∀Z:Int,ze Z Y->∀x_14:Int,x_14=bk bw (V+Z)->∀x_15:Int,x_15=F*I->∀x_16:Int,ze x_16 x_15->∀x_17:Int,x_17=bk bw (x_16+x_11)->zc/\∀x_18:Int,x_18=cf x_14 zd->∀x_19:Int,x_19=bk bw (x_17+x_18)->∀x_20:Int,x_20=x*y->∀x_21:Int,ze x_21 x_20->(x_19,x_21)=xa (x,y)) (by kernel_rfl) ?_
 dsimp -iota -proj -eta only;dsimp only at hp;refine fun E q_0=>⟨?a,fun F q_1 G q_2=>⟨?b,fun I q_3 K q_4 M q_5 R q_6 U q_7=>⟨?c,fun x_8 q_8 Q q_9 V q_10=>⟨?d,fun x_11 q_11 Y q_12 Z q_13 x_14 q_14 x_15 q_15 x_16 q_16 x_17 q_17=>⟨?e,fun x_18 q_18 x_19 q_19 x_20 q_20 x_21 q_21 =>?f⟩⟩⟩⟩⟩
 case a|b|c|d|e=>trivial
 case f=>
  have a0:=Sy q_0 (by omega) (by omega);have a1:=Hl q_1 rfl (by omega) (by omega);have a2:=Sy q_2 (by omega) (by omega);have a3:=Hl q_3 rfl (by omega) (by omega);have a4:K=y:=by rw[q_4,a0,a2,hp.1,du]
  have a5:M=y:=by rw[q_5,a4];exact lB (by omega) (by omega)
  have a6:R=0:=by rw[q_6,a1,Int.zero_mul]
  have a7:U=0:=by rw[q_7,a6];rfl
  have a8:=Hl q_8 rfl (by omega) (by omega);have a9:Q=0:=by rw[q_9,a7,a8];rfl
  have a10:V=0:=by rw[Sy q_10 (by omega) (by omega)];exact a9
  have a11:=Hl q_11 rfl (by omega) (by omega);have a12:Y=0:=by rw[q_12,a3,Int.mul_zero]
  have a13:Z=0:=by rw[q_13,a12];rfl
  have a14:x_14=0:=by rw[q_14,a10,a13];rfl
  have a15:x_15=0:=by rw[q_15,a1,Int.zero_mul]
  have a16:x_16=0:=by rw[q_16,a15];rfl
  have a17:x_17=0:=by rw[q_17,a16,a11];rfl
  have a18:=Hl q_18 rfl (by omega) (by omega);have a19:x_19=0:=by rw[q_19,a17,a18];rfl
  have a21:x_21=y:=by rw[q_21,q_20,hp.1,du];exact lB (by omega) (by omega)
  rw[a19,a21];simp[xa,hp.1]
def Tryz.TC:bY Tryz.prog Tryz.B.eT Tryz.X 114 [.int .u64,.int .u64] [.int .u64,.int .u64] (fun z=>z.1=1/\0<=z.2/\z.2<=1000000) (fun x y=>y=(fun z=>xa z) x):=
 cF (X:=Tryz.X) (bR Tryz.bQ) Tryz.func114 (by kernel_rfl) (fun _=>[]) (fun x hw hp=>TB x.1 x.2 hw hp)
def Tryz.spZ4:Bool×aT:=(true,cE [.int .u64,.int .u64] [.int .u64,.int .u64] (fun z=>z.1=1/\0<=z.2/\z.2<=1000000) (fun z=>xa z))
def Tryz.IM:List (FuncId×(Bool×aT)):=[(114,Tryz.spZ4)]
def Tryz.NO:bO Tryz.prog Tryz.B Tryz.X Tryz.IM:=
 aQ (aE Tryz.TC) (bR Tryz.bQ)
def WC(x:Int)(y:Int)(hw:gU [.int .u64,.int .u64] (x,y))(hp:(fun z=>z.1=1/\0<=z.2/\z.2<=1000000) (x,y)):(dM Tryz.B Tryz.IM Tryz.f94 [] [.int .u64,.int .u64] [.int .u64,.int .u64] (fun x y=>y=(fun z=>xa z) x) (x,y)).holds:=by
 refine holds_of (p:=
  (x=1/\0<=y/\y<=1000000)/\(0,x*y)=xa (x,y)) (by kernel_rfl) ?_
 dsimp only at hp;refine⟨?a,?b⟩
 case a|b=>trivial
def Tryz.WD:bY Tryz.prog Tryz.B.eT Tryz.X 94 [.int .u64,.int .u64] [.int .u64,.int .u64] (fun z=>z.1=1/\0<=z.2/\z.2<=1000000) (fun x y=>y=(fun z=>xa z) x):=
 cF (X:=Tryz.X) Tryz.NO Tryz.func94 (by kernel_rfl) (fun _=>[]) (fun x hw hp=>WC x.1 x.2 hw hp)
def Tryz.QL:List (FuncId×(Bool×aT)):=[(94,Tryz.spZ4)]
def Tryz.TD:bO Tryz.prog Tryz.B Tryz.X Tryz.QL:=
 aQ (aE Tryz.WD) (bR Tryz.bQ)
def Fj(x:List (List UInt8))(n:Int):dY:=[(0,fun st=>{X:=Nat,inv:=fun k=>1<=k/\k<=n.toNat,cD:=fun k=>n.toNat-k,bM:=fun k=>[(8,sI k)],aF:=fun k=>[(bH st 7,.aU .str (l5 (nth .str x 0) n.toNat k))],keep:=[4,7],gQ:=[bH st 7]})]
def vF:List (Alt [] [.d (.slice .str),.d (.int .i64)]):=[{bN:=[.row false .str],res:=[.obj 0],out:=fun a _=>(ch a.2.1.toNat (nth .str a.1 0),()),ret:=fun _ _=>()}]
def QM(x:List (List UInt8))(n:Int)(hw:gI [.d (.slice .str),.d (.int .i64)] (x,n,()))(hp:(fun a _=>a.1.length=1/\1<=a.2.1/\a.2.1<=1000000) (x,n,()) ()):(cR Tryz.B Tryz.QL Tryz.f67 (Fj x n) [] [.d (.slice .str),.d (.int .i64)] vF (x,n,()) ()).holds:=by
 refine holds_of (p:=
  let za:=bb x
  let zb:=bk bw (↑za:Int)
  let zc:=bk bw n
  let zd:=bk bm (zb*zc)
  let ze:=ch (bf zd) (bW Ty.str)
  let zf:=bb ze
  let zg:=bf n
  let zh:=min za zf
  let zi:=nth Ty.str x 0
  let zj:=fun(E:Nat)=>l5 zi zg E
  let zk:=fun(E:Nat)=>bb (zj E)
  let zl:=fun(E:Nat)=>(↑(zk E):Int)
  let zm:=fun(E:Nat)=>bd (E-0) (bj 0 (zj E))
  let zn:=fun(E:Nat)=>min (bb (zm E)) (zk E-E)
  let zo:=fun(E:Nat)=>(↑E:Int)+(↑(zn E):Int)
  ((decide (n<(0:Int)))=true->False)/\((decide (n<(0:Int)))=false->za<=aM->(zb=(1:Int)/\(0:Int)<=zc/\zc<=(1000000:Int))/\((decide ((0:Int) > (0:Int)))=true->False)/\((decide ((0:Int) > (0:Int)))=false->((decide (zb*zc > (9223372036854775807:Int)))=true->False)/\((decide (zb*zc > (9223372036854775807:Int)))=false->((0:Int)<=zd/\zd=zd/\zd<=(1000000000:Int))/\(True/\0+zf<=zf)/\(∃(F:Nat),(1<=F/\F<=zg)/\((↑zh:Int)=(↑F:Int)/\True)/\bd 0 ze++bd zh x++bj (0+zh) ze=l5 zi zg F/\True)/\∀E:Nat,1<=E/\E<=zg->zk E<=aM->((decide ((↑E:Int)<zl E))=true->((0:Int)<=(↑E:Int)/\(↑E:Int)<=zl E/\zl E<=zl E)/\((0:Int)<=(0:Int)/\(0:Int)<=(↑E:Int)/\(↑E:Int)<=zl E)/\(0+(E-0)<=zk E/\E+(zk E-E)<=zk E)/\(aJ (↑E:Int)->aJ (↑(zn E):Int)->aJ (zo E)/\∃(x':Nat),(1<=x'/\x'<=zg)/\zg-x'<zg-E/\(zo E=(↑x':Int)/\True)/\bd E (zj E)++bd (zn E) (zm E)++bj (E+zn E) (zj E)=l5 zi zg x'/\@bc (List UInt8)=@bc (List UInt8)/\True))/\((decide ((↑E:Int)<zl E))=false->True/\(zj E,())=(ch zg zi,())/\()=()))))) (by kernel_rfl) ?_
 dsimp -iota -proj -eta only;dsimp only at hp;have e1:bk bw n=n:=lB (by omega) (by omega);have e2:bk bw (x.length:Int)=1:=by rw[hp.1];exact lB (by decide) (by decide)
 have e3:bk bm (1*n)=n:=by rw[du];exact lC (by omega) (by omega)
 refine iL (fun h0 =>?a) (fun h0 h1=>⟨(by rw[e1,e2];omega),⟨fun h2=>absurd (show false=true from h2) (by decide),fun h2=>iL (fun h3=>(by rw[e1,e2]at*;omega)) (fun h3=>⟨(by rw[e1,e2,e3];omega),(by simp_all),?b,fun E q_0 h4=>iL (fun h5=>⟨?c,?d,?e,fun h6 h7=>⟨(by simp only[aJ,aM]at*;omega),?f⟩⟩) (fun h5=>(by rw[show E=bf n by have hl:=Hm (s:=nth .str x 0) (n:=bf n) (k:=E) (by omega);omega,Pd];exact⟨ba,rfl,rfl⟩))⟩)⟩⟩)
 case a|c|d|e=>omega
 case b=>
  rw[e1,e2,e3];obtain⟨s,rfl⟩:=dn.1 hp.1;refine⟨1,by omega,⟨?_,ba⟩,?_,(by trivial)⟩
  ·simp only[bu,cp];omega
  ·have hm:min (bb [s]) (bb (ch (bf n) (bW Ty.str)))=1:=by simp only[bu,cp];omega
   rw[hm];exact My (n:=bf n) (by omega) rfl [s] rfl
 case f=>
  have hl:=Hm (s:=nth .str x 0) (n:=bf n) (k:=E) (by omega);have e6:min (bb (bd (E-0) (bj 0 (l5 (nth .str x 0) (bf n) E)))) (bb (l5 (nth .str x 0) (bf n) E)-E)=min E (bf n-E):=by
   simp only[b5,c7];omega
  rw[e6];refine⟨E+min E (bf n-E),by omega,by omega,⟨by omega,ba⟩,?_,(by trivial)⟩;rw[Nat.sub_zero,c7];exact Pc (by omega) (by omega)
def Tryz.QN:bX Tryz.prog Tryz.B.eT Tryz.X 67 false (aV [] [.d (.slice .str),.d (.int .i64)] (fun a _=>a.1.length=1/\1<=a.2.1/\a.2.1<=1000000) vF):=
 bE (X:=Tryz.X) Tryz.TD Tryz.func67 (by kernel_rfl) (fun(a:CD [.d (.slice .str),.d (.int .i64)]) (x:PD [])=>Fj a.1 a.2.1) (fun(a:CD [.d (.slice .str),.d (.int .i64)]) (x:PD []) hw hp=>QM a.1 a.2.1 hw hp)
def xN:List (Alt [.row true .str] [.obj 0]):=[{bN:=[.row true .str,.row false .str],res:=[.obj 1],ok:=fun _ x=>x.1≠[],out:=fun _ x=>(x.1,x.1,()),ret:=fun _ _=>()}]
def QO(l:List (List UInt8))(hw:gI [.obj 0] ())(hp:(fun _ x=>x.1≠[]/\x.1.length<=1000000) () (l,())):(cR Tryz.B [] Tryz.f69 [] [.row true .str] [.obj 0] xN () (l,())).holds:=by
 refine holds_of (p:=
  ∀E:Bool,(0<bb l->E=false)->(E=true->False)/\(E=false->bb l<=1000000000/\l≠@bc (List UInt8)/\(l,l,())=(l,l,())/\()=())) (by kernel_rfl) ?_
 dsimp only at hp;refine fun E q_0=>⟨fun h0 =>?a,fun h0=>⟨(by omega),?b⟩⟩
 case a|b=>simp_all
def Tryz.QP:bX Tryz.prog Tryz.B.eT Tryz.X 69 false (aV [.row true .str] [.obj 0] (fun _ x=>x.1≠[]/\x.1.length<=1000000) xN):=
 bE (X:=Tryz.X) (bR Tryz.bQ) Tryz.func69 (by kernel_rfl) (fun(a:CD [.obj 0]) (x:PD [.row true .str])=>[]) (fun(a:CD [.obj 0]) (x:PD [.row true .str]) hw hp=>QO x.1 hw hp)
def Tryz.spZ5:Bool×aT:=(true,cE [.str] [.str] (fun s=>s.length<=64) (fun s=>eJ s))
def Tryz.IN:List (FuncId×(Bool×aT)):=[(68,Tryz.spZ5),(67,(false,aV [] [.d (.slice .str),.d (.int .i64)] (fun a _=>a.1.length=1/\1<=a.2.1/\a.2.1<=1000000) vF)),(69,(false,aV [.row true .str] [.obj 0] (fun _ x=>x.1≠[]/\x.1.length<=1000000) xN))]
def Tryz.NP:bO Tryz.prog Tryz.B Tryz.X Tryz.IN:=
 aQ (aE Tryz.Lr) (aQ (Tryz.QN) (aQ (Tryz.QP) (bR Tryz.bQ)))
def Tryz.A5:List (Alt Tryz.bD [.obj 0]):=[{bN:=Tryz.bD,res:=[.d .err],out:=fun _ x=>(stepOf x).1,ret:=fun _ x=>(aI (stepOf x).2,())}]
def Vw(d:Dk)(hw:gI [.obj 0] ())(hp:(fun _ x =>-1<=x.1.1) () d):(cR Tryz.B [] Tryz.f95 [] Tryz.bD [.obj 0] Tryz.A5 () d).holds:=by
 refine holds_of (p:=
  let za:=d.2.2.2.1=d.2.2.2.1
  let zb:=(-1:Int)
  let zc:=(stepOf d).1
  let zd:=(aI (stepOf d).2,())
  let ze:=(aL.no 9,())=zd
  let zf:=zb-1
  let zg:=(aL.nil,())=zd
  let zh:=d.1.1-1
  let zi:=((d.1.2.1)=true->za/\True/\d=zc/\ze)/\((d.1.2.1)=false->aJ d.1.1->aJ 1->aJ zh/\za/\True/\((if zb > zh then zb else zh,d.1.2),d.2)=zc/\zg)
  ((!d.1.2.1)=true->((d.1.1 == 0)=true->(true=true->za/\True/\((zb,true,()),d.2)=zc/\ze)/\(true=false->aJ zb->aJ 1->aJ zf/\za/\True/\((if zb > zf then zb else zf,true,()),d.2)=zc/\zg))/\((d.1.1 == 0)=false->zi))/\((!d.1.2.1)=false->zi)) (by kernel_rfl) ?_
 dsimp -iota -proj -eta only;refine iB (fun h0=>iQ (fun h1=>⟨fun h2=>(by rw[JT (by simp_all) ‹_›];exact⟨rfl,ba,rfl,rfl⟩),fun h2=>absurd (show true=false from h2) (by decide)⟩) (fun h1=>⟨fun h2 =>?a,fun h2 h3 h4=>⟨?b,(by rw[Pg (by simp_all) ‹_› hp];exact⟨rfl,ba,rfl,rfl⟩)⟩⟩)) (fun h0=>⟨fun h1 =>?c,fun h1 h2 h3=>⟨?d,(by simp_all)⟩⟩)
 case a|c=>rw[JS (by simp_all)];exact⟨rfl,ba,rfl,rfl⟩
 case b|d=>simp only[aJ]at*;omega
def Tryz.Vx:bX Tryz.prog Tryz.B.eT Tryz.X 95 false (aV Tryz.bD [.obj 0] (fun _ x =>-1<=x.1.1) Tryz.A5):=
 bE (X:=Tryz.X) (bR Tryz.bQ) Tryz.func95 (by kernel_rfl) (fun(a:CD [.obj 0]) (x:PD Tryz.bD)=>[]) (fun(a:CD [.obj 0]) (x:PD Tryz.bD) hw hp=>Vw x hw hp)
def Tryz.A6:List (FuncId×(Bool×aT)):=[(68,Tryz.spZ5),(95,(false,aV Tryz.bD [.obj 0] (fun _ x =>-1<=x.1.1) Tryz.A5))]
def Tryz.CH:bO Tryz.prog Tryz.B Tryz.X Tryz.A6:=
 aQ (aE Tryz.Lr) (aQ (Tryz.Vx) (bR Tryz.bQ))
def Tryz.xO:List (Alt Tryz.bD [.obj 0,.d (.int .i64),.d .str]):=[{bN:=Tryz.bD,res:=[.d .err],out:=fun a x=>(bK x a.1 a.2.1).1,ret:=fun a x=>(aI (bK x a.1 a.2.1).2,())}]
def QQ(at_:Int)(s:List UInt8)(d:Dk)(hw:gI [.obj 0,.d (.int .i64),.d .str] (at_,s,()))(hp:(fun _ x =>-1<=x.1.1/\x.2.2.2.1.length<=900000000) (at_,s,()) d):(cR Tryz.B Tryz.A6 Tryz.f70 [] Tryz.bD [.obj 0,.d (.int .i64),.d .str] Tryz.xO (at_,s,()) d).holds:=by
 refine holds_of (p:=
  let za:=d.2.2.2.1=d.2.2.2.1
  let zb:=bK d at_ s
  let zc:=(aI zb.2,())
  let zd:=za/\True/\d=zb.1/\(aL.no 1,())=zc
  let ze:=bb d.2.2.1
  let zf:=bb s
  let zg:=aI (stepOf d).2
  let zh:=(stepOf d).1
  let zi:=bb zh.2.2.1
  let zj:=bf at_
  let zk:=c8 zh.2.2.1 zj (eJ s)
  let zl:=zh.2.2.2.1
  let zm:=[(at_,nth Ty.str zk zj,())]
  let zn:=zl++zm
  let zo:=(zg,())=zc
  ((decide (at_<0))=true->zd)/\((decide (at_<0))=false->ze<=aM->((decide (at_>=(↑ze:Int)))=true->zd)/\((decide (at_>=(↑ze:Int)))=false->zf<=aM->((decide ((↑zf:Int) > 64))=true->zd)/\((decide ((↑zf:Int) > 64))=false->za/\(-1:Int)<=d.1.1/\(True->((aL.isNil zg)=true->zf<=64/\(0<=at_/\at_<(↑zi:Int))/\zj<zi/\(0<=at_/\at_<(↑(bb zk):Int))/\zj<bb zk/\(zl=zl/\bb zl+bb zm<=1000000000)/\zn=zn/\True/\(zh.1,zh.2.1,zk,zn,())=zb.1/\zo)/\((aL.isNil zg)=false->zl=zl/\True/\zh=zb.1/\zo)))))) (by kernel_rfl) ?_
 dsimp -iota -proj -eta only;refine iL (fun h0 =>?a) (fun h0 h1=>iE (fun h2 =>?b) (fun h2 h3=>iL (fun h4 =>?c) (fun h4=>⟨rfl,?d,fun h5=>⟨fun h6=>⟨?e,?f,?g,?h,?i,?j,?k⟩,fun h6=>(by rw[JR (by omega) (fun h=>by have:=aP.2 h;simp_all)];exact⟨rfl,ba,rfl,rfl⟩)⟩⟩)))
 case a|b|c=>rw[Mz (by omega)];exact⟨rfl,ba,rfl,rfl⟩
 case d|e=>omega
 case f|g=>
  have hlen:(stepOf d).fst.snd.snd.fst=d.snd.snd.fst:=congrArg (fun z=>z.2.1) (eW d);have hwt:(stepOf d).fst.snd.snd.snd.fst=d.snd.snd.snd.fst:=congrArg (fun z=>z.2.2.1) (eW d);have hkp:(stepOf d).fst.snd.fst=d.snd.fst:=congrArg (fun z=>z.1) (eW d);rw[hlen];omega
 case h|i=>
  have hlen:(stepOf d).fst.snd.snd.fst=d.snd.snd.fst:=congrArg (fun z=>z.2.1) (eW d);have hwt:(stepOf d).fst.snd.snd.snd.fst=d.snd.snd.snd.fst:=congrArg (fun z=>z.2.2.1) (eW d);have hkp:(stepOf d).fst.snd.fst=d.snd.fst:=congrArg (fun z=>z.1) (eW d);rw[en,hlen];omega
 case j=>
  have hlen:(stepOf d).fst.snd.snd.fst=d.snd.snd.fst:=congrArg (fun z=>z.2.1) (eW d);have hwt:(stepOf d).fst.snd.snd.snd.fst=d.snd.snd.snd.fst:=congrArg (fun z=>z.2.2.1) (eW d);have hkp:(stepOf d).fst.snd.fst=d.snd.fst:=congrArg (fun z=>z.1) (eW d);rw[hwt];simp only[bu,true_and];omega
 case k=>
  have hlen:(stepOf d).fst.snd.snd.fst=d.snd.snd.fst:=congrArg (fun z=>z.2.1) (eW d);have hwt:(stepOf d).fst.snd.snd.snd.fst=d.snd.snd.snd.fst:=congrArg (fun z=>z.2.2.1) (eW d);have hkp:(stepOf d).fst.snd.fst=d.snd.fst:=congrArg (fun z=>z.1) (eW d);rw[Pe (by omega) (aP.1 ‹_›),U3 (t:=.str) (by rw[hlen];omega),hlen,hwt,hkp];exact⟨rfl,ba,rfl,by simp[aP.1 ‹(aI (stepOf d).snd).isNil=true›]⟩
def Tryz.xP:bX Tryz.prog Tryz.B.eT Tryz.X 70 false (aV Tryz.bD [.obj 0,.d (.int .i64),.d .str] (fun _ x =>-1<=x.1.1/\x.2.2.2.1.length<=900000000) Tryz.xO):=
 bE (X:=Tryz.X) Tryz.CH Tryz.func70 (by kernel_rfl) (fun(a:CD [.obj 0,.d (.int .i64),.d .str]) (x:PD Tryz.bD)=>[]) (fun(a:CD [.obj 0,.d (.int .i64),.d .str]) (x:PD Tryz.bD) hw hp=>QQ a.1 a.2.1 x hw hp)
def Tryz.A7:List (Alt Tryz.bD [.obj 0,.d (.int .i64)]):=[{bN:=Tryz.bD,res:=[.d .str,.d .err],out:=fun _ x=>x,ret:=fun a x=>((qi x a.1).1,aI (qi x a.1).2,())}]
def TE(at_:Int)(d:Dk)(hw:gI [.obj 0,.d (.int .i64)] (at_,())):(cR Tryz.B [] Tryz.f58 [] Tryz.bD [.obj 0,.d (.int .i64)] Tryz.A7 (at_,()) d).holds:=by
 refine holds_of (p:=
  let za:=d.2.2.2.1=d.2.2.2.1
  let zb:=((qi d at_).1,aI (qi d at_).2,())
  let zc:=za/\True/\d=d/\([],aL.no 1,())=zb
  let zd:=bb d.2.2.1
  ((d.1.2.1)=true->za/\True/\d=d/\([],aL.no 9,())=zb)/\((d.1.2.1)=false->((decide (at_<0))=true->zc)/\((decide (at_<0))=false->zd<=aM->((decide (at_>=(↑zd:Int)))=true->zc)/\((decide (at_>=(↑zd:Int)))=false->(0<=at_/\at_<(↑zd:Int))/\bf at_<zd/\za/\True/\d=d/\(nth Ty.str d.2.2.1 (bf at_),aL.nil,())=zb)))) (by kernel_rfl) ?_
 dsimp -iota -proj -eta only;refine⟨fun h0=>(by rw[MA ‹_›];exact⟨rfl,ba,rfl,rfl⟩),fun h0=>iL (fun h1 =>?a) (fun h1 h2=>iE (fun h3 =>?b) (fun h3=>⟨(by trivial),(by omega),(by rw[SB ‹_› (by omega)];exact⟨rfl,ba,rfl,rfl⟩)⟩))⟩
 case a|b=>rw[Ph ‹_› (by omega)];exact⟨rfl,ba,rfl,rfl⟩
def Tryz.TF:bX Tryz.prog Tryz.B.eT Tryz.X 58 false (aV Tryz.bD [.obj 0,.d (.int .i64)] (fun _ _=>True) Tryz.A7):=
 bE (X:=Tryz.X) (bR Tryz.bQ) Tryz.func58 (by kernel_rfl) (fun(a:CD [.obj 0,.d (.int .i64)]) (x:PD Tryz.bD)=>[]) (fun(a:CD [.obj 0,.d (.int .i64)]) (x:PD Tryz.bD) hw hp=>TE a.1 x hw)
def Tryz.xQ:List (Alt Tryz.bD [.obj 0]):=[{bN:=Tryz.bD,res:=[.d .err],out:=fun _ x=>(bP x).1,ret:=fun _ x=>(aI (bP x).2,())}]
def QS(d:Dk)(hw:gI [.obj 0] ())(hp:(fun _ x =>-1<=x.1.1/\x.2.1.length=x.2.2.1.length) () d):(cR Tryz.B Tryz.A6 Tryz.f71 [] Tryz.bD [.obj 0] Tryz.xQ () d).holds:=by
 refine holds_of (p:=
  let za:=aI (stepOf d).2
  let zb:=(stepOf d).1
  let zc:=bb zb.2.1
  let zd:=zb.2.2.1
  let ze:=min (bb zd) zc
  let zf:=(za,())=(aI (bP d).2,())
  d.2.2.2.1=d.2.2.2.1/\(-1:Int)<=d.1.1/\(True->((aL.isNil za)=true->(True/\0+zc<=zc)/\(@bc (Int×List UInt8×Unit)=@bc (Int×List UInt8×Unit)/\True/\(zb.1,bd 0 zb.2.1++bd ze zd++bj (0+ze) zb.2.1,zd,[],())=(bP d).1/\zf))/\((aL.isNil za)=false->zb.2.2.2.1=zb.2.2.2.1/\True/\zb=(bP d).1/\zf))) (by kernel_rfl) ?_
 dsimp -iota -proj -eta only;refine⟨rfl,(by omega),fun h0=>⟨fun h1=>⟨(by simp_all),?a⟩,fun h1=>(by rw[y9 (fun h=>by have:=aP.2 h;simp_all)];exact⟨rfl,ba,rfl,rfl⟩)⟩⟩
 case a=>
  have hlen:(stepOf d).fst.snd.snd.fst=d.snd.snd.fst:=congrArg (fun z=>z.2.1) (eW d);have hwt:(stepOf d).fst.snd.snd.snd.fst=d.snd.snd.snd.fst:=congrArg (fun z=>z.2.2.1) (eW d);have hkp:(stepOf d).fst.snd.fst=d.snd.fst:=congrArg (fun z=>z.1) (eW d);have h0:=aP.1 ‹(aI (stepOf d).snd).isNil=true›;rw[Ep h0,hlen,hkp,Hn hp.2,h0];exact⟨rfl,ba,rfl,rfl⟩
def Tryz.xR:bX Tryz.prog Tryz.B.eT Tryz.X 71 false (aV Tryz.bD [.obj 0] (fun _ x =>-1<=x.1.1/\x.2.1.length=x.2.2.1.length) Tryz.xQ):=
 bE (X:=Tryz.X) Tryz.CH Tryz.func71 (by kernel_rfl) (fun(a:CD [.obj 0]) (x:PD Tryz.bD)=>[]) (fun(a:CD [.obj 0]) (x:PD Tryz.bD) hw hp=>QS x hw hp)
def Tryz.DE:List (Alt Tryz.bD [.obj 0,.d (.int .i64)]):=[{bN:=Tryz.bD,res:=[],out:=fun a x=>Wq x a.1,ret:=fun _ _=>()}]
def Vy(n:Int)(d:Dk)(hw:gI [.obj 0,.d (.int .i64)] (n,())):(cR Tryz.B [] Tryz.f18 [] Tryz.bD [.obj 0,.d (.int .i64)] Tryz.DE (n,()) d).holds:=by
 refine holds_of (p:=
  d.2.2.2.1=d.2.2.2.1/\True/\((if(-1:Int) > n then(-1:Int)else n,d.1.2),d.2)=Wq d n/\()=()) (by kernel_rfl) ?_
 exact⟨rfl,ba,rfl,rfl⟩
def Tryz.Vz:bX Tryz.prog Tryz.B.eT Tryz.X 18 false (aV Tryz.bD [.obj 0,.d (.int .i64)] (fun _ _=>True) Tryz.DE):=
 bE (X:=Tryz.X) (bR Tryz.bQ) Tryz.func18 (by kernel_rfl) (fun(a:CD [.obj 0,.d (.int .i64)]) (x:PD Tryz.bD)=>[]) (fun(a:CD [.obj 0,.d (.int .i64)]) (x:PD Tryz.bD) hw hp=>Vy a.1 x hw)
def Tryz.A8:List (Alt Tryz.bD [.obj 0]):=[{bN:=Tryz.bD,res:=[.d .bool],out:=fun _ x=>x,ret:=fun _ x=>(x.1.2.1,())}]
def TG(d:Dk)(hw:gI [.obj 0] ()):(cR Tryz.B [] Tryz.f19 [] Tryz.bD [.obj 0] Tryz.A8 () d).holds:=by
 refine holds_of (p:=
  d.2.2.2.1=d.2.2.2.1/\True/\d=d/\d.1.2=d.1.2) (by kernel_rfl) ?_
 exact(by trivial)
def Tryz.IP:bX Tryz.prog Tryz.B.eT Tryz.X 19 false (aV Tryz.bD [.obj 0] (fun _ _=>True) Tryz.A8):=
 bE (X:=Tryz.X) (bR Tryz.bQ) Tryz.func19 (by kernel_rfl) (fun(a:CD [.obj 0]) (x:PD Tryz.bD)=>[]) (fun(a:CD [.obj 0]) (x:PD Tryz.bD) hw hp=>TG x hw)
def Tryz.tw:List (Alt Tryz.bD [.obj 0]):=[{bN:=Tryz.bD,res:=[.d (.int .i64)],out:=fun _ x=>x,ret:=fun _ x=>((x.2.2.1.length:Int),())}]
def Kh(d:Dk)(hw:gI [.obj 0] ()):(cR Tryz.B [] Tryz.f57 [] Tryz.bD [.obj 0] Tryz.tw () d).holds:=by
 refine holds_of (p:=
  let za:=bb d.2.2.1
  let zb:=((↑za:Int),())
  za<=aM->d.2.2.2.1=d.2.2.2.1/\True/\d=d/\zb=zb) (by kernel_rfl) ?_
 dsimp -iota -proj -eta only;exact fun h0=>(by trivial)
def Tryz.tx:bX Tryz.prog Tryz.B.eT Tryz.X 57 false (aV Tryz.bD [.obj 0] (fun _ _=>True) Tryz.tw):=
 bE (X:=Tryz.X) (bR Tryz.bQ) Tryz.func57 (by kernel_rfl) (fun(a:CD [.obj 0]) (x:PD Tryz.bD)=>[]) (fun(a:CD [.obj 0]) (x:PD Tryz.bD) hw hp=>Kh x hw)
def Tryz.tz:List (Alt Tryz.bD [.obj 0,.d (.int .u64)]):=[{bN:=Tryz.bD,res:=[],out:=fun a x=>Hj x a.1,ret:=fun _ _=>()}]
def CI(k:Int)(d:Dk):dY:=[(0,fun st=>{X:=Nat,inv:=fun i=>i<=d.2.2.2.1.length,cD:=fun i=>d.2.2.2.1.length-i,bM:=fun i=>[(11,sI i)],aF:=fun i=>[(1,.aU .str (kT k d.2.2.2.1 d.2.1 i))],keep:=[0,1,9,10],gQ:=[1]})]
def Ki(k:Int)(d:Dk)(hw:gI [.obj 0,.d (.int .u64)] (k,()))(hp:(fun _ x=>x.2.1.length=x.2.2.1.length/\∀i,i<x.2.2.2.1.length->0<=((nth jr x.2.2.2.1 i).1:Int)/\((nth jr x.2.2.2.1 i).1:Int)<x.2.2.1.length) (k,()) d):(cR Tryz.B [] Tryz.f20 (CI k d) Tryz.bD [.obj 0,.d (.int .u64)] Tryz.tz (k,()) d).holds:=by
 refine holds_of (p:=
  let za:=d.2.2.2.1
  let zb:=bb za
  let zc:=d.2.1
  let zd:=fun(E:Nat)=>(nth jr za E).1
  let ze:=fun(E:Nat)=>kT k za zc E
  let zf:=fun(E:Nat)=>(↑E:Int)+(1:Int)
  let zg:=d.2.2.1
  let zh:=(C.aU 1=C.aU 1/\C.aU 2=C.aU 2/\za=za/\d.1.1=d.1.1/\d.1.2.1=d.1.2.1/\True)/\zg=zg/\za=za/\True
  let zi:=bb zg
  zb<=aM->(∃(x:Nat),x<=zb/\((0:Int)=(↑x:Int)/\True)/\zc=kT k za zc x/\True)/\∀E:Nat,E<=zb->((decide ((↑E:Int)<(↑zb:Int)))=true->((0:Int)<=(↑E:Int)/\(↑E:Int)<(↑zb:Int))/\(64:Int)≠(0:Int)/\∀F:Int,F=db (↑E:Int) (64:Int)->(0:Int)<=F/\∀G:Int,G=cf k ((2:Int)^min (bf F) (cj bw))->∀I:Int,I=bk bw (↑(cq (ca (cj bw) G&&&ca (cj bw) (1:Int))):Int)->((I == (1:Int))=true->((0:Int)<=zd E/\zd E<(↑(bb (ze E)):Int))/\bf (zd E)<bb (ze E)/\(aJ (↑E:Int)->aJ (1:Int)->aJ (zf E)/\∃(x':Nat),x'<=zb/\zb-x'<zb-E/\(zf E=(↑x':Int)/\True)/\c8 (ze E) (bf (zd E)) (nth jr za E).2.1=kT k za zc x'/\zh))/\((I == (1:Int))=false->aJ (↑E:Int)->aJ (1:Int)->aJ (zf E)/\∃(x':Nat),x'<=zb/\zb-x'<zb-E/\(zf E=(↑x':Int)/\True)/\ze E=kT k za zc x'/\zh))/\((decide ((↑E:Int)<(↑zb:Int)))=false->(True/\0+zi<=zi)/\(@bc (Int×List UInt8×Unit)=@bc (Int×List UInt8×Unit)/\True/\(((-1:Int),false,()),ze E,bd 0 zg++bd (min (bb (ze E)) zi) (ze E)++bj (0+min (bb (ze E)) zi) zg,[],())=Hj d k/\()=()))) (by kernel_rfl) ?_
 dsimp -iota -proj -eta only;refine fun h0=>⟨?a,fun E q_0=>iL (fun h1=>⟨(by omega),(by trivial),fun F q_1=>⟨(by have:=Uo E;rw[Int.tmod_eq_emod_of_nonneg (by omega)]at*;omega),fun G q_2 I q_3=>iQ (fun h2=>⟨?b,?c,fun h3 h4=>⟨?d,?e⟩⟩) (fun h2 h3 h4=>⟨?f,?g⟩)⟩⟩) (fun h1=>⟨(by simp_all),?h⟩)⟩
 case a=>refine⟨0,?_⟩;(repeat' (first|exact trivial|rfl|omega|assumption|apply dv))
 case b|c=>have:=hp.2 E (by omega);rw[xb];(try dsimp only[D]at*);omega
 case d|f=>simp only[aJ,aM]at*;omega
 case e|g=>
  have hb:=Sz (k:=k) (i:=E) (x:=G) (y:=I) ‹_› (by rw[‹F=_›];exact Uo E) ‹_›
  first|exact⟨E+1,by omega,by omega,⟨by omega,ba⟩,SA (hb.1 ‹_›),(by trivial)⟩|exact⟨E+1,by omega,by omega,⟨by omega,ba⟩,Pf ((not_congr hb).1 ‹_›),(by trivial)⟩
 case h=>
  obtain rfl:E=d.2.2.2.1.length:=by omega
  rw[Hn (by rw[xb];exact hp.1.symm)];exact⟨rfl,ba,rfl,rfl⟩
def Tryz.Kj:bX Tryz.prog Tryz.B.eT Tryz.X 20 false (aV Tryz.bD [.obj 0,.d (.int .u64)] (fun _ x=>x.2.1.length=x.2.2.1.length/\∀i,i<x.2.2.2.1.length->0<=((nth jr x.2.2.2.1 i).1:Int)/\((nth jr x.2.2.2.1 i).1:Int)<x.2.2.1.length) Tryz.tz):=
 bE (X:=Tryz.X) (bR Tryz.bQ) Tryz.func20 (by kernel_rfl) (fun(a:CD [.obj 0,.d (.int .u64)]) (x:PD Tryz.bD)=>CI a.1 x) (fun(a:CD [.obj 0,.d (.int .u64)]) (x:PD Tryz.bD) hw hp=>Ki a.1 x hw hp)
def Tryz.A9:List (Alt [] [.d (.int .i64)]):=[
 {bN:=[],res:=[.gW,.d .err],ok:=fun a _=>a.1<1\/120<a.1,out:=fun _ _=>(),ret:=fun _ _=>(aL.no 1,())},
 {bN:=Tryz.bD,res:=[.obj 0,.d .err],ok:=fun a _=>1<=a.1/\a.1<=120,out:=fun a _=>qQ a.1,ret:=fun _ _=>(aL.nil,())}]
def VA(n:Int)(hw:gI [.d (.int .i64)] (n,())):(cR Tryz.B Tryz.IN Tryz.f43 [] [] [.d (.int .i64)] Tryz.A9 (n,()) ()).holds:=by
 refine holds_of (p:=
  let za:=(aL.no 1,())
  let zb:=(n<1\/120<n)/\()=()/\za=za
  let zc:=[eJ (@bc UInt8)]
  let zd:=ch (bf n) (nth Ty.str zc 0)
  let ze:=zd≠@bc (List UInt8)
  ((decide (n<1))=true->zb)/\((decide (n<1))=false->((decide (n > 120))=true->zb)/\((decide (n > 120))=false->bb (@bc UInt8)<=64/\(bb zc=1/\1<=n/\n<=1000000)/\(True->(ze/\bb zd<=1000000)/\(ze->(@bc (Int×List UInt8×Unit)=@bc (Int×List UInt8×Unit)/\(1<=n/\n<=120)/\(((-1:Int),false,()),zd,zd,[],())=qQ n/\(aL.nil,())=(aL.nil,()))))))) (by kernel_rfl) ?_
 dsimp -iota -proj -eta only;refine iL (fun h0 =>?a) (fun h0=>iL (fun h1 =>?b) (fun h1=>⟨(by trivial),⟨rfl,by omega,by omega⟩,fun h2=>⟨?c,fun h3=>⟨rfl,by omega,rfl,rfl⟩⟩⟩))
 case a|b=>exact⟨by omega,rfl,rfl⟩
 case c=>
  refine⟨fun h =>?_,by simp only[cp];omega⟩;have:=congrArg bb h;simp only[cp,b3]at this;omega
def Tryz.VB:bX Tryz.prog Tryz.B.eT Tryz.X 43 false (aV [] [.d (.int .i64)] (fun _ _=>True) Tryz.A9):=
 bE (X:=Tryz.X) Tryz.NP Tryz.func43 (by kernel_rfl) (fun(a:CD [.d (.int .i64)]) (x:PD [])=>[]) (fun(a:CD [.d (.int .i64)]) (x:PD []) hw hp=>VA a.1 hw)
def VD(n:Int)(hw:gU [.int .i64] n):(dM Tryz.B [] Tryz.f96 [] [.int .i64] [.str] (fun x y=>y=(fun n=>jX n) x) n).holds:=by
 refine holds_of (p:=
  (0:Int)<=(8:Int)/\∀E:Int,E=cf n ((2:Int)^min 8 (cj bm))->(0:Int)<=(16:Int)/\∀F:Int,F=cf n ((2:Int)^min 16 (cj bm))->(0:Int)<=(24:Int)/\∀G:Int,G=cf n ((2:Int)^min 24 (cj bm))->bb [bk cd n,bk cd E,bk cd F,bk cd G]<=aM/\bytesOf [bk cd n,bk cd E,bk cd F,bk cd G]=jX n) (by kernel_rfl) ?_
 refine⟨?a,fun E q_0=>⟨?b,fun F q_1=>⟨?c,fun G q_2=>⟨((by decide:4<=aM)),(by subst q_0;subst q_1;subst q_2;rfl)⟩⟩⟩⟩
 case a|b|c=>trivial
def Tryz.VE:bY Tryz.prog Tryz.B.eT Tryz.X 96 [.int .i64] [.str] (fun _=>True) (fun x y=>y=(fun n=>jX n) x):=
 cF (X:=Tryz.X) (bR Tryz.bQ) Tryz.func96 (by kernel_rfl) (fun _=>[]) (fun x hw hp=>VD x hw)
def Tryz.Ls:List (FuncId×(Bool×aT)):=[(96,(true,cE [.int .i64] [.str] (fun _=>True) (fun n=>jX n)))]
def Tryz.QT:bO Tryz.prog Tryz.B Tryz.X Tryz.Ls:=
 aQ (aE Tryz.VE) (bR Tryz.bQ)
def TH(a:Int)(b:Int)(hw:gU [.int .i64,.int .i64] (a,b)):(dM Tryz.B Tryz.Ls Tryz.f72 [] [.int .i64,.int .i64] [.str] (fun x y=>y=(fun x=>fI x.1 x.2) x) (a,b)).holds:=by
 refine holds_of (p:=
  let za:=[(83:UInt8)]++jX a
  True/\bb [(83:UInt8)]+bb (jX a)<=aM/\True/\bb za+bb (jX b)<=aM/\za++jX b=fI a b) (by kernel_rfl) ?_
 dsimp -iota -proj -eta only;exact⟨ba,(by rw[sP];exact(by decide:1+4<=aM)),ba,(by rw[bt,sP,sP];exact(by decide:1+4+4<=aM)),(by trivial)⟩
def Tryz.IQ:bY Tryz.prog Tryz.B.eT Tryz.X 72 [.int .i64,.int .i64] [.str] (fun _=>True) (fun x y=>y=(fun x=>fI x.1 x.2) x):=
 cF (X:=Tryz.X) Tryz.QT Tryz.func72 (by kernel_rfl) (fun _=>[]) (fun x hw hp=>TH x.1 x.2 hw)
def QU(s:List UInt8)(hw:gU [.str] s)(hp:(fun s=>4<=s.length) s):(dM Tryz.B [] Tryz.f59 [] [.str] [.int .i64] (fun s y=>(y:Int)=iO s) s).holds:=by
 refine holds_of (p:=
  let za:=(↑(bb s):Int)
  let zb:=cj bm
  let zc:=fun(I F G:Int)=>I=bk bm (↑(cq (ca zb F ||| ca zb G)):Int)
  ((0:Int)<=(0:Int)/\(0:Int)<za)/\((0:Int)<=(1:Int)/\(1:Int)<za)/\(0:Int)<=(8:Int)/\∀E:Int,E=bk bm ((↑(b7 (dS s 1)):Int)*(2:Int)^min 8 zb)->∀F:Int,F=bk bm (↑(cq (ca zb (↑(b7 (dS s 0)):Int) ||| ca zb E)):Int)->((0:Int)<=(2:Int)/\(2:Int)<za)/\(0:Int)<=(16:Int)/\∀G:Int,G=bk bm ((↑(b7 (dS s 2)):Int)*(2:Int)^min 16 zb)->∀I:Int,zc I F G->((0:Int)<=(3:Int)/\(3:Int)<za)/\(0:Int)<=(24:Int)/\∀K:Int,K=bk bm ((↑(b7 (dS s 3)):Int)*(2:Int)^min 24 zb)->∀M:Int,zc M I K->M=iO s) (by kernel_rfl) ?_
 dsimp -iota -proj -eta only;refine⟨?a,?b,?c,fun E q_0 F q_1=>⟨?d,?e,fun G q_2 I q_3=>⟨?f,?g,fun K q_4 M q_5=>(by subst_vars;rfl)⟩⟩⟩
 case a|b|d|f=>omega
 case c|e|g=>trivial
def Tryz.QV:bY Tryz.prog Tryz.B.eT Tryz.X 59 [.str] [.int .i64] (fun s=>4<=s.length) (fun s y=>(y:Int)=iO s):=
 cF (X:=Tryz.X) (bR Tryz.bQ) Tryz.func59 (by kernel_rfl) (fun _=>[]) (fun x hw hp=>QU x hw hp)
def Tryz.spZ6:Bool×aT:=(true,cE [aC] [.str,.err] (fun _=>True) (fun e=>dG e))
def Tryz.Fk:List (FuncId×(Bool×aT)):=[(85,(false,rS 169 5)),(88,(false,qC 169 5)),(87,(true,wQ 169 5)),(90,Tryz.spZ6)]
def Tryz.Kk:bO Tryz.prog Tryz.B Tryz.X Tryz.Fk:=
 aQ (Tryz.z6) (aQ (Tryz.xM) (aQ (Tryz.Fi) (aQ (aE Tryz.IL) (bR Tryz.bQ))))
def Fl(l:List (D aC)):dY:=[
 (0,fun st=>{X:=Nat,inv:=fun i=>i<=l.length/\∀j,j<i->bB (nth aC l j)=0,cD:=fun i=>l.length-i,bM:=fun i=>[(11,sI i)],keep:=[4,9,10],aF:=fun i=>[(bH st 4,.ext 2 kz (bJ (fK (l.take i)),(169:Int),(5:Int),()))],gQ:=[bH st 4]})]
def TI(l:List (D aC))(hw:gU [.slice aC] l)(hp:(fun l=>l.length<=100) l):(dM (lX Tryz.B [17]) Tryz.Fk Tryz.f77 (Fl l) [.slice aC] [.str,.err] (fun x y=>y=(fun l=>dN l) x) l).holds:=by
 refine holds_of (p:=
  let za:=bb l
  let zb:=(↑(169:Nat):Int)
  let zc:=fun(b:UInt8)=>(↑(b7 b):Int)
  let zd:=((169:Int),(5:Int),())
  let ze:=(↑(5:Nat):Int)
  let zf:=fun(E:Nat)=>bo zc (fK (bd E l))
  za<=aM->(∃(x:Nat),(x<=za/\∀(j:Nat),j<x->bB (nth aC l j)=(0:Int))/\((0:Int)=(↑x:Int)/\True)/\([],zb,(↑(5:TypeId):Int),())=(bo zc (fK (bd x l)),zd)/\True)/\∀E:Nat,(E<=za/\∀(j:Nat),j<E->bB (nth aC l j)=(0:Int))->((decide ((↑E:Int)<(↑za:Int)))=true->((0:Int)<=(↑E:Int)/\(↑E:Int)<(↑za:Int))/\True/\((!aL.isNil (dG (nth aC l E)).2)=true->([],(dG (nth aC l E)).2)=dN l)/\((!aL.isNil (dG (nth aC l E)).2)=false->((169:Int)=zb/\(5:Int)=ze/\bb (zf E)+bb (dG (nth aC l E)).1<=(140737488355328:Nat))/\(aJ (↑E:Int)->aJ (1:Int)->aJ ((↑E:Int)+(1:Int))/\∃(x':Nat),(x'<=za/\∀(j:Nat),j<x'->bB (nth aC l j)=(0:Int))/\za-x'<za-E/\((↑E:Int)+(1:Int)=(↑x':Int)/\True)/\(zf E++bo zc (dG (nth aC l E)).1,zb,ze,())=(bo zc (fK (bd x' l)),zd)/\True)))/\((decide ((↑E:Int)<(↑za:Int)))=false->((169:Int)=zb/\(5:Int)=ze)/\(bytesOf (zf E),aL.nil)=dN l)) (by kernel_rfl) ?_
 dsimp -iota -proj -eta only;refine fun h0=>⟨(⟨0,⟨b6 _,fun j hj=>absurd hj (cw _)⟩,⟨rfl,ba⟩,rfl,ba⟩),fun E q_0=>iL (fun h1=>⟨(by omega),ba,iB (fun h2=>(Qg q_0.2 (by omega) h2)) (fun h2=>⟨?a,fun h3 h4=>⟨(by simp only[aJ,aM]at*;omega),(⟨E+1,⟨by omega,lY q_0.2 (vm h2).1⟩,by omega,⟨by omega,ba⟩,oK (Qh (by omega) h2),ba⟩)⟩⟩)⟩) (fun h1=>⟨(by trivial),(by rw[show bytesOf (bo _ (fK (bd E l)))=_ from uX _];exact S7 q_0.2 (by omega))⟩)⟩
 case a=>refine⟨rfl,rfl,?_⟩;rw[bz];have h1:=Qi hp (i:=E) (by omega) q_0.2;have h2:=Np h2;omega
def Tryz.TJ:bY Tryz.prog Tryz.B.eT Tryz.X 77 [.slice aC] [.str,.err] (fun l=>l.length<=100) (fun x y=>y=(fun l=>dN l) x):=
 cF (B:=(lX Tryz.B [17])) (X:=Tryz.X) (bO.hint (l:=[17]) Tryz.Kk) Tryz.func77 (by kernel_rfl) (fun x=>Fl x) (fun x hw hp=>TI x hw hp)
end Go.Proofs.YtgokjhhcfemnhadGreatDoor

namespace Go.Proofs.YtgokjhhcfemnhadGreatDoor
open Go.Vg Go.Shelf Go.RowKit
attribute [local go_sem] Oper.semAt_some
def CJ(p j k:Nat):Prop:=p=j*k
def WE{n k m:Nat}(h:min k n=m):(if n<k then((n:Nat):Int)else(k:Int))=(m:Int):=by split <;> omega
def Tryz.Xw(b1 b2:Nat)(a:Option Addr)(len cap k:Nat)(w0:World)(h1k:1<=k)(hk9:k<=1000000000)(hl9:len<=1000000000)(hlc:len<=cap)(hsome:0<len->∃b o,a=some ⟨b,o,none⟩)
  (l:Nat)(J Jx:List Nat->World->Prop)(hJd:∀s W,J s W->J s W.drew)
  (hY:∀pre x W1,J pre W1->pre.length<fM len k->YieldAt Fence.wide 1 Tryz.prog l #[kx a len k x] W1 fun e W'=>
   (e=.returned (.bool true)/\J (pre++[x]) W'/\(W'.cell? ⟨b1,0,none⟩=W1.cell? ⟨b1,0,none⟩/\W'.cell? ⟨b2,0,none⟩=W1.cell? ⟨b2,0,none⟩))\/(e=.returned (.bool false)/\Jx (pre++[x]) W'))
  (W:World)(hc1:W.cell? ⟨b1,0,none⟩=some (.slice a len cap))(hc2:W.cell? ⟨b2,0,none⟩=some (.int .i64 k))(h0:J [] W) :
  CallsIn Fence.wide 2 Tryz.prog 97 #[.func (.yield l) #[] #[],.pointer (some ⟨b1,0,none⟩),.pointer (some ⟨b2,0,none⟩)] W fun e W'=>(∃v,e=.returned v)/\((∃xs,xs=cr (fM len k)/\J xs W')\/(∃pre,(∃j,pre=cr j)/\Jx pre W')):=by
 refine callsIn_of_wp Tryz.func97 rfl trivial ?_ rfl;have hn:Tryz.f97.ntmps=31:=rfl;simp only[hn,List.size_toArray,bx,b3,Nat.reduceAdd,Nat.reduceSub,Array.replicate_succ,Array.replicate_zero,List.push_toArray,List.append_toArray,List.nil_append,List.cons_append]
 gi_wp2
 gi_loopw [4] (fun i wr=>∃j p:Nat,CJ p j k/\j<=fM len k/\i=.int .i64 (p:Int)/\J (cr j) wr/\wr.cell? ⟨b1,0,none⟩=some (.slice a len cap)/\wr.cell? ⟨b2,0,none⟩=some (.int .i64 k))
  (fun i _=>len+k-(intOf i).toNat)
 case atStart=>exact⟨0,0,(Nat.zero_mul k).symm,b6 _,rfl,h0,hc1,hc2⟩
 case round=>
  obtain⟨j,p,hp,hj,rfl,hJs,hw1,hw2⟩:=hrel;by_cases hlt:p<len
  ·have hlt':(p:Int)<(len:Int):=Int.ofNat_lt.2 hlt
   obtain⟨b,o,rfl⟩:=hsome (by omega);obtain⟨m,hm⟩:∃m:Nat,m=min k (len-p):=⟨_,rfl⟩
   have hm0:0<m:=by omega
   have hm00:¬m=0:=by omega
   have hm2:p+m<=len:=by omega
   have hb1:(((p:Nat):Int)+(m:Int))<=1000000000:=by omega
   have hb0:(0:Int)<=((p:Nat):Int)+(m:Int):=by omega
   have hjN:j<fM len k:=by
    unfold fM;rw[eo (by omega)];unfold CJ at hp;omega
   obtain⟨fn,tmps,assign,body,hy,hR⟩:=hY (cr j) j wr.drew (hJd _ _ hJs) (by rw[List.length_range];exact hjN);rw[show kx (some ⟨b,o,none⟩) len k j=.slice (some ⟨b,o+p,none⟩) m m by unfold CJ at hp;subst hp;subst hm;rfl]at hy
   gi_wp2
   gi_region
   try rw[WE (show min k (len-p)=m from hm.symm)]
   try rw[show min ((k:Nat):Int) ((len-p:Nat):Int)=(m:Int) by omega]
   try rw[<-hm]
   clear hm
   gi_wp2
   refine hR.mono ?_;rintro e W3 (⟨rfl,hJ3,hk3⟩|⟨rfl,hJx3⟩)
   ·have hw3:=hk3.1.trans hw1
    have hw4:=hk3.2.trans hw2;have hs1:(0:Int)<=(p:Int)+(k:Int):=by omega
    have hs2:(p:Int)+(k:Int)<=2000000000:=by omega
    gi_wp2
    go_roundw
    case rel=>exact⟨j+1,p+k,by unfold CJ at*;rw[hp,Nat.add_mul,Nat.one_mul],hjN,by simp,by rw[ep];exact hJ3,hw3,hw4⟩
    case measure=>simp[intOf];omega
   ·gi_wp2
    refine bodyPost_ret (results_none rfl _ _ _) rfl ?_;exact⟨⟨_,rfl⟩,.inr ⟨_,⟨j+1,ep.symm⟩,hJx3⟩⟩
  ·have hjN:j=fM len k:=by
    refine Nat.le_antisymm hj (Nat.le_of_not_lt fun hc=>hlt ?_);unfold fM at hc;rw[eo (by omega)]at hc;unfold CJ at hp;omega
   gi_wp2
   go_end0
   exact⟨⟨_,rfl⟩,.inl ⟨_,rfl,by rw[<-hjN];exact hJs⟩⟩
def Tryz.VF:uf Tryz.prog 97:=fun b1 b2 a len cap k w h1k hk9 hl9 hlc hsome hb1 hb2 hc1 hc2 l J Jx W hW hJ _ hY h0=>
 Tryz.Xw b1 b2 a len cap k w h1k hk9 hl9 hlc hsome l J Jx (fun s W hs=>hJ s W W.drew none hs ⟨rfl,rfl,rfl,b9 _,fun _ _ _=>rfl⟩ (fun r e=>by cases e)) hY W
  ((hW.cell (p:=⟨b1,0,none⟩) hb1).trans hc1) ((hW.cell (p:=⟨b2,0,none⟩) hb2).trans hc2) h0
end Go.Proofs.YtgokjhhcfemnhadGreatDoor

namespace Go.Proofs.YtgokjhhcfemnhadGreatDoor
open Go.Vg Go.Mrl
@[reducible] def Tryz.bT:List Ob:=[.box 117 [.obj 1,.d (.int .i64),.d (.slice aC)],.box 98 [.obj 2,.obj 3,.obj 4,.d (.int .i64),.d .bool],.row true .str,.row true .str,.tok jr]
@[reducible] def Tryz.VG:List Ob:=[.box 66 [.obj 1],.box 117 [.obj 2,.d (.int .i64),.d (.slice aC)],.box 98 [.obj 3,.obj 4,.obj 5,.d (.int .i64),.d .bool],.row true .str,.row true .str,.tok jr,.box 31 [.d .err],.box 31 [.d .err],.box 3 [.d (.int .i64)]]
def Tryz.spZ7:Bool×aT:=(true,cE [.int .i64,.int .i64] [.str] (fun _=>True) (fun x=>fI x.1 x.2))
def Tryz.spZ8:Bool×aT:=(false,aV Tryz.bD [.obj 0,.d (.int .i64),.d .str] (fun _ x =>-1<=x.1.1/\x.2.2.2.1.length<=900000000) Tryz.xO)
def Tryz.spZ9:Bool×aT:=(false,aV Tryz.bD [.obj 0] (fun _ x =>-1<=x.1.1/\x.2.1.length=x.2.2.1.length) Tryz.xQ)
def Tryz.Lt:List (FuncId×(Bool×aT)):=[(77,(true,cE [.slice aC] [.str,.err] (fun l=>l.length<=100) (fun l=>dN l))),(72,Tryz.spZ7),(78,(false,gx Tryz.B [] Tryz.f78 [])),(70,Tryz.spZ8),(71,Tryz.spZ9)]
def Tryz.QW:bO Tryz.prog Tryz.B Tryz.X Tryz.Lt:=
 aQ (aE Tryz.TJ) (aQ (aE Tryz.IQ) (aQ (eQ (bR Tryz.bQ) Tryz.func78 (by kernel_rfl) []) (aQ (Tryz.xP) (aQ (Tryz.xR) (bR Tryz.bQ)))))
def Tryz.IS(l:List (D aC))(r:Int)(o:List (D aC))(d:Dk):List (Nat×(St->lH)):=[
 (0,fun st=>{inv:=fun pre=>(ik l r d pre).2=0,keep:=[1,2,4,5,6,7,8,29],aN:=Tryz.VG,refs:=[(2,0),(4,6),(6,7),(8,8)],pd:=fun pre=>((),(r,o,()),(ik l r d pre).1.1,(ik l r d pre).1.2.1,(ik l r d pre).1.2.2.1,(ik l r d pre).1.2.2.2.1,(aL.nil,()),(aL.nil,()),((2+(r+1).tmod 2*55+(pre.length:Int):Int),()),())})]
def Tryz.Ba:List (Alt Tryz.bT [.obj 0,.d (.slice aC)]):=[{bN:=Tryz.bT,res:=[.d .err],out:=fun a x=>(if(eK x.2 x.1.1 a.1).2=0 then(x.1.1+1,a.1,())else x.1,(eK x.2 x.1.1 a.1).1),ret:=fun a x=>(aI (eK x.2 x.1.1 a.1).2,())}]
def VH(l:List (D aC))(r:Int)(o:List (D aC))(d:Dk)(hw:gI [.obj 0,.d (.slice aC)] (l,()))(hp:(fun a x=>a.1.length<=100/\0<=(x.1.1:Int)/\(x.1.1:Int)<=1000000000/\dA x.2 1000000) (l,()) ((r,o,()),d)):(Dv Tryz.B Tryz.Lt 97 Tryz.f50 (Tryz.IS l r o d) Tryz.bT [.obj 0,.d (.slice aC)] Tryz.Ba (l,()) ((r,o,()),d)).holds:=by
 refine holds_of (p:=
  let za:=d.2.2.2.1
  let zb:=(r,o,())
  let zc:=eK d r l
  let zd:=r+(1:Int)
  let ze:=(zd,l,())
  let zf:=(if zc.2=(0:Int)then ze else zb,zc.1)
  let zg:=((dN l).2,())
  let zh:=(aI zc.2,())
  let zi:=(2:Int)≠(0:Int)
  let zj:=db zd (2:Int)
  let zk:=bo (fun(b:UInt8)=>(↑(b7 b):Int)) (dN l).1
  let zl:=(aL.nil,())
  let zm:=(2:Int)+zj*(55:Int)
  let zn:=(bb zk+(64:Nat)-(1:Nat)) / (64:Nat)
  let zo:=fun(I:Nat)=>bd (64:Nat) (bj (I*(64:Nat)) zk)
  let zp:=fun(G:List Nat)=>(ik l r d G).1
  let zq:=(-1:Int)
  let zr:=fun(G:List Nat)=>zm+(↑(bb G):Int)
  let zs:=fun(G:List Nat) (I:Nat)=>aI (bK (zp G) (zr G) (bytesOf (zo I))).2
  let zt:=fun(G:List Nat) (I:Nat)=>(bK (zp G) (zr G) (bytesOf (zo I))).1
  let zu:=fun(I:Nat) (G:List Nat)=>(bb (zo I)<=aM)/\((zp G).2.2.2.1=(zp G).2.2.2.1)/\(zq<=(zp G).1.1/\bb (zp G).2.2.2.1<=(900000000:Nat))/\((True)->(((!aL.isNil (zs G I))=true->((G=cr I)->((zt G I).2.2.2.1=(zt G I).2.2.2.1/\True/\(zb,zt G I)=zf/\(zs G I,())=zh)))/\((!aL.isNil (zs G I))=false->((aJ (zr G))->((aJ (1:Int))->(aJ (zr G+(1:Int)))/\((zt G I).2.2.2.1=(zt G I).2.2.2.1/\∃(x':List Nat),(ik l r d x').2=(0:Int)/\x'=G++[I]/\True/\True/\true=true/\((),zb,(zt G I).1,(zt G I).2.1,(zt G I).2.2.1,(zt G I).2.2.2.1,zl,(zs G I,()),(zr G+(1:Int),()),())=((),zb,(ik l r d x').1.1,(ik l r d x').1.2.1,(ik l r d x').1.2.2.1,(ik l r d x').1.2.2.2.1,zl,zl,(zm+(↑(bb x'):Int),()),())))))))
  let zv:=ik l r d (cr zn)
  let zw:=zv.1.2.2.2.1
  let zx:=aI (bP zv.1).2
  let zy:=aL.isNil zx
  let zz:=bb (dN l).1
  let zaa:=(bP zv.1).1
  let zab:=zaa.2.2.2.1
  let zac:=zab=zab
  let zad:=zq<=zaa.1.1
  let zae:=fun(G:Int)=>bK zaa G (fI zd (↑zz:Int))
  let zaf:=fun(G:Int)=>(zae G).1.2.2.2.1=(zae G).1.2.2.2.1
  let zag:=fun(G:Int)=>(bP (zae G).1).1
  let zah:=fun(G:Int)=>(zag G).2.2.2.1=(zag G).2.2.2.1
  let zai:=fun(G:Int)=>(aI (bP (zae G).1).2,())=zh
  let zaj:=fun(G:Int)=>(aI (zae G).2,())=zh
  let zak:=aI (bP zaa).2
  let zal:=(bP zaa).1
  let zam:=zal.2.2.2.1=zal.2.2.2.1
  let zan:=(zak,())=zh
  let zao:=(zx,())=zh
  (bb l<=(100:Nat))/\(((!aL.isNil (dN l).2)=true->(za=za/\True/\(zb,d)=zf/\zg=zh))/\((!aL.isNil (dN l).2)=false->((aJ r)->((aJ (1:Int))->(aJ zd)/\(zi)/\(∀E:Int,((E=zj)->(∀F:Int,((F=E*(55:Int))->((aJ E)->((aJ (55:Int))->(aJ F)/\((aJ (2:Int))->((aJ F)->(aJ ((2:Int)+F))/\(((decide ((64:Int)<(1:Int)))=true->(False))/\((decide ((64:Int)<(1:Int)))=false->((((1:Int)<=(64:Int)/\(64:Int)<=(1000000000:Int)/\bb zk<=(1000000000:Nat)))/\((za=za/\∃(x':List Nat),(ik l r d x').2=(0:Int)/\x'=@bc Nat/\True/\True/\true=true/\((),zb,d.1,d.2.1,d.2.2.1,za,zl,zg,((2:Int)+F,()),())=((),zb,(ik l r d x').1.1,(ik l r d x').1.2.1,(ik l r d x').1.2.2.1,(ik l r d x').1.2.2.2.1,zl,zl,(zm+(↑(bb x'):Int),()),())))/\((∀G:List Nat,(((ik l r d G).2=(0:Int))->(∀I:Nat,((bb G<zn)->((((fun a0 a1:Prop=>a0/\a0/\a1) (((fun a0:Prop=>a0/\a0) ((zu I G)))) ((zu I G))))/\(((((fun a0:Prop=>a0/\a0) ((zu I G))))/\((zu I G))))/\((zu I G))))))))/\(((zv.2=(0:Int))->(zw=zw)/\(zq<=zv.1.1.1/\bb zv.1.2.1=bb zv.1.2.2.1)/\((True)->(((zy)=true->(zi)/\(∀G:Int,((G=zj)->((zz<=aM)->(True)/\(zac)/\(zad/\bb zab<=(900000000:Nat))/\((True)->(((aL.isNil (aI (zae G).2))=true->(zaf G)/\(zq<=(zae G).1.1.1/\bb (zae G).1.2.1=bb (zae G).1.2.2.1)/\((True)->(((aL.isNil (aI (bP (zae G).1).2))=true->((fun a0:Prop=>a0/\a0) ((zah G/\True/\(ze,zag G)=zf/\zai G))))/\((aL.isNil (aI (bP (zae G).1).2))=false->(zah G/\True/\(zb,zag G)=zf/\zai G)))))/\((aL.isNil (aI (zae G).2))=false->(((aL.isNil (aI (zae G).2))=true->((fun a0:Prop=>a0/\a0) ((zaf G/\True/\(ze,(zae G).1)=zf/\zaj G))))/\((aL.isNil (aI (zae G).2))=false->(zaf G/\True/\(zb,(zae G).1)=zf/\zaj G))))))))))/\((zy)=false->(((zy)=true->(zac)/\(zad/\bb zaa.2.1=bb zaa.2.2.1)/\((True)->(((aL.isNil zak)=true->((fun a0:Prop=>a0/\a0) ((zam/\True/\(ze,zal)=zf/\zan))))/\((aL.isNil zak)=false->(zam/\True/\(zb,zal)=zf/\zan)))))/\((zy)=false->(((zy)=true->((fun a0:Prop=>a0/\a0) ((zac/\True/\(ze,zaa)=zf/\zao))))/\((zy)=false->(zac/\True/\(zb,zaa)=zf/\zao)))))))))))))))))))))))))) (by kernel_rfl) ?_
 dsimp -iota -proj -eta only;dsimp only at hp;refine⟨hp.1,iB (fun h0 =>?a) (fun h0 h1 h2=>⟨(by have hr:=hp.2.1;have hr2:=hp.2.2.1;simp only[aJ]at*;dsimp only[D]at*;omega),?b,fun E q_0 F q_1 h3 h4=>⟨?c,fun h5 h6=>⟨?d,⟨fun h7=>absurd (show false=true from h7) (by decide),fun h7=>⟨?e,?f,fun G q_2 I q_3=>⟨(show ∀{a0 a1:Prop},a0->a1->a0/\a0/\a1 from fun g0 g1=>⟨g0,g0,g1⟩) ((show ∀{a0:Prop},a0->a0/\a0 from fun g0=>⟨g0,g0⟩) (⟨?g,rfl,?h,fun h8=>iB (fun h9 h10 =>?i) (fun h9 h10 h11=>⟨?j,?k⟩)⟩)) (⟨?l,rfl,?m,fun h8=>iB (fun h9 h10 =>?n) (fun h9 h10 h11=>⟨?o,?p⟩)⟩),⟨(show ∀{a0:Prop},a0->a0/\a0 from fun g0=>⟨g0,g0⟩) (⟨?q,rfl,?r,fun h8=>iB (fun h9 h10 =>?s) (fun h9 h10 h11=>⟨?t,?u⟩)⟩),⟨?v,rfl,?w,fun h8=>iB (fun h9 h10 =>?x) (fun h9 h10 h11=>⟨?y,?z⟩)⟩⟩,⟨?a0,rfl,?a1,fun h8=>iB (fun h9 h10 =>?a2) (fun h9 h10 h11=>⟨?a3,?a4⟩)⟩⟩,fun h8=>⟨rfl,(by have hf:=AY (r:=r) hp.1 hp.2.2.2;exact⟨hf.mb,hf.len⟩),fun h9=>⟨fun h10=>⟨?a5,fun G q_2 h11=>⟨ba,rfl,(by have hf:=ri (AY (r:=r) hp.1 hp.2.2.2);exact⟨hf.mb,b4 hf.lO (by decide)⟩),fun h12=>⟨fun h13=>⟨rfl,(by have hf:=mc (ri (AY (r:=r) hp.1 hp.2.2.2)) G (fI (r+1) (dN l).1.length);exact⟨hf.mb,hf.len⟩),fun h14=>⟨fun h15=>(show ∀{a0:Prop},a0->a0/\a0 from fun g0=>⟨g0,g0⟩) ((by subst q_2;exact⟨rfl,ba,Qk (E2 h0 h8 (aP.1 h10) (aP.1 h13)) (aP.1 h15)⟩)),fun h15=>(by subst q_2;exact⟨rfl,ba,r7 (E2 h0 h8 (aP.1 h10) (aP.1 h13)) (dK h15)⟩)⟩⟩,fun h13=>⟨fun h14=>(show ∀{a0:Prop},a0->a0/\a0 from fun g0=>⟨g0,g0⟩) ((ct (h13.symm.trans h14))),fun h14=>(by subst q_2;exact⟨rfl,ba,r7 (Vf h0 h8 (aP.1 h10) (dK h13)) (dK h13)⟩)⟩⟩⟩⟩,fun h10=>⟨fun h11=>⟨rfl,?a6,fun h12=>⟨fun h13=>(show ∀{a0:Prop},a0->a0/\a0 from fun g0=>⟨g0,g0⟩) (?a7),fun h13 =>?a8⟩⟩,fun h11=>⟨fun h12=>(show ∀{a0:Prop},a0->a0/\a0 from fun g0=>⟨g0,g0⟩) ((ct (h10.symm.trans h12))),fun h12=>⟨rfl,ba,r7 (Ve h0 h8 (dK h10)) (dK h10)⟩⟩⟩⟩⟩⟩⟩⟩⟩⟩)⟩
 case a=>
  obtain⟨e1,e2,e3⟩:=Qj d r h0;rw[e3];exact⟨rfl,ba,r7 (z:=(d,lI l)) e1 e2⟩
 case b|a5=>trivial
 case c|d=>have ht:=Ux (r:=r) hp.2.1;simp only[aJ]at*;dsimp only[D]at*;omega
 case e=>refine⟨by decide,by decide,?_⟩;rw[bz];have:=E1 hp.1;omega
 case f=>
  refine⟨rfl,[],rfl,rfl,ba,ba,rfl,?_⟩;rw[(qJ h0).1,q_1,q_0];simp[ik,mr]
 case g|l|q|v|a0=>rw[b5];exact b4 (Nat.min_le_left _ _) (by decide)
 case h|m|r|w|a1=>
  have hf:=Il (l:=l) (r:=r) hp.2.2.2 G;have h5000:=vr hp.1;exact⟨hf.mb,b4 hf.lO (by have:G.length<fM (bJ (dN l).1).length 64:=q_3;omega)⟩
 case i|n|s|x|a2=>exact⟨rfl,ba,r7 (Nu h0 q_2 h10 q_3 (dK h9)) (dK h9)⟩
 case j|o|t|y|a3=>
  have ht:=Ux (r:=r) hp.2.1;have h5000:=vr hp.1;have:G.length<fM (bJ (dN l).1).length 64:=q_3;simp only[aJ]at*;dsimp only[D]at*;omega
 case k|p|u|z|a4=>
  have hz:=aP.1 h9;refine⟨rfl,G++[I],?_,rfl,ba,ba,rfl,?_⟩
  ·rw[Io I q_2];exact hz
  ·rw[Io I q_2,bt]
   refine congrArg (fun z=>((),(r,o,()),z)) ?_;rw[show aI _=aL.nil from congrArg aI hz];simp only[bu,Int.natCast_add,Int.natCast_one,Int.add_assoc];rfl
 case a6|a7|a8=>exact ct (h10.symm.trans h11)
def Tryz.Lu:bX Tryz.prog Tryz.B.eT Tryz.X 50 false (aV Tryz.bT [.obj 0,.d (.slice aC)] (fun a x=>a.1.length<=100/\0<=(x.1.1:Int)/\(x.1.1:Int)<=1000000000/\dA x.2 1000000) Tryz.Ba):=
 Dw (X:=Tryz.X) Tryz.QW Tryz.VF Tryz.func97 (by kernel_rfl) Tryz.func50 (by kernel_rfl) (fun(a:CD [.obj 0,.d (.slice aC)]) (x:PD Tryz.bT)=>Tryz.IS a.1 x.1.1 x.1.2.1 x.2) (fun(a:CD [.obj 0,.d (.slice aC)]) (x:PD Tryz.bT) hw hp=>VH a.1 x.1.1 x.1.2.1 x.2 hw hp)
def Tryz.CK:List (FuncId×(Bool×aT)):=[(74,(false,gx Tryz.B [] Tryz.f74 []))]
def Tryz.IT:bO Tryz.prog Tryz.B Tryz.X Tryz.CK:=
 aQ (eQ (bR Tryz.bQ) Tryz.func74 (by kernel_rfl) []) (bR Tryz.bQ)
def Fm:dY:=[(0,fun st=>{X:=Nat,inv:=fun i=>i<=(cX (.slice aC) st 0).length/\∀j,j<i->(nth aC (cX (.slice aC) st 0) j).1≠Sj .str st (Ms st 1 0),cD:=fun i=>(cX (.slice aC) st 0).length-i,bM:=fun i=>[(8,sI i)],keep:=[0,1,7]})]
def Tryz.Lv:List (FuncId×(Bool×aT)):=[(73,(false,gx Tryz.B Tryz.CK Tryz.f73 Fm))]
def Tryz.QX:bO Tryz.prog Tryz.B Tryz.X Tryz.Lv:=
 aQ (eQ Tryz.IT Tryz.func73 (by kernel_rfl) Fm) (bR Tryz.bQ)
def Tryz.Bb:List (Alt Tryz.bT [.obj 0,.d .str]):=[{bN:=Tryz.bT,res:=[.d (.int .i64)],out:=fun _ x=>x,ret:=fun a x=>(eC x.1.2.1 a.1,())}]
def VI(s:List UInt8)(r:Int)(o:List (D aC))(d:Dk)(hw:gI [.obj 0,.d .str] (s,())):(cR Tryz.B Tryz.Lv Tryz.f48 [] Tryz.bT [.obj 0,.d .str] Tryz.Bb (s,()) ((r,o,()),d)).holds:=by
 refine holds_of (p:=
  let za:=bb o
  let zb:=d.2.2.2.1=d.2.2.2.1
  let zc:=((r,o,()),d)
  let zd:=(eC o s,())
  let ze:=C.ref 1 0
  za<=aM->(∃(x:Nat),(x<=za/\∀(j:Nat),j<x->(nth aC o j).1≠s)/\(0=(↑x:Int)/\True)/\True)/\∀E:Nat,(E<=za/\∀(j:Nat),j<E->(nth aC o j).1≠s)->((decide ((↑E:Int)<(↑za:Int)))=true->(0<=(↑E:Int)/\(↑E:Int)<(↑za:Int))/\(((nth aC o E).1 == s)=true->zb/\True/\zc=zc/\((↑E:Int),())=zd)/\(((nth aC o E).1 == s)=false->aJ (↑E:Int)->aJ 1->aJ ((↑E:Int)+1)/\∃(x':Nat),(x'<=za/\∀(j:Nat),j<x'->(nth aC o j).1≠s)/\za-x'<za-E/\((↑E:Int)+1=(↑x':Int)/\True)/\(s=s/\True)/\(ze=ze/\r=r/\o=o/\True)/\(C.aU 2=C.aU 2/\C.aU 3=C.aU 3/\zb/\d.1.1=d.1.1/\d.1.2.1=d.1.2.1/\True)/\d.2.1=d.2.1/\d.2.2.1=d.2.2.1/\zb/\True))/\((decide ((↑E:Int)<(↑za:Int)))=false->zb/\True/\zc=zc/\((-1:Int),())=zd)) (by kernel_rfl) ?_
 dsimp -iota -proj -eta only;exact fun h0=>⟨(⟨0,⟨b6 _,fun j hj=>absurd hj (cw _)⟩,⟨rfl,ba⟩,ba⟩),fun E q_0=>iL (fun h1=>⟨(by omega),iQ (fun h2=>⟨rfl,ba,rfl,by rw[AW (by omega) q_0.2 h2]⟩) (fun h2 h3 h4=>⟨(by simp only[aJ,aM]at*;omega),(⟨E+1,⟨by omega,lY q_0.2 h2⟩,by omega,⟨by omega,ba⟩,(by trivial)⟩)⟩)⟩) (fun h1=>⟨rfl,ba,rfl,by rw[rh fun j hj=>q_0.2 j (by omega)]⟩)⟩
def Tryz.DF:bX Tryz.prog Tryz.B.eT Tryz.X 48 false (aV Tryz.bT [.obj 0,.d .str] (fun _ _=>True) Tryz.Bb):=
 bE (X:=Tryz.X) Tryz.QX Tryz.func48 (by kernel_rfl) (fun(a:CD [.obj 0,.d .str]) (x:PD Tryz.bT)=>[]) (fun(a:CD [.obj 0,.d .str]) (x:PD Tryz.bT) hw hp=>VI a.1 x.1.1 x.1.2.1 x.2 hw)
def NQ(l:List (D aG))(hw:gU [.slice aG] l)(hp:(fun l=>l.length<=1000000) l):(dM Tryz.B [] Tryz.f75 [] [.slice aG] [.slice aG] (fun x y=>y=(fun l=>l) x) l).holds:=by
 refine holds_of (p:=
  ∀E:Bool,(0<bb l->E=false)->(E=true->(@bc (List UInt8×Int×Int×Unit)=l))/\(E=false->bb l<=1000000000/\l=l)) (by kernel_rfl) ?_
 exact fun E q_0=>⟨fun h0=>(by simp_all),fun h0=>⟨(by omega),rfl⟩⟩
def Tryz.NR:bY Tryz.prog Tryz.B.eT Tryz.X 75 [.slice aG] [.slice aG] (fun l=>l.length<=1000000) (fun x y=>y=(fun l=>l) x):=
 cF (X:=Tryz.X) (bR Tryz.bQ) Tryz.func75 (by kernel_rfl) (fun _=>[]) (fun x hw hp=>NQ x hw hp)
def NS(l:List (D aR))(hw:gU [.slice aR] l)(hp:(fun l=>l.length<=1000000) l):(dM Tryz.B [] Tryz.f76 [] [.slice aR] [.slice aR] (fun x y=>y=(fun l=>l) x) l).holds:=by
 refine holds_of (p:=
  ∀E:Bool,(0<bb l->E=false)->(E=true->(@bc (Int×Int×Int×Unit)=l))/\(E=false->bb l<=1000000000/\l=l)) (by kernel_rfl) ?_
 exact fun E q_0=>⟨fun h0=>(by simp_all),fun h0=>⟨(by omega),rfl⟩⟩
def Tryz.NT:bY Tryz.prog Tryz.B.eT Tryz.X 76 [.slice aR] [.slice aR] (fun l=>l.length<=1000000) (fun x y=>y=(fun l=>l) x):=
 cF (X:=Tryz.X) (bR Tryz.bQ) Tryz.func76 (by kernel_rfl) (fun _=>[]) (fun x hw hp=>NS x hw hp)
def Tryz.Fo:List (FuncId×(Bool×aT)):=[(75,(true,cE [.slice aG] [.slice aG] (fun l=>l.length<=1000000) (fun l=>l))),(76,(true,cE [.slice aR] [.slice aR] (fun l=>l.length<=1000000) (fun l=>l)))]
def Tryz.Kl:bO Tryz.prog Tryz.B Tryz.X Tryz.Fo:=
 aQ (aE Tryz.NR) (aQ (aE Tryz.NT) (bR Tryz.bQ))
def QY(e:D aC)(hw:gU [aC] e)(hp:(fun e=>e.2.1.length<=1000000/\e.2.2.1.length<=1000000) e):(dM Tryz.B Tryz.Fo Tryz.f49 [] [aC] [aC] (fun x y=>y=(fun e=>e) x) e).holds:=by
 refine holds_of (p:=
  bb e.2.1<=1000000/\bb e.2.2.1<=1000000/\e=e) (by kernel_rfl) ?_
 refine⟨?a,?b,rfl⟩
 case a|b=>omega
def Tryz.Fp:bY Tryz.prog Tryz.B.eT Tryz.X 49 [aC] [aC] (fun e=>e.2.1.length<=1000000/\e.2.2.1.length<=1000000) (fun x y=>y=(fun e=>e) x):=
 cF (X:=Tryz.X) Tryz.Kl Tryz.func49 (by kernel_rfl) (fun _=>[]) (fun x hw hp=>QY x hw hp)
def Tryz.spZ10:Bool×aT:=(false,gx Tryz.B [] Tryz.f47 [])
def Tryz.spZ11:Bool×aT:=(false,aV Tryz.bT [.obj 0,.d .str] (fun _ _=>True) Tryz.Bb)
def Tryz.spZ12:Bool×aT:=(true,cE [aC] [aC] (fun e=>e.2.1.length<=1000000/\e.2.2.1.length<=1000000) (fun e=>e))
def Tryz.spZ13:Bool×aT:=(false,aV Tryz.bT [.obj 0,.d (.slice aC)] (fun a x=>a.1.length<=100/\0<=(x.1.1:Int)/\(x.1.1:Int)<=1000000000/\dA x.2 1000000) Tryz.Ba)
def Tryz.IU:List (FuncId×(Bool×aT)):=[(46,Tryz.spZ3),(47,Tryz.spZ10),(48,Tryz.spZ11),(49,Tryz.spZ12),(50,Tryz.spZ13)]
def Tryz.NU:bO Tryz.prog Tryz.B Tryz.X Tryz.IU:=
 aQ (aE Tryz.Fh) (aQ (eQ (bR Tryz.bQ) Tryz.func47 (by kernel_rfl) []) (aQ (Tryz.DF) (aQ (aE Tryz.Fp) (aQ (Tryz.Lu) (bR Tryz.bQ)))))
def Tryz.DG:List (Alt Tryz.bT [.obj 0,.d aC]):=[{bN:=Tryz.bT,res:=[.d .err],out:=fun a x=>(ky x a.1).1,ret:=fun a x=>(aI (ky x a.1).2,())}]
def TK(e:D aC)(r:Int)(o:List (D aC))(d:Dk)(hw:gI [.obj 0,.d aC] (e,()))(hp:(fun a x=>(a.1.2.1.length<=1000000/\a.1.2.2.1.length<=1000000)/\x.1.2.1.length<=99/\0<=(x.1.1:Int)/\(x.1.1:Int)<=1000000000/\dA x.2 1000000) (e,()) ((r,o,()),d)):(cR Tryz.B Tryz.IU Tryz.f31 [] Tryz.bT [.obj 0,.d aC] Tryz.DG (e,()) ((r,o,()),d)).holds:=by
 refine holds_of (p:=
  let za:=aI (bB e)
  let zb:=d.2.2.2.1=d.2.2.2.1
  let zc:=(r,o,())
  let zd:=ky (zc,d) e
  let ze:=(zc,d)=zd.1
  let zf:=(aI zd.2,())
  let zg:=bb o
  let zh:=eC o e.1
  let zi:=decide (zh>=0)
  let zj:=bb e.2.1<=1000000/\bb e.2.2.1<=1000000
  let zk:=0<=zh
  let zl:=bb (@bc (List UInt8×List (List UInt8×Int×Int×Unit)×List (Int×Int×Int×Unit)×Unit))
  let zm:=zb/\True/\ze/\(aL.no 2,())=zf
  let zn:=@bc (List UInt8×List (List UInt8×Int×Int×Unit)×List (Int×Int×Int×Unit)×Unit)++[e]
  let zo:=0<=r/\r<=1000000000/\dA d 1000000
  let zp:=eK d r zn
  let zq:=zp.1.2.2.2.1
  let zr:=r+1
  let zs:=c8 o (bf zh) e
  let zt:=eK d r zs
  let zu:=zt.1.2.2.2.1
  let zv:=o++[e]
  let zw:=eK d r zv
  let zx:=zw.1.2.2.2.1
  True/\((!aL.isNil za)=true->zb/\True/\ze/\(za,())=zf)/\((!aL.isNil za)=false->∀E:Bool,(0<zg->E=false)->(E=true->zb/\True/\(True->(zi=true->zj/\(zk/\zh<(↑zl:Int))/\False)/\(zi=false->zl<=aM->(((↑zl:Int) == 3)=true->zm)/\(((↑zl:Int) == 3)=false->zj/\(@bc (List UInt8×List (List UInt8×Int×Int×Unit)×List (Int×Int×Int×Unit)×Unit)=@bc (List UInt8×List (List UInt8×Int×Int×Unit)×List (Int×Int×Int×Unit)×Unit)/\zl+bb [e]<=1000000000)/\zb/\(bb zn<=100/\zo)/\(True->zq=zq/\True/\(if zp.2=0 then(zr,zn,())else zc,zp.1)=zd.1/\(aI zp.2,())=zf)))))/\(E=false->zg<=1000000000/\zb/\True/\(True->(zi=true->zj/\(zk/\zh<(↑zg:Int))/\bf zh<zg/\zb/\(bb zs<=100/\zo)/\(True->zu=zu/\True/\(if zt.2=0 then(zr,zs,())else zc,zt.1)=zd.1/\(aI zt.2,())=zf))/\(zi=false->zg<=aM->(((↑zg:Int) == 3)=true->zm)/\(((↑zg:Int) == 3)=false->zj/\(o=o/\zg+bb [e]<=1000000000)/\zb/\(bb zv<=100/\zo)/\(True->zx=zx/\True/\(if zw.2=0 then(zr,zv,())else zc,zw.1)=zd.1/\(aI zw.2,())=zf))))))) (by kernel_rfl) ?_
 dsimp -iota -proj -eta only;dsimp only at hp;refine⟨ba,iB (fun h0=>(by rw[E3 (dK h0)];exact⟨rfl,ba,rfl,rfl⟩)) (fun h0 E q_0=>⟨fun h1=>⟨rfl,ba,fun h2=>iE (fun h3=>⟨?a,(by exfalso;have:=xH q_0 h1;subst this;exact oW _ h3),(by have:=xH q_0 h1;subst this;exact oW _ h3)⟩) (fun h3 h4=>⟨fun h5=>absurd (show false=true from h5) (by decide),fun h5=>⟨?b,?c,rfl,?d,fun h6 =>?e⟩⟩)⟩,fun h1=>⟨?f,rfl,ba,fun h2=>iE (fun h3=>⟨?g,⟨by omega,(p3 o e.1).1⟩,(by have:=(p3 o e.1).1;omega),rfl,?h,fun h4=>(by rw[Ll (x:=((r,o,()),d)) (aP.1 h0) (by omega)];exact⟨rfl,ba,rfl,rfl⟩)⟩) (fun h3 h4=>iQ (fun h5=>(by rw[Ip (x:=((r,o,()),d)) (aP.1 h0) (show ¬0<=eC o e.1 by omega) h5];exact⟨rfl,ba,rfl,rfl⟩)) (fun h5=>⟨?i,(by have h99:o.length<=99:=hp.2.1;exact⟨rfl,by rw[bu];omega⟩),rfl,?j,fun h6=>(by rw[Dx (x:=((r,o,()),d)) (aP.1 h0) (show ¬0<=eC o e.1 by omega) h5];exact⟨rfl,ba,rfl,rfl⟩)⟩))⟩⟩)⟩
 case a|b|f|g|i=>omega
 case c|d|j=>simp_all
 case e=>
  have ho:=xH q_0 h1;subst ho;rw[Dx (x:=((r,[],()),d)) (aP.1 h0) (oW _) (show ¬((([]:List (D aC)).length:Int)=3)from by decide)];exact⟨rfl,ba,rfl,rfl⟩
 case h=>refine⟨?_,hp.2.2.1,hp.2.2.2.1,hp.2.2.2.2⟩;rw[en];exact b4 hp.2.1 (by decide)
def Tryz.TL:bX Tryz.prog Tryz.B.eT Tryz.X 31 false (aV Tryz.bT [.obj 0,.d aC] (fun a x=>(a.1.2.1.length<=1000000/\a.1.2.2.1.length<=1000000)/\x.1.2.1.length<=99/\0<=(x.1.1:Int)/\(x.1.1:Int)<=1000000000/\dA x.2 1000000) Tryz.DG):=
 bE (X:=Tryz.X) Tryz.NU Tryz.func31 (by kernel_rfl) (fun(a:CD [.obj 0,.d aC]) (x:PD Tryz.bT)=>[]) (fun(a:CD [.obj 0,.d aC]) (x:PD Tryz.bT) hw hp=>TK a.1 x.1.1 x.1.2.1 x.2 hw hp)
def Tryz.QZ:List (FuncId×(Bool×aT)):=[(48,Tryz.spZ11),(49,Tryz.spZ12)]
def Tryz.TM:bO Tryz.prog Tryz.B Tryz.X Tryz.QZ:=
 aQ (Tryz.DF) (aQ (aE Tryz.Fp) (bR Tryz.bQ))
def Tryz.DH:List (Alt Tryz.bT [.obj 0,.d .str]):=[{bN:=Tryz.bT,res:=[.d aC,.d .bool],out:=fun _ x=>x,ret:=fun a x=>((dO x.1.2.1 a.1).1,(dO x.1.2.1 a.1).2,())}]
def WG(s:List UInt8)(r:Int)(o:List (D aC))(d:Dk)(hw:gI [.obj 0,.d .str] (s,()))(hp:(fun _ x=>∀i,i<x.1.2.1.length->(nth aC x.1.2.1 i).2.1.length<=1000000/\(nth aC x.1.2.1 i).2.2.1.length<=1000000) (s,()) ((r,o,()),d)):(cR Tryz.B Tryz.QZ Tryz.f32 [] Tryz.bT [.obj 0,.d .str] Tryz.DH (s,()) ((r,o,()),d)).holds:=by
 refine holds_of (p:=
  let za:=d.2.2.2.1=d.2.2.2.1
  let zb:=eC o s
  let zc:=((r,o,()),d)
  let zd:=((dO o s).1,(dO o s).2,())
  let ze:=nth aC o (bf zb)
  za/\True/\(True->((decide (zb<0))=true->za/\True/\zc=zc/\(([],[],[],()),false,())=zd)/\((decide (zb<0))=false->(0<=zb/\zb<(↑(bb o):Int))/\(bb ze.2.1<=1000000/\bb ze.2.2.1<=1000000)/\za/\True/\zc=zc/\(ze,true,())=zd))) (by kernel_rfl) ?_
 dsimp -iota -proj -eta only;dsimp only at hp;exact⟨rfl,ba,fun h0=>iL (fun h1=>(by rw[Cy (by omega)];exact⟨rfl,ba,rfl,rfl⟩)) (fun h1=>⟨⟨by omega,(p3 o s).1⟩,(hp _ (by have:=(p3 o s).1;omega)),(by rw[yA (by omega)];exact⟨rfl,ba,rfl,rfl⟩)⟩)⟩
def Tryz.WH:bX Tryz.prog Tryz.B.eT Tryz.X 32 false (aV Tryz.bT [.obj 0,.d .str] (fun _ x=>∀i,i<x.1.2.1.length->(nth aC x.1.2.1 i).2.1.length<=1000000/\(nth aC x.1.2.1 i).2.2.1.length<=1000000) Tryz.DH):=
 bE (X:=Tryz.X) Tryz.TM Tryz.func32 (by kernel_rfl) (fun(a:CD [.obj 0,.d .str]) (x:PD Tryz.bT)=>[]) (fun(a:CD [.obj 0,.d .str]) (x:PD Tryz.bT) hw hp=>WG a.1 x.1.1 x.1.2.1 x.2 hw hp)
def Tryz.IV(o:List (D aC)):dY:=[
 (0,fun st=>{X:=Nat,inv:=fun i=>i<=o.length,cD:=fun i=>o.length-i,bM:=fun i=>[(11,sI i),(3,.s (.one (.app .str (fX (o.take i)) (bH st 3))))],aF:=fun i=>[(bH st 3,.tok .str (fX (o.take i)))],keep:=[2,9,10],gQ:=[bH st 3]})]
def Tryz.xS:List (Alt Tryz.bT [.obj 0]):=[{bN:=Tryz.bT,res:=[.d (.slice .str)],out:=fun _ x=>x,ret:=fun _ x=>(fX x.1.2.1,())}]
def TN(r:Int)(o:List (D aC))(d:Dk)(hw:gI [.obj 0] ())(hp:(fun _ x=>x.1.2.1.length<=1000000) () ((r,o,()),d)):(cR (lX Tryz.B [19]) [] Tryz.f37 ((fun(r:Int) (o:List (D aC)) (d:Dk)=>Tryz.IV o) r o d) Tryz.bT [.obj 0] Tryz.xS () ((r,o,()),d)).holds:=by
 refine holds_of (p:=
  let za:=bb o
  let zb:=fun(E:Nat)=>fX (bd E o)
  let zc:=fun(E:Nat)=>zb E++[(nth aC o E).1]
  let zd:=C.ref 1 0
  let ze:=d.2.2.2.1=d.2.2.2.1
  let zf:=((r,o,()),d)
  za<=aM->(∃(x:Nat),x<=za/\(0=(↑x:Int)/\@bc (List UInt8)=fX (bd x o)/\True)/\@bc (List UInt8)=fX (bd x o)/\True)/\∀E:Nat,E<=za->((decide ((↑E:Int)<(↑za:Int)))=true->(0<=(↑E:Int)/\(↑E:Int)<(↑za:Int))/\(zb E=zb E/\bb (zb E)+bb [(nth aC o E).1]<=1000000000)/\(aJ (↑E:Int)->aJ 1->aJ ((↑E:Int)+1)/\∃(x':Nat),x'<=za/\za-x'<za-E/\((↑E:Int)+1=(↑x':Int)/\zc E=fX (bd x' o)/\True)/\zc E=fX (bd x' o)/\@bc (List UInt8)=@bc (List UInt8)/\(zd=zd/\r=r/\o=o/\True)/\(C.aU 2=C.aU 2/\C.aU 3=C.aU 3/\ze/\d.1.1=d.1.1/\d.1.2.1=d.1.2.1/\True)/\d.2.1=d.2.1/\d.2.2.1=d.2.2.1/\ze/\True))/\((decide ((↑E:Int)<(↑za:Int)))=false->ze/\True/\zf=zf/\(zb E,())=(fX o,()))) (by kernel_rfl) ?_
 dsimp -iota -proj -eta only;dsimp only at hp;refine fun h0=>⟨(⟨0,b6 _,⟨rfl,rfl,ba⟩,rfl,ba⟩),fun E q_0=>iL (fun h1=>⟨(by omega),?a,fun h2 h3=>⟨(by simp only[aJ,aM]at*;omega),(⟨E+1,by omega,by omega,⟨by omega,zX (by omega),ba⟩,zX (by omega),(by trivial)⟩)⟩⟩) (fun h1=>(by rw[cu (by omega)];exact⟨rfl,ba,rfl,rfl⟩))⟩
 case a=>refine⟨rfl,?_⟩;rw[Nv,b5,bu];have:o.length<=1000000:=hp;omega
def Tryz.TO:bX Tryz.prog Tryz.B.eT Tryz.X 37 false (aV Tryz.bT [.obj 0] (fun _ x=>x.1.2.1.length<=1000000) Tryz.xS):=
 bE (B:=(lX Tryz.B [19])) (X:=Tryz.X) (bO.hint (l:=[19]) (bR Tryz.bQ)) Tryz.func37 (by kernel_rfl) (fun(a:CD [.obj 0]) (x:PD Tryz.bT)=>(fun(r:Int) (o:List (D aC)) (d:Dk)=>Tryz.IV o) x.1.1 x.1.2.1 x.2) (fun(a:CD [.obj 0]) (x:PD Tryz.bT) hw hp=>TN x.1.1 x.1.2.1 x.2 hw hp)
def Tryz.spZ14:Bool×aT:=(true,cE [.str] [.int .i64,.err] (fun s=>s.length<=281474976710656) (fun s=>dZ s))
def Tryz.spZ15:Bool×aT:=(true,cE [.str,.str] [.str,.bool] (fun _=>True) (fun x=>(cb x.1 x.2,cz x.1 x.2)))
def Tryz.spZ16:Bool×aT:=(true,cE [.str,.str] [.str] (fun _=>True) (fun x=>br x.1 x.2))
def Tryz.spZ17:Bool×aT:=(true,cE [.str,.str] [.slice .str] (fun x=>x.1.length<4294967281/\x.2.length=1) (fun x=>parts (Hu x.2) x.1))
def Tryz.CL:List (FuncId×(Bool×aT)):=[(84,Tryz.spZ2),(103,Tryz.spZ14),(81,Tryz.spZ15),(52,Tryz.spZ16),(51,Tryz.spZ17)]
def Tryz.IW:bO Tryz.prog Tryz.B Tryz.X Tryz.CL:=
 aQ (aE Tryz.oO) (aQ (aE Tryz.sd) (aQ (aE Tryz.np) (aQ (aE Tryz.mv) (aQ (aE Tryz.se) (bR Tryz.bQ)))))
def CM(l:List (List UInt8)):dY:=[
 (0,fun st=>{X:=Nat,inv:=fun i=>i<=l.length/\∀j,j<i->(cS (nth .str l j)).isNone=false,cD:=fun i=>l.length-i,bM:=fun i=>[(11,sI i),(4,.s (.one (.app (.int .i64) (l9 (l.take i)) (bH st 4))))],aF:=fun i=>[(bH st 4,.tok (.int .i64) (l9 (l.take i)))],keep:=[9,10],gQ:=[bH st 4]})]
def Km(l:List (List UInt8))(hw:gU [.slice .str] l)(hp:(fun l=>l.length<=1000000/\∀i,(nth .str l i).length<=1000000) l):(dM Tryz.B Tryz.CL Tryz.f89 (CM l) [.slice .str] [.slice (.int .i64),.bool] (fun x y=>y=(fun l=>bS l) x) l).holds:=by
 refine holds_of (p:=
  let za:=bb l
  let zb:=([],false)=bS l
  let zc:=fun(E:Nat)=>l9 (bd E l)
  let zd:=fun(E:Nat)=>zc E++[(dZ (nth Ty.str l E)).1]
  za<=aM->(∃(x:Nat),(x<=za/\∀(j:Nat),j<x->ck (cS (nth Ty.str l j))=false)/\(0=(↑x:Int)/\@bc Int=l9 (bd x l)/\True)/\@bc Int=l9 (bd x l)/\True)/\∀E:Nat,(E<=za/\∀(j:Nat),j<E->ck (cS (nth Ty.str l j))=false)->((decide ((↑E:Int)<(↑za:Int)))=true->(0<=(↑E:Int)/\(↑E:Int)<(↑za:Int))/\bb (nth Ty.str l E)<=281474976710656/\((!aL.isNil (dZ (nth Ty.str l E)).2)=true->zb)/\((!aL.isNil (dZ (nth Ty.str l E)).2)=false->True/\((!bp (dZ (nth Ty.str l E)).1 == nth Ty.str l E)=true->zb)/\((!bp (dZ (nth Ty.str l E)).1 == nth Ty.str l E)=false->(zc E=zc E/\bb (zc E)+bb [(dZ (nth Ty.str l E)).1]<=1000000000)/\(aJ (↑E:Int)->aJ 1->aJ ((↑E:Int)+1)/\∃(x':Nat),(x'<=za/\∀(j:Nat),j<x'->ck (cS (nth Ty.str l j))=false)/\za-x'<za-E/\((↑E:Int)+1=(↑x':Int)/\zd E=l9 (bd x' l)/\True)/\zd E=l9 (bd x' l)/\@bc Int=@bc Int/\True))))/\((decide ((↑E:Int)<(↑za:Int)))=false->(zc E,true)=bS l)) (by kernel_rfl) ?_
 dsimp -iota -proj -eta only;refine fun h0=>⟨(⟨0,⟨b6 _,fun j hj=>absurd hj (cw _)⟩,⟨rfl,rfl,ba⟩,rfl,ba⟩),fun E q_0=>iL (fun h1=>⟨(by omega),(b4 (hp.2 _) (by decide)),iB (fun h2=>(zS (i:=E) (by omega) (by rw[qD,h2];rfl))) (fun h2=>⟨ba,⟨fun h3 =>?a,fun h3=>⟨?b,fun h4 h5=>⟨?c,?d⟩⟩⟩⟩)⟩) (fun h1=>(Nl (i:=E) (by omega) (fun j hj _=>q_0.2 j hj)))⟩
 case a=>
  simp only[bl,reduceCtorEq]at h3;exact zS (i:=E) (by omega) (by rw[qD,decide_eq_false h3];simp)
 case b=>
  simp only[bl,reduceCtorEq]at h3;exact⟨rfl,by unfold l9;simp only[bz,b5,bu];omega⟩
 case c=>
  simp only[bl,reduceCtorEq]at h3;simp only[aJ,aM]at*;omega
 case d=>
  simp only[bl,reduceCtorEq]at h3;exact⟨E+1,⟨by omega,lY q_0.2 (by rw[qD,h2,decide_eq_true h3];rfl)⟩,by omega,⟨by omega,(Cp (by omega)).symm,ba⟩,(Cp (by omega)).symm,(by trivial)⟩
def Tryz.Kn:bY Tryz.prog Tryz.B.eT Tryz.X 89 [.slice .str] [.slice (.int .i64),.bool] (fun l=>l.length<=1000000/\∀i,(nth .str l i).length<=1000000) (fun x y=>y=(fun l=>bS l) x):=
 cF (X:=Tryz.X) Tryz.IW Tryz.func89 (by kernel_rfl) (fun x=>CM x) (fun x hw hp=>Km x hw hp)
def Tryz.Fq:List (FuncId×(Bool×aT)):=[(84,Tryz.spZ2),(103,Tryz.spZ14),(81,Tryz.spZ15),(52,Tryz.spZ16),(51,Tryz.spZ17),(89,(true,cE [.slice .str] [.slice (.int .i64),.bool] (fun l=>l.length<=1000000/\∀i,(nth .str l i).length<=1000000) (fun l=>bS l))),(90,Tryz.spZ6)]
def Tryz.Ko:bO Tryz.prog Tryz.B Tryz.X Tryz.Fq:=
 aQ (aE Tryz.oO) (aQ (aE Tryz.sd) (aQ (aE Tryz.np) (aQ (aE Tryz.mv) (aQ (aE Tryz.se) (aQ (aE Tryz.Kn) (aQ (aE Tryz.IL) (bR Tryz.bQ)))))))
def Tryz.Fs(s:List UInt8):dY:=[
 (300004,fun st=>{X:=List Int×Bool,inv:=fun y=>qV (parts 32 (br s [10])) y,cD:=fun _=>0,bM:=fun y=>[(5,sD (.slice (.int .i64)) y.1),(6,sB y.2)],keep:=[0,2,3,4]}),
 (300005,fun st=>{X:=Bool,inv:=fun c=>c=false↔pY (parts 32 (br s [10])),cD:=fun _=>0,bM:=fun c=>[(69,sB c)],keep:=[0,2,3,4,5]}),
 (300011,fun st=>{X:=List (List UInt8),inv:=fun x=>lj (parts 32 (br s [10])) x (bf (cX (.int .i64) st 8)),cD:=fun _=>0,bM:=fun x=>[(9,sD (.slice .str) x)],keep:=[0,2,3,4,5,7,8,82,83,84,85]}),
 (0,fun st=>{X:=Nat,inv:=fun i=>i<=(bf (nth (.int .i64) (cX (.slice (.int .i64)) st 5) 0))+(bf (nth (.int .i64) (cX (.slice (.int .i64)) st 5) 1)),cD:=fun i=>(bf (nth (.int .i64) (cX (.slice (.int .i64)) st 5) 0))+(bf (nth (.int .i64) (cX (.slice (.int .i64)) st 5) 1))-i,bM:=fun i=>[(83,sI i)],aF:=fun i=>[(bH st 7,.cells 53 [.d .str (nth .str (parts 32 (br s [10])) 0),.app aG (dX dC (parts 32 (br s [10])) (cg i (bf (nth (.int .i64) (cX (.slice (.int .i64)) st 5) 0)))) (nA st (bH st 7) 1),.app aR (cT dC (parts 32 (br s [10])) (bf (nth (.int .i64) (cX (.slice (.int .i64)) st 5) 0)) (i-(bf (nth (.int .i64) (cX (.slice (.int .i64)) st 5) 0)))) (nA st (bH st 7) 2)]),(nA st (bH st 7) 1,.tok aG (dX dC (parts 32 (br s [10])) (cg i (bf (nth (.int .i64) (cX (.slice (.int .i64)) st 5) 0))))),(nA st (bH st 7) 2,.tok aR (cT dC (parts 32 (br s [10])) (bf (nth (.int .i64) (cX (.slice (.int .i64)) st 5) 0)) (i-(bf (nth (.int .i64) (cX (.slice (.int .i64)) st 5) 0)))))],keep:=[0,2,4,5,7,82],gQ:=[bH st 7,nA st (bH st 7) 1,nA st (bH st 7) 2]})]
def Q0(s:List UInt8)(hw:gU [.str] s)(hp:(fun s=>s.length<=100000) s):(dM Tryz.B Tryz.Fq Tryz.f61 (Tryz.Fs s) [.str] [aC,.err] (fun x y=>y=(fun s=>gV s) x) s).holds:=by
 refine holds_of (p:=
  let za:=br s [(10:UInt8)]
  let zb:=parts (32:UInt8) za
  let zc:=bb zb<=aM
  let zd:=(↑(bb zb):Int)
  let ze:=(([],[],[],()),aL.no (4:Int))=gV s
  let zf:=(0:Int)<=(1:Int)
  let zg:=bj 1 (bd 3 zb)
  let zh:=@bc (List UInt8×Int×Int×Unit)=@bc (List UInt8×Int×Int×Unit)
  let zi:=@bc (Int×Int×Int×Unit)=@bc (Int×Int×Int×Unit)
  let zj:=(@bc UInt8=@bc UInt8/\zh/\zi/\True)/\zi/\zh/\True
  let zk:=pY zb
  let zl:=∃(x':Bool),(x'=false↔zk)/\(true=x'/\True)/\zj
  let zm:=(0:Int)<=(0:Int)
  let zn:=fun(E:List Int×Bool)=>zm/\(0:Int)<(↑(bb E.1):Int)
  let zo:=Ty.int bm
  let zp:=fun(E:List Int×Bool)=>nth zo E.1 0
  let zq:=fun(E:List Int×Bool)=>zf/\(1:Int)<(↑(bb E.1):Int)
  let zr:=fun(E:List Int×Bool)=>nth zo E.1 1
  let zs:=fun(E:List Int×Bool)=>aJ (zp E+zr E)
  let zt:=aJ (3:Int)
  let zu:=fun(F:Int)=>(3:Int)+F
  let zv:=fun(E:List Int×Bool)=>bf (zp E)
  let zw:=fun(E:List Int×Bool)=>zv E+bf (zr E)
  let zx:=nth Ty.str zb 0
  let zy:=zx=zx
  let zz:=fun(G:Nat)=>aJ (↑G:Int)
  let zaa:=fun(G:Nat) (E:List Int×Bool)=>dX dC zb (cg G (zv E))
  let zab:=fun(E:List Int×Bool) (G:Nat)=>cT dC zb (zv E) (G-zv E)
  let zac:=zi/\zh/\zj
  let zad:=fun(I:List (List UInt8))=>(↑(bb I):Int)
  let zae:=fun(I:List (List UInt8))=>bj 1 (bd (bb I) I)
  let zaf:=fun(I:List (List UInt8))=>(bS (zae I)).1
  let zag:=fun(I:List (List UInt8))=>[(nth Ty.str I 0,nth zo (zaf I) 0,nth zo (zaf I) 1,())]
  let zah:=fun(G:Nat)=>(↑G:Int)+(1:Int)
  let zai:=fun(I:List (List UInt8))=>(bS I).1
  let zaj:=fun(I:List (List UInt8))=>(↑(bb (zai I)):Int)
  let zak:=fun(I:List (List UInt8))=>[(nth zo (zai I) 0,nth zo (zai I) 1,nth zo (zai I) 2,())]
  True/\(bb za<4294967281/\bb [(32:UInt8)]=1)/\(zc->((decide (zd<(3:Int)))=true->ze)/\((decide (zd<(3:Int)))=false->((zf/\(1:Int)<=(3:Int)/\(3:Int)<=zd)/\(bb zg<=1000000/\∀(i:Nat),bb (nth Ty.str zg i)<=1000000)/\∃(x':List Int×Bool),qV zb x'/\((bS zg).1=x'.1/\(bS zg).2=x'.2/\True)/\zj)/\∀E:List Int×Bool,qV zb E->(((!E.2)=true->zl)/\((!E.2)=false->zn E/\((decide (zp E<(0:Int)))=true->zl)/\((decide (zp E<(0:Int)))=false->zn E/\((decide (zp E > (6:Int)))=true->zl)/\((decide (zp E > (6:Int)))=false->zq E/\((decide (zr E<(0:Int)))=true->zl)/\((decide (zr E<(0:Int)))=false->zq E/\((decide (zr E > (36:Int)))=true->zl)/\((decide (zr E > (36:Int)))=false->zc->zn E/\zq E/\(aJ (zp E)->aJ (zr E)->zs E/\∀F:Int,F=(3:Int)*(zp E+zr E)->zt->zs E->aJ F/\(zt->aJ F->aJ (zu F)/\∃(x':Bool),(x'=false↔zk)/\((zd != zu F)=x'/\True)/\zj))))))))/\∀F:Bool,(F=false↔zk)->(F=true->ze)/\(F=false->(zm/\(0:Int)<zd)/\zn E/\zq E/\(aJ (zp E)->aJ (zr E)->zs E/\(∃(x:Nat),x<=zw E/\((0:Int)=(↑x:Int)/\True)/\(zy/\@bc (List UInt8×Int×Int×Unit)=dX dC zb (cg x (zv E))/\@bc (Int×Int×Int×Unit)=cT dC zb (zv E) (x-zv E)/\True)/\@bc (List UInt8×Int×Int×Unit)=dX dC zb (cg x (zv E))/\@bc (Int×Int×Int×Unit)=cT dC zb (zv E) (x-zv E)/\True)/\∀G:Nat,G<=zw E->((decide ((↑G:Int)<zp E+zr E))=true->(∀I:Int,I=(3:Int)*(↑G:Int)->zt->zz G->aJ I/\(zt->aJ I->aJ (zu I)/\∀K:Int,K=(3:Int)*(↑G:Int)->zt->zz G->aJ K/\(aJ (6:Int)->aJ K->aJ ((6:Int)+K)/\((0:Int)<=zu I/\zu I<=(6:Int)+K/\(6:Int)+K<=zd)/\∃(x':List (List UInt8)),lj zb x' G/\(bj (bf (zu I)) (bd (bf ((6:Int)+K)) zb)=x'/\True)/\(zy/\zaa G E=zaa G E/\zab E G=zab E G/\True)/\zaa G E=zaa G E/\zab E G=zab E G/\zac)))/\∀I:List (List UInt8),lj zb I G->zn E/\((decide ((↑G:Int)<zp E))=true->(zf/\(1:Int)<=zad I/\zad I<=zad I)/\(bb (zae I)<=1000000/\∀(i:Nat),bb (nth Ty.str (zae I) i)<=1000000)/\((!(bS (zae I)).2)=true->ze)/\((!(bS (zae I)).2)=false->(zm/\(0:Int)<zad I)/\(zm/\(0:Int)<(↑(bb (zaf I)):Int))/\(zf/\(1:Int)<(↑(bb (zaf I)):Int))/\(zaa G E=zaa G E/\bb (zaa G E)+bb (zag I)<=1000000000)/\(zz G->aJ (1:Int)->aJ (zah G)/\∃(x':Nat),x'<=zw E/\zw E-x'<zw E-G/\(zah G=(↑x':Int)/\True)/\(zy/\zaa G E++zag I=dX dC zb (cg x' (zv E))/\zab E G=cT dC zb (zv E) (x'-zv E)/\True)/\zaa G E++zag I=dX dC zb (cg x' (zv E))/\zab E G=cT dC zb (zv E) (x'-zv E)/\zac)))/\((decide ((↑G:Int)<zp E))=false->(bb I<=1000000/\∀(i:Nat),bb (nth Ty.str I i)<=1000000)/\((!(bS I).2)=true->ze)/\((!(bS I).2)=false->(zm/\(0:Int)<zaj I)/\(zf/\(1:Int)<zaj I)/\((0:Int)<=(2:Int)/\(2:Int)<zaj I)/\(zab E G=zab E G/\bb (zab E G)+bb (zak I)<=1000000000)/\(zz G->aJ (1:Int)->aJ (zah G)/\∃(x':Nat),x'<=zw E/\zw E-x'<zw E-G/\(zah G=(↑x':Int)/\True)/\(zy/\zaa G E=dX dC zb (cg x' (zv E))/\zab E G++zak I=cT dC zb (zv E) (x'-zv E)/\True)/\zaa G E=dX dC zb (cg x' (zv E))/\zab E G++zak I=cT dC zb (zv E) (x'-zv E)/\zac))))/\((decide ((↑G:Int)<zp E+zr E))=false->True/\((!aL.isNil (dG (zx,zaa G E,zab E G,())).2)=true->ze)/\((!aL.isNil (dG (zx,zaa G E,zab E G,())).2)=false->((!(dG (zx,zaa G E,zab E G,())).1 == s)=true->ze)/\((!(dG (zx,zaa G E,zab E G,())).1 == s)=false->((zx,zaa G E,zab E G,()),aL.nil)=gV s)))))))) (by kernel_rfl) ?_
 dsimp -iota -proj -eta only;refine⟨ba,(by have:=yw s [10];exact⟨by omega,rfl⟩),fun h0=>iL (fun h1=>(H4 (by omega))) (fun h1=>⟨⟨(by trivial),(Va hp 1 3),(⟨_,Vc (by omega),⟨rfl,rfl,ba⟩,(by trivial)⟩)⟩,fun E q_0=>⟨iB (fun h2=>(⟨_,H3 (q_0.2 h2),⟨rfl,ba⟩,(by trivial)⟩)) (fun h2=>⟨?a,iL (fun h3=>(⟨_,H3 (fun hd=>by have k0:=q_0.k0 hd;have:=hd.a0;omega),⟨rfl,ba⟩,(by trivial)⟩)) (fun h3=>⟨?b,iL (fun h4=>(⟨_,H3 (fun hd=>by have k0:=q_0.k0 hd;have:=hd.a6;omega),⟨rfl,ba⟩,(by trivial)⟩)) (fun h4=>⟨?c,iL (fun h5=>(⟨_,H3 (fun hd=>by have k1:=q_0.k1 hd;have:=hd.b0;omega),⟨rfl,ba⟩,(by trivial)⟩)) (fun h5=>⟨?d,iL (fun h6=>(⟨_,H3 (fun hd=>by have k1:=q_0.k1 hd;have:=hd.fG;omega),⟨rfl,ba⟩,(by trivial)⟩)) (fun h6 h7=>⟨?e,?f,fun h8 h9=>⟨?g,fun F q_1 h10 h11=>⟨?h,fun h12 h13=>⟨?i,(⟨_,Ww (q_0.1 h2).2.1 (q_0.1 h2).2.2 (q_0.l0 h2) (q_0.l1 h2) (by omega) (by omega) (by omega) (by omega) q_1,⟨rfl,ba⟩,(by trivial)⟩)⟩⟩⟩⟩)⟩)⟩)⟩)⟩),fun F q_1=>⟨fun h2=>(J5 (fun hd=>by rw[q_1.2 hd]at h2;cases h2)),fun h2=>⟨(by omega),?j,?k,fun h3 h4=>⟨?l,(⟨0,b6 _,⟨rfl,ba⟩,⟨rfl,P2 _ _ _,Us _ _ _,ba⟩,P2 _ _ _,Us _ _ _,(by trivial)⟩),fun G q_2=>iL (fun h5=>⟨fun I q_3 h6 h7=>⟨?m,fun h8 h9=>⟨?n,fun K q_4 h10 h11=>⟨?o,fun h12 h13=>⟨?p,(by have hd:=(q_1.1 h2);have k0:=q_0.k0 hd;have k1:=q_0.k1 hd;have a0:=hd.a0;have a6:=hd.a6;have b0:=hd.b0;have fG:=hd.fG;have hl:=hd.len;omega),(⟨_,PZ q_3 q_4 (by have hd:=(q_1.1 h2);have k0:=q_0.k0 hd;have k1:=q_0.k1 hd;have a0:=hd.a0;have a6:=hd.a6;have b0:=hd.b0;have fG:=hd.fG;have hl:=hd.len;omega),⟨rfl,ba⟩,(by trivial)⟩)⟩⟩⟩⟩,fun I q_3=>⟨?q,iL (fun h6=>⟨?r,(Nn q_3 (tt hp)),iB (fun h7=>(J6 q_3 (by have hd:=(q_1.1 h2);have k0:=q_0.k0 hd;have k1:=q_0.k1 hd;have a0:=hd.a0;have a6:=hd.a6;have b0:=hd.b0;have fG:=hd.fG;have hl:=hd.len;omega) h7)) (fun h7=>⟨?s,?t,?u,⟨rfl,J7 (by have hd:=(q_1.1 h2);have k0:=q_0.k0 hd;have k1:=q_0.k1 hd;have a0:=hd.a0;have a6:=hd.a6;have b0:=hd.b0;have fG:=hd.fG;have hl:=hd.len;omega)⟩,fun h8 h9=>⟨?v,(by exact⟨G+1,by have hd:=(q_1.1 h2);have k0:=q_0.k0 hd;have k1:=q_0.k1 hd;have a0:=hd.a0;have a6:=hd.a6;have b0:=hd.b0;have fG:=hd.fG;have hl:=hd.len;omega,by have hd:=(q_1.1 h2);have k0:=q_0.k0 hd;have k1:=q_0.k1 hd;have a0:=hd.a0;have a6:=hd.a6;have b0:=hd.b0;have fG:=hd.fG;have hl:=hd.len;omega,⟨by omega,ba⟩,⟨rfl,EV q_3 h7 (by have hd:=(q_1.1 h2);have k0:=q_0.k0 hd;have k1:=q_0.k1 hd;have a0:=hd.a0;have a6:=hd.a6;have b0:=hd.b0;have fG:=hd.fG;have hl:=hd.len;omega),EW (by have hd:=(q_1.1 h2);have k0:=q_0.k0 hd;have k1:=q_0.k1 hd;have a0:=hd.a0;have a6:=hd.a6;have b0:=hd.b0;have fG:=hd.fG;have hl:=hd.len;omega),ba⟩,EV q_3 h7 (by have hd:=(q_1.1 h2);have k0:=q_0.k0 hd;have k1:=q_0.k1 hd;have a0:=hd.a0;have a6:=hd.a6;have b0:=hd.b0;have fG:=hd.fG;have hl:=hd.len;omega),EW (by have hd:=(q_1.1 h2);have k0:=q_0.k0 hd;have k1:=q_0.k1 hd;have a0:=hd.a0;have a6:=hd.a6;have b0:=hd.b0;have fG:=hd.fG;have hl:=hd.len;omega),(by trivial)⟩)⟩⟩)⟩) (fun h6=>⟨(P0 q_3 (tt hp)),iB (fun h7=>(H7 q_3 (by have hd:=(q_1.1 h2);have k0:=q_0.k0 hd;have k1:=q_0.k1 hd;have a0:=hd.a0;have a6:=hd.a6;have b0:=hd.b0;have fG:=hd.fG;have hl:=hd.len;omega) (by have hd:=(q_1.1 h2);have k0:=q_0.k0 hd;have k1:=q_0.k1 hd;have a0:=hd.a0;have a6:=hd.a6;have b0:=hd.b0;have fG:=hd.fG;have hl:=hd.len;omega) h7)) (fun h7=>⟨?w,?x,?y,⟨rfl,P4 (by have hd:=(q_1.1 h2);have k0:=q_0.k0 hd;have k1:=q_0.k1 hd;have a0:=hd.a0;have a6:=hd.a6;have b0:=hd.b0;have fG:=hd.fG;have hl:=hd.len;omega)⟩,fun h8 h9=>⟨?z,(by exact⟨G+1,by have hd:=(q_1.1 h2);have k0:=q_0.k0 hd;have k1:=q_0.k1 hd;have a0:=hd.a0;have a6:=hd.a6;have b0:=hd.b0;have fG:=hd.fG;have hl:=hd.len;omega,by have hd:=(q_1.1 h2);have k0:=q_0.k0 hd;have k1:=q_0.k1 hd;have a0:=hd.a0;have a6:=hd.a6;have b0:=hd.b0;have fG:=hd.fG;have hl:=hd.len;omega,⟨by omega,ba⟩,⟨rfl,Cs (by have hd:=(q_1.1 h2);have k0:=q_0.k0 hd;have k1:=q_0.k1 hd;have a0:=hd.a0;have a6:=hd.a6;have b0:=hd.b0;have fG:=hd.fG;have hl:=hd.len;omega),H9 q_3 h7 (by have hd:=(q_1.1 h2);have k0:=q_0.k0 hd;have k1:=q_0.k1 hd;have a0:=hd.a0;have a6:=hd.a6;have b0:=hd.b0;have fG:=hd.fG;have hl:=hd.len;omega),ba⟩,Cs (by have hd:=(q_1.1 h2);have k0:=q_0.k0 hd;have k1:=q_0.k1 hd;have a0:=hd.a0;have a6:=hd.a6;have b0:=hd.b0;have fG:=hd.fG;have hl:=hd.len;omega),H9 q_3 h7 (by have hd:=(q_1.1 h2);have k0:=q_0.k0 hd;have k1:=q_0.k1 hd;have a0:=hd.a0;have a6:=hd.a6;have b0:=hd.b0;have fG:=hd.fG;have hl:=hd.len;omega),(by trivial)⟩)⟩⟩)⟩)⟩⟩) (fun h5=>⟨ba,iB (fun h6 =>?a0) (fun h6=>⟨fun h7 =>?a1,fun h7 =>?a2⟩)⟩)⟩⟩⟩⟩⟩)⟩
 case a|b|c|d|e|f=>rw[(q_0.1 h2).1];simp
 case g|h|i|v=>simp only[aJ,aM]at*;omega
 case j|k|q=>rw[q_0.get (q_1.1 h2)];simp
 case l|m|n|o|p|z=>have hd:=(q_1.1 h2);have k0:=q_0.k0 hd;have k1:=q_0.k1 hd;have a0:=hd.a0;have a6:=hd.a6;have b0:=hd.b0;have fG:=hd.fG;have hl:=hd.len;simp only[aJ]at*;omega
 case r|s=>rw[q_3.len];simp
 case t|u=>rw[EU q_3 h7];simp
 case w|x|y=>rw[H6 q_3 h7];simp
 case a0=>
  rw[Ia (a:=bf (nth (.int .i64) E.1 0)) (b:=bf (nth (.int .i64) E.1 1)) (by have hd:=(q_1.1 h2);have k0:=q_0.k0 hd;have k1:=q_0.k1 hd;have a0:=hd.a0;have a6:=hd.a6;have b0:=hd.b0;have fG:=hd.fG;have hl:=hd.len;omega)]at h6;exact zV (by have hd:=(q_1.1 h2);have k0:=q_0.k0 hd;have k1:=q_0.k1 hd;have a0:=hd.a0;have a6:=hd.a6;have b0:=hd.b0;have fG:=hd.fG;have hl:=hd.len;omega) (by have hd:=(q_1.1 h2);have k0:=q_0.k0 hd;have k1:=q_0.k1 hd;have a0:=hd.a0;have a6:=hd.a6;have b0:=hd.b0;have fG:=hd.fG;have hl:=hd.len;omega) (.inl h6)
 case a1=>
  simp only[bl,reduceCtorEq]at h7;rw[Ia (a:=bf (nth (.int .i64) E.1 0)) (b:=bf (nth (.int .i64) E.1 1)) (by have hd:=(q_1.1 h2);have k0:=q_0.k0 hd;have k1:=q_0.k1 hd;have a0:=hd.a0;have a6:=hd.a6;have b0:=hd.b0;have fG:=hd.fG;have hl:=hd.len;omega)]at h7;exact zV (by have hd:=(q_1.1 h2);have k0:=q_0.k0 hd;have k1:=q_0.k1 hd;have a0:=hd.a0;have a6:=hd.a6;have b0:=hd.b0;have fG:=hd.fG;have hl:=hd.len;omega) (by have hd:=(q_1.1 h2);have k0:=q_0.k0 hd;have k1:=q_0.k1 hd;have a0:=hd.a0;have a6:=hd.a6;have b0:=hd.b0;have fG:=hd.fG;have hl:=hd.len;omega) (.inr h7)
 case a2=>
  simp only[bl,reduceCtorEq]at h7;exact PW h6 h7
def Tryz.Q1:bY Tryz.prog Tryz.B.eT Tryz.X 61 [.str] [aC,.err] (fun s=>s.length<=100000) (fun x y=>y=(fun s=>gV s) x):=
 cF (X:=Tryz.X) Tryz.Ko Tryz.func61 (by kernel_rfl) (fun x=>Tryz.Fs x) (fun x hw hp=>Q0 x hw hp)
def Tryz.VJ:bY Tryz.prog Tryz.B.eT Tryz.X 79 [.str,.str,.int .i64,.int .i64] [.slice .str] (fun x=>x.1.length<4294967281/\x.2.1.length=1/\x.2.2.1=(1:Int)/\x.2.2.2=(-1:Int)) (fun x y=>y=dL (Hu x.2.1) x.1):=by
 refine⟨⟨Tryz.f79,Tryz.func79,by kernel_rfl,by kernel_rfl⟩,fun O w x vs hG hO ha hp =>?_⟩;obtain⟨s,p,sv,n⟩:=x;obtain⟨hs,hp,hsv,hn⟩:=hp;obtain⟨c,rfl⟩:∃c,p=[c]:=dn.1 hp
 obtain⟨v,vs',rfl,hv,u,vs2,rfl,hu,t,vs3,rfl,ht,z,hz⟩:=ha;obtain⟨rfl,hz⟩:=hz;obtain⟨rfl,hl⟩:=nM hv;obtain⟨rfl,_⟩:=nM hu;have et:t=.int .i64 1:=by obtain⟨e,_⟩:=ht.one rfl;simp at e;rw[e,show sv=(1:Int)from hsv]
 have ez:z=.int .i64 (-1):=by obtain⟨e,_⟩:=hz.one rfl;simp at e;rw[e,show n=(-1:Int)from hn]
 subst et;subst ez;obtain⟨m,hm⟩:=hG.max;have hsz:(⟨s.toArray⟩:ByteArray).size=s.length:=by simp[dd]
 have h1:1<=(⟨#[c]⟩:ByteArray).size:=b9 1;have hlen:=ed ⟨#[c]⟩ h1 1 _ ⟨s.toArray⟩ rfl;have hdat:=ee ⟨#[c]⟩ 1 (bq ⟨s.toArray⟩ ⟨#[c]⟩) ⟨s.toArray⟩;have hcb:=Lib.countB_le ⟨#[c]⟩ h1 _ ⟨s.toArray⟩ (b9 _);have hcall:Calls Tryz.prog 79 #[.string ⟨s.toArray⟩,.string ⟨#[c]⟩,.int .i64 1,.int .i64 (-1)] w fun e w'=>
   e=.returned (.slice (some ⟨w.heap.size,0,none⟩) (b8 ⟨#[c]⟩ 1 (bq ⟨s.toArray⟩ ⟨#[c]⟩ +1-1) ⟨s.toArray⟩).length (bq ⟨s.toArray⟩ ⟨#[c]⟩ +1))/\w'=w.alloc (.cells (Lib.cellsOf (b8 ⟨#[c]⟩ 1 (bq ⟨s.toArray⟩ ⟨#[c]⟩ +1-1) ⟨s.toArray⟩) (bq ⟨s.toArray⟩ ⟨#[c]⟩ +1)) 9):=Any.strings_genSplit {Tryz.Lq with} (by kernel_rfl) ⟨s.toArray⟩ ⟨#[c]⟩ 1 (-1) (bq ⟨s.toArray⟩ ⟨#[c]⟩ +1) m w (by rw[hsz];exact hs) hm h1 (b9 1) (by decide) (by decide) (by rw[if_pos (by decide)];omega)
 rw[Nat.add_sub_cancel,hlen]at hcall;have e2:Lib.cellsOf (b8 ⟨#[c]⟩ 1 (bq ⟨s.toArray⟩ ⟨#[c]⟩) ⟨s.toArray⟩) (bq ⟨s.toArray⟩ ⟨#[c]⟩ +1)=((b8 ⟨#[c]⟩ 1 (bq ⟨s.toArray⟩ ⟨#[c]⟩) ⟨s.toArray⟩).map cn).toArray:=by rw[<-hlen];exact Lib.cellsOf_full _
 rw[e2]at hcall;refine hcall.mono ?_;rintro e w' ⟨rfl,rfl⟩;have hd:(b8 ⟨#[c]⟩ 1 (bq ⟨s.toArray⟩ ⟨#[c]⟩) ⟨s.toArray⟩).map (·.data.toList)=dL c s:=hdat;have hlf:(dL c s).length=bq ⟨s.toArray⟩ ⟨#[c]⟩ +1:=by rw[<-hd,bz,hlen]
 refine⟨[_],dL c s,rfl,rfl,⟨_,rfl,VR.cH rfl ⟨_,rfl,?_,.inr ⟨w.heap.size,0,bq ⟨s.toArray⟩ ⟨#[c]⟩ +1,by rw[hlf],by rw[hlf];exact b9 _,fun i y hy =>?_⟩⟩⟩,(Vg.Below.refl _ w).alloc (b9 _) _⟩
 ·rw[hlf];have hs:s.length<4294967281:=hs;rw[hsz]at hcb;unfold aM;omega
 ·have hyl:=E5 c s y (ef hy)
  refine⟨[.string ⟨y.toArray⟩],⟨rfl,b4 hyl hl⟩,fun j u hj=>⟨?_,fun hh =>?_⟩⟩
  ·have hj0:j=0:=by
    rcases j with _|j
    ·rfl
    ·simp at hj
   subst hj0;simp at hj;subst hj;rw[<-hd,List.getElem?_map,c6]at hy;obtain⟨q,hq,rfl⟩:=hy;have hh:(w.alloc (.cells ((b8 ⟨#[c]⟩ 1 (bq ⟨s.toArray⟩ ⟨#[c]⟩) ⟨s.toArray⟩).map cn).toArray 9)).heap[w.heap.size]?=some (.cells ((b8 ⟨#[c]⟩ 1 (bq ⟨s.toArray⟩ ⟨#[c]⟩) ⟨s.toArray⟩).map cn).toArray 9 (0,0)):=heap_alloc_new w _;rw[cc hh];simp only[Ty.size,Nat.mul_one,Nat.zero_add,dp,List.getElem?_toArray,List.getElem?_map,hq,eg]
  ·have:=hO _ _ hh
   simp at this
def Tryz.vW:List (FuncId×(Bool×aT)):=[(79,(true,cE [.str,.str,.int .i64,.int .i64] [.slice .str] (fun x=>x.1.length<4294967281/\x.2.1.length=1/\x.2.2.1=(1:Int)/\x.2.2.2=(-1:Int)) (fun x=>dL (Hu x.2.1) x.1)))]
def Tryz.CN:bO Tryz.prog Tryz.B Tryz.X Tryz.vW:=
 aQ (aE Tryz.VJ) (bR Tryz.bQ)
def DI(s:List UInt8)(p:List UInt8)(hw:gU [.str,.str] (s,p))(hp:(fun x=>x.1.length<4294967281/\x.2.length=1) (s,p)):(dM Tryz.B Tryz.vW Tryz.f60 [] [.str,.str] [.slice .str] (fun x y=>y=(fun x=>dL (Hu x.2) x.1) x) (s,p)).holds:=by
 refine holds_of (p:=
  let za:=bb p
  let zb:=dL (List.rec 0 (fun(head:UInt8) (tail:List UInt8) (tail_ih:UInt8)=>head) p) s
  za<=aM->(bb s<4294967281/\za=1/\(↑za:Int)=1/\(-1:Int)=(-1:Int))/\zb=zb) (by kernel_rfl) ?_
 dsimp -iota -proj -eta only;dsimp only at hp;exact fun h0=>⟨(by omega),rfl⟩
def Tryz.DJ:bY Tryz.prog Tryz.B.eT Tryz.X 60 [.str,.str] [.slice .str] (fun x=>x.1.length<4294967281/\x.2.length=1) (fun x y=>y=(fun x=>dL (Hu x.2) x.1) x):=
 cF (X:=Tryz.X) Tryz.CN Tryz.func60 (by kernel_rfl) (fun _=>[]) (fun x hw hp=>DI x.1 x.2 hw hp)
def Tryz.spZ18:Bool×aT:=(false,aV Tryz.bD [.obj 0] (fun _ _=>True) Tryz.tw)
def Tryz.Ft:List (FuncId×(Bool×aT)):=[(57,Tryz.spZ18),(70,Tryz.spZ8),(71,Tryz.spZ9),(72,Tryz.spZ7)]
def Tryz.Kp:bO Tryz.prog Tryz.B Tryz.X Tryz.Ft:=
 aQ (Tryz.tx) (aQ (Tryz.xP) (aQ (Tryz.xR) (aQ (aE Tryz.IQ) (bR Tryz.bQ))))
def Tryz.vG:List (Alt Tryz.bD [.obj 0]):=[{bN:=Tryz.bD,res:=[.d .err],out:=fun _ x=>(iP x).1,ret:=fun _ x=>(aI (iP x).2,())}]
def Q2(d:Dk)(hw:gI [.obj 0] ())(hp:(fun _ x=>dA x 1000000) () d):(cR Tryz.B Tryz.Ft Tryz.f44 [] Tryz.bD [.obj 0] Tryz.vG () d).holds:=by
 refine holds_of (p:=
  let za:=d.2.2.2.1
  let zb:=za=za
  let zc:=(iP d).1
  let zd:=(aI (iP d).2,())
  let ze:=(-1:Int)
  let zf:=bK d 1 (@bc UInt8)
  let zg:=aL.isNil (aI zf.2)
  let zh:=zf.1.2.2.2.1
  let zi:=zh=zh
  let zj:=ze<=zf.1.1.1
  let zk:=zj/\bb zf.1.2.1=bb zf.1.2.2.1
  let zl:=aI (bP zf.1).2
  let zm:=(bP zf.1).1
  let zn:=zm.2.2.2.1
  let zo:=zn=zn
  let zp:=ze<=zm.1.1
  let zq:=fI 2 0
  let zr:=bK zm 0 zq
  let zs:=zr.1.2.2.2.1
  let zt:=(bP zr.1).1
  let zu:=(bP zm).1.2.2.2.1
  let zv:=zo/\True/\zm=zc/\(zl,())=zd
  let zw:=bK zf.1 0 zq
  let zx:=zw.1.2.2.2.1
  let zy:=(bP zw.1).1
  zb/\True/\(True->((decide ((↑(bb d.2.2.1):Int)<112))=true->zb/\True/\d=zc/\(aL.no 8,())=zd)/\((decide ((↑(bb d.2.2.1):Int)<112))=false->zb/\(ze<=d.1.1/\bb za<=900000000)/\(True->(zg=true->zi/\zk/\(True->((aL.isNil zl)=true->True/\zo/\(zp/\bb zn<=900000000)/\(True->((aL.isNil (aI zr.2))=true->zs=zs/\(ze<=zr.1.1.1/\bb zr.1.2.1=bb zr.1.2.2.1)/\(True->zt.2.2.2.1=zt.2.2.2.1/\True/\zt=zc/\(aI (bP zr.1).2,())=zd))/\((aL.isNil (aI zr.2))=false->zs=zs/\True/\zr.1=zc/\(aI zr.2,())=zd)))/\((aL.isNil zl)=false->((aL.isNil zl)=true->zo/\(zp/\bb zm.2.1=bb zm.2.2.1)/\(True->zu=zu/\True/\(bP zm).1=zc/\(aI (bP zm).2,())=zd))/\((aL.isNil zl)=false->zv))))/\(zg=false->(zg=true->True/\zi/\(zj/\bb zh<=900000000)/\(True->((aL.isNil (aI zw.2))=true->zx=zx/\(ze<=zw.1.1.1/\bb zw.1.2.1=bb zw.1.2.2.1)/\(True->zy.2.2.2.1=zy.2.2.2.1/\True/\zy=zc/\(aI (bP zw.1).2,())=zd))/\((aL.isNil (aI zw.2))=false->zx=zx/\True/\zw.1=zc/\(aI zw.2,())=zd)))/\(zg=false->(zg=true->zi/\zk/\(True->zv))/\(zg=false->zi/\True/\zf.1=zc/\(aI zf.2,())=zd))))))) (by kernel_rfl) ?_
 dsimp -iota -proj -eta only;refine⟨rfl,ba,fun h0=>iL (fun h1=>(by rw[me,Vh h1];exact⟨rfl,ba,rfl,rfl⟩)) (fun h1=>⟨rfl,⟨hp.mb,b4 hp.lO (by decide)⟩,fun h2=>⟨fun h3=>⟨rfl,(by have f:=mc hp 1 [];exact⟨f.mb,f.len⟩),fun h4=>⟨fun h5=>⟨ba,rfl,(by have f:=ri (mc hp 1 []);exact⟨f.mb,b4 f.lO (by decide)⟩),fun h6=>⟨fun h7=>⟨rfl,(by have f:=mc (ri (mc hp 1 [])) 0 (fI 2 0);exact⟨f.mb,f.len⟩),fun h8=>(by rw[me,W8 (by omega) (aP.1 h3) (aP.1 h5) (aP.1 h7)];exact⟨rfl,ba,rfl,rfl⟩)⟩,fun h7=>(by rw[me,W7 (by omega) (aP.1 h3) (aP.1 h5) (dK h7)];exact⟨rfl,ba,rfl,rfl⟩)⟩⟩,fun h5=>⟨fun h6=>⟨rfl,?a,fun h7 =>?b⟩,fun h6=>(by rw[me,W6 (by omega) (aP.1 h3) (dK h5)];exact⟨rfl,ba,rfl,rfl⟩)⟩⟩⟩,fun h3=>⟨fun h4=>⟨ba,rfl,?c,fun h5=>⟨fun h6=>⟨rfl,?d,fun h7 =>?e⟩,fun h6 =>?f⟩⟩,fun h4=>⟨fun h5=>⟨rfl,?g,fun h6 =>?h⟩,fun h5=>(by rw[me,W5 (by omega) (dK h3)];exact⟨rfl,ba,rfl,rfl⟩)⟩⟩⟩⟩)⟩
 case a|b|c|d|e|f|g|h=>simp_all
def Tryz.Q3:bX Tryz.prog Tryz.B.eT Tryz.X 44 false (aV Tryz.bD [.obj 0] (fun _ x=>dA x 1000000) Tryz.vG):=
 bE (X:=Tryz.X) Tryz.Kp Tryz.func44 (by kernel_rfl) (fun(a:CD [.obj 0]) (x:PD Tryz.bD)=>[]) (fun(a:CD [.obj 0]) (x:PD Tryz.bD) hw hp=>Q2 x hw hp)
def Tryz.spZ19:Bool×aT:=(false,aV Tryz.bD [.obj 0] (fun _ _=>True) Tryz.A8)
def Tryz.Lw:List (FuncId×(Bool×aT)):=[(19,Tryz.spZ19),(57,Tryz.spZ18),(58,(false,gx Tryz.B [] Tryz.f58 [])),(59,(true,rP [.str] [.int .i64] (fun s=>4<=s.length) (fun s y=>(y:Int)=iO s))),(60,(true,cE [.str,.str] [.slice .str] (fun x=>x.1.length<4294967281/\x.2.length=1) (fun x=>dL (Hu x.2) x.1))),(61,(true,cE [.str] [aC,.err] (fun s=>s.length<=100000) (fun s=>gV s)))]
def Tryz.Q4:bO Tryz.prog Tryz.B Tryz.X Tryz.Lw:=
 aQ (Tryz.IP) (aQ (Tryz.tx) (aQ (eQ (bR Tryz.bQ) Tryz.func58 (by kernel_rfl) []) (aQ (jg Tryz.QV) (aQ (aE Tryz.DJ) (aQ (aE Tryz.Q1) (bR Tryz.bQ))))))
def Tryz.Lx(d:Dk):dY:=[
 (0,fun st=>{X:=Nat,inv:=fun i=>i<=2,cD:=fun i=>2-i,bM:=fun i=>[(29,sI i),(5,sI (eI d i).2)],aF:=fun i=>[(bH st 4,.cells 117 [.ref 0 0,.d (.int .i64) (eI d i).1,.app aC [] (nA st (bH st 4) 2)])],keep:=[0,4],gQ:=[bH st 4]}),
 (2,fun st=>{X:=Nat,inv:=fun i=>i<=55,cD:=fun i=>55-i,bM:=fun i=>[(74,sI i),(11,sS (jn d (kV d) i))],keep:=[0,4,5]}),
 (4,fun st=>{X:=Nat,inv:=fun i=>i<=bb (dJ d)/\∀j,j<i->nth .str (dJ d) j=[]\/(gV (nth .str (dJ d) j)).2.isNil=true,cD:=fun i=>bb (dJ d)-i,bM:=fun i=>[(103,sI i)],aF:=fun i=>[(bH st 4,.cells 117 [.ref 0 0,.d (.int .i64) (eI d 2).1,.app aC (km ((dJ d).take i)) (nA st (bH st 4) 2)]),(nA st (bH st 4) 2,.tok aC (km ((dJ d).take i)))],keep:=[4,101,102],gQ:=[bH st 4,nA st (bH st 4) 2]})]
def Tryz.Bc:List (Alt Tryz.bD [.obj 0]):=[
 {bN:=Tryz.bD,res:=[.gW,.d .err],ok:=fun _ x=>(dP x).2≠0,out:=fun _ x=>x,ret:=fun _ x=>(aI (dP x).2,())},
 {bN:=Tryz.bD++[.box 117 [.obj 0,.d (.int .i64),.d (.slice aC)]],res:=[.obj 4,.d .err],ok:=fun _ x=>(dP x).2=0,out:=fun _ x=>(x.1,x.2.1,x.2.2.1,x.2.2.2.1,((dP x).1.1,(dP x).1.2,()),()),ret:=fun _ _=>(aL.nil,())}]
def VK(d:Dk)(hw:gI [.obj 0] ())(hp:(fun _ x=>dA x 1000000/\∀i,i<x.2.2.1.length->(nth .str x.2.2.1 i).length=64) () d):(cR Tryz.B Tryz.Lw Tryz.f39 (Tryz.Lx d) Tryz.bD [.obj 0] Tryz.Bc () d).holds:=by
 refine holds_of (p:=
  let za:=d.2.2.2.1
  let zb:=za=za
  let zc:=d.1.2.1
  let zd:=(dP d).2
  let ze:=zd≠(0:Int)
  let zf:=d=d
  let zg:=(aI zd,())
  let zh:=zb/\ze/\zf/\(aL.no (9:Int),())=zg
  let zi:=d.2.2.1
  let zj:=bb zi
  let zk:=(↑zj:Int)
  let zl:=zb/\ze/\zf/\(aL.no (4:Int),())=zg
  let zm:=C.ref 0 0
  let zn:=zm=zm
  let zo:=@bc (List UInt8×List (List UInt8×Int×Int×Unit)×List (Int×Int×Int×Unit)×Unit)=@bc (List UInt8×List (List UInt8×Int×Int×Unit)×List (Int×Int×Int×Unit)×Unit)
  let zp:=zo/\True
  let zq:=fun(E:Nat)=>(↑E:Int)
  let zr:=!aL.isNil (aL.no (9:Int))
  let zs:=(0:Int)<=(1:Int)
  let zt:=(1:Int)<=(5:Int)
  let zu:=bb (@bc UInt8)
  let zv:=(↑zu:Int)
  let zw:=(0:Int)<=(5:Int)
  let zx:=(5:Int)<=(9:Int)
  let zy:=bj 1 (bd 5 (@bc UInt8))
  let zz:=bj 5 (bd 9 (@bc UInt8))
  let zaa:=(0:Int)<=(0:Int)
  let zab:=fun(E:Nat)=>(eI d E).1
  let zac:=fun(E:Nat)=>aJ (zq E)
  let zad:=aJ (1:Int)
  let zae:=fun(E:Nat)=>zq E+(1:Int)
  let zaf:=fun(E:Nat)=>aJ (zae E)
  let zag:=d.2.1
  let zah:=(C.aU 1=C.aU 1/\C.aU 2=C.aU 2/\zb/\d.1.1=d.1.1/\zc=zc/\True)/\zag=zag/\zi=zi/\zb/\True
  let zai:=zo/\zah
  let zaj:=fun(E:Nat)=>zac E->zad->zaf E/\∃(x':Nat),x'<=2/\2-x'<2-E/\(zae E=(↑x':Int)/\(eI d E).2=(eI d x').2/\True)/\(zn/\zab E=(eI d x').1/\zp)/\zai
  let zak:=fun(F:Int) (E:Nat) (G:Int)=>((decide (F > zab E))=true->((decide (G<=(3520:Int)))=true->zac E->zad->zaf E/\∃(x':Nat),x'<=2/\2-x'<2-E/\(zae E=(↑x':Int)/\G=(eI d x').2/\True)/\(zn/\F=(eI d x').1/\zp)/\zai)/\((decide (G<=(3520:Int)))=false->zaj E))/\((decide (F > zab E))=false->zaj E)
  let zal:=fun(E:Nat)=>(zs/\zt/\(5:Int)<=zv)/\(zw/\zx/\(9:Int)<=zv)/\4<=bb zy/\∀F:Int,F=iO zy->4<=bb zz/\∀G:Int,G=iO zz->(zaa/\(0:Int)<zv)/\(((↑(b7 (dS (@bc UInt8) 0)):Int) == (83:Int))=true->zak F E G)/\(((↑(b7 (dS (@bc UInt8) 0)):Int) == (83:Int))=false->zaj E)
  let zam:=!aL.isNil (aL.no (1:Int))
  let zan:=zb/\ze/\zf/\(aL.no (1:Int),())=zg
  let zao:=fun(E:Nat)=>(zam=true->zan)/\(zam=false->zal E)
  let zap:=!aL.isNil aL.nil
  let zaq:=zb/\ze/\zf/\(aL.nil,())=zg
  let zar:=fun(E:Nat)=>nth Ty.str zi E
  let zas:=fun(E:Nat)=>(↑(bb (zar E)):Int)
  let zat:=fun(E:Nat)=>bj 1 (bd 5 (zar E))
  let zau:=fun(E:Nat)=>bj 5 (bd 9 (zar E))
  let zav:=kV d
  let zaw:=fun(I:Int) (F:Nat)=>(2:Int)+I+zq F
  let zax:=fun(F:Nat)=>jn d zav F
  let zay:=fun(E:Nat)=>(zn/\zab E=zab E/\zp)/\zai
  let zaz:=fun(F:Nat) (E:Nat)=>bb (zax F)+zu<=aM/\(zac F->zad->zaf F/\∃(x':Nat),x'<=55/\55-x'<55-F/\(zae F=(↑x':Int)/\zax F++ @bc UInt8=jn d zav x'/\True)/\zay E)
  let zba:=fun(F:Nat) (E:Nat)=>(zam=true->zan)/\(zam=false->zaz F E)
  let zbb:=fun(E F:Nat)=>bj 0 (bd (bf (eI d E).2) (zax F))
  let zbc:=dJ d
  let zbd:=bb zbc
  let zbe:=(eI d 2).1
  let zbf:=fun(E F G:Nat)=>nth Ty.str (dL (10:UInt8) (zbb E F)) G
  let zbg:=fun(G:Nat)=>km (bd G zbc)
  zb/\True/\(True->(zc=true->zh)/\(zc=false->zb/\True/\(True->((decide (zk<(112:Int)))=true->zl)/\((decide (zk<(112:Int)))=false->(∃(x:Nat),x<=2/\((0:Int)=(↑x:Int)/\(0:Int)=(eI d x).2/\True)/\(zn/\(0:Int)=(eI d x).1/\zp)/\True)/\∀E:Nat,E<=2->((decide (zq E<(2:Int)))=true->(zc=true->(zr=true->zh)/\(zr=false->zal E))/\(zc=false->((decide (zq E<(0:Int)))=true->zao E)/\((decide (zq E<(0:Int)))=false->zj<=aM->((decide (zq E>=zk))=true->zao E)/\((decide (zq E>=zk))=false->((0:Int)<=zq E/\zq E<zk)/\E<zj/\(zap=true->zaq)/\(zap=false->(zs/\zt/\(5:Int)<=zas E)/\(zw/\zx/\(9:Int)<=zas E)/\4<=bb (zat E)/\∀F:Int,F=iO (zat E)->4<=bb (zau E)/\∀G:Int,G=iO (zau E)->(zaa/\(0:Int)<zas E)/\(((↑(b7 (dS (zar E) 0)):Int) == (83:Int))=true->zak F E G)/\(((↑(b7 (dS (zar E) 0)):Int) == (83:Int))=false->zaj E))))))/\((decide (zq E<(2:Int)))=false->((zab E == (0:Int))=true->zl)/\((zab E == (0:Int))=false->(∃(x:Nat),x<=55/\((0:Int)=(↑x:Int)/\@bc UInt8=jn d zav x/\True)/\True)/\∀F:Nat,F<=55->((decide (zq F<(55:Int)))=true->(2:Int)≠(0:Int)/\∀G:Int,G=db (zab E) (2:Int)->∀I:Int,I=G*(55:Int)->aJ G->aJ (55:Int)->aJ I/\(aJ (2:Int)->aJ I->aJ ((2:Int)+I)/\(aJ ((2:Int)+I)->zac F->aJ (zaw I F)/\(zc=true->(zr=true->zh)/\(zr=false->zaz F E))/\(zc=false->((decide (zaw I F<(0:Int)))=true->zba F E)/\((decide (zaw I F<(0:Int)))=false->zj<=aM->((decide (zaw I F>=zk))=true->zba F E)/\((decide (zaw I F>=zk))=false->((0:Int)<=zaw I F/\zaw I F<zk)/\bf (zaw I F)<zj/\(zap=true->zaq)/\(zap=false->bb (zax F)+bb (nth Ty.str zi (bf (zaw I F)))<=aM/\(zac F->zad->zaf F/\∃(x':Nat),x'<=55/\55-x'<55-F/\(zae F=(↑x':Int)/\zax F++nth Ty.str zi (bf (zaw I F))=jn d zav x'/\True)/\zay E))))))))/\((decide (zq F<(55:Int)))=false->(zaa/\(0:Int)<=(eI d E).2/\(eI d E).2<=(↑(bb (zax F)):Int))/\(bb (zbb E F)<4294967281/\bb [(10:UInt8)]=1)/\(bb (dL (10:UInt8) (zbb E F))<=aM->(∃(x:Nat),(x<=zbd/\∀(j:Nat),j<x->nth Ty.str zbc j=@bc UInt8\/aL.isNil (aI (oM (nth Ty.str zbc j)).2)=true)/\((0:Int)=(↑x:Int)/\True)/\(zn/\zab E=zbe/\@bc (List UInt8×List (List UInt8×Int×Int×Unit)×List (Int×Int×Int×Unit)×Unit)=km (bd x zbc)/\True)/\@bc (List UInt8×List (List UInt8×Int×Int×Unit)×List (Int×Int×Int×Unit)×Unit)=km (bd x zbc)/\True)/\∀G:Nat,(G<=zbd/\∀(j:Nat),j<G->nth Ty.str zbc j=@bc UInt8\/aL.isNil (aI (oM (nth Ty.str zbc j)).2)=true)->((decide (zq G<(↑(bb (dL (10:UInt8) (zbb E F))):Int)))=true->((0:Int)<=zq G/\zq G<(↑(bb (dL (10:UInt8) (zbb E F))):Int))/\((zbf E F G == @bc UInt8)=true->zac G->zad->zaf G/\∃(x':Nat),(x'<=zbd/\∀(j:Nat),j<x'->nth Ty.str zbc j=@bc UInt8\/aL.isNil (aI (oM (nth Ty.str zbc j)).2)=true)/\zbd-x'<zbd-G/\(zae G=(↑x':Int)/\True)/\(zn/\zbe=zbe/\zbg G=km (bd x' zbc)/\True)/\zbg G=km (bd x' zbc)/\zah)/\((zbf E F G == @bc UInt8)=false->bb (zbf E F G)<=100000/\((!aL.isNil (aI (oM (zbf E F G)).2))=true->zl)/\((!aL.isNil (aI (oM (zbf E F G)).2))=false->(zbg G=zbg G/\bb (zbg G)+bb [(oM (zbf E F G)).1]<=1000000000)/\(zac G->zad->zaf G/\∃(x':Nat),(x'<=zbd/\∀(j:Nat),j<x'->nth Ty.str zbc j=@bc UInt8\/aL.isNil (aI (oM (nth Ty.str zbc j)).2)=true)/\zbd-x'<zbd-G/\(zae G=(↑x':Int)/\True)/\(zn/\zbe=zbe/\zbg G++[(oM (zbf E F G)).1]=km (bd x' zbc)/\True)/\zbg G++[(oM (zbf E F G)).1]=km (bd x' zbc)/\zah))))/\((decide (zq G<(↑(bb (dL (10:UInt8) (zbb E F))):Int)))=false->zb/\zd=(0:Int)/\(d.1,zag,zi,za,(zbe,zbg G,()),())=(d.1,zag,zi,za,((dP d).1.1,(dP d).1.2,()),())/\(aL.nil,())=(aL.nil,()))))))))))) (by kernel_rfl) ?_
 dsimp -iota -proj -eta only;refine⟨rfl,ba,fun h0=>⟨fun h1=>(by rw[Qm h1];exact⟨rfl,by decide,rfl,rfl⟩),fun h1=>⟨rfl,ba,fun h2=>iL (fun h3=>(by rw[Tb h1 h3];exact⟨rfl,by decide,rfl,rfl⟩)) (fun h3=>⟨(⟨0,b6 _,⟨rfl,by rw[Cz],ba⟩,⟨rfl,by rw[Cz],rfl,ba⟩,(by trivial)⟩),fun E q_0=>iL (fun h4=>⟨fun h5=>⟨fun h6=>(ct (h1.symm.trans h5)),fun h6=>absurd (show true=false from h6) (by decide)⟩,fun h5=>⟨fun h6=>absurd (show false=true from h6) (by decide),fun h6 h7=>iE (fun h8=>⟨fun h9=>(by exfalso;omega),fun h9=>absurd (show true=false from h9) (by decide)⟩) (fun h8=>⟨?a,?b,⟨fun h9=>absurd (show false=true from h9) (by decide),fun h9=>⟨?c,?d,?e,fun F q_1=>⟨?f,fun G q_2=>⟨?g,iQ (fun h10=>iL (fun h11=>iE (fun h12 h13 h14=>⟨?h,?i⟩) (fun h12 h13 h14=>⟨?j,?k⟩)) (fun h11 h12 h13=>⟨?l,?m⟩)) (fun h10 h11 h12=>⟨?n,?o⟩)⟩⟩⟩⟩⟩)⟩⟩) (fun h4=>iQ (fun h5 =>?p) (fun h5=>⟨(⟨0,b6 _,⟨rfl,by rw[Uz],ba⟩,(by trivial)⟩),fun F q_1=>iL (fun h6=>⟨(by trivial),fun G q_2 I q_3 h7 h8=>⟨?q,fun h9 h10=>⟨?r,fun h11 h12=>⟨?s,⟨fun h13=>⟨fun h14=>(ct (h1.symm.trans h13)),fun h14=>absurd (show true=false from h14) (by decide)⟩,fun h13=>iL (fun h14=>⟨fun h15 =>?t,fun h15=>absurd (show true=false from h15) (by decide)⟩) (fun h14 h15=>iE (fun h16=>⟨fun h17 =>?u,fun h17=>absurd (show true=false from h17) (by decide)⟩) (fun h16=>⟨?v,?w,⟨fun h17=>absurd (show false=true from h17) (by decide),fun h17=>⟨?x,fun h18 h19=>⟨?y,?z⟩⟩⟩⟩))⟩⟩⟩⟩⟩) (fun h6=>⟨?a0,?a1,fun h7=>⟨?a2,fun G q_2=>iL (fun h8=>⟨?a3,iQ (fun h9 h10 h11=>⟨?a4,?a5⟩) (fun h9=>⟨?a6,iB (fun h10 =>?a7) (fun h10=>⟨?a8,fun h11 h12=>⟨?a9,?aa⟩⟩)⟩)⟩) (fun h8 =>?ab)⟩⟩)⟩))⟩)⟩⟩⟩
 case a|b|a3=>omega
 case c|d|g=>
  have h64:(nth .str d.2.2.1 E).length=64:=hp.2 _ (by omega);rw[h64];decide
 case e|f=>
  have h64:(nth .str d.2.2.1 E).length=64:=hp.2 _ (by omega);rw[dw,b5,h64];decide
 case h|j|l|n|y|a4|a9=>simp only[aJ,aM]at*;omega
 case i=>
  have e1:F=pI d E:=q_1.trans (p4 d E).symm;have e2:G=qI d E:=q_2.trans (ry d E).symm;subst e1;subst e2;exact⟨E+1,by omega,by omega,⟨by omega,by rw[uh h10 (by omega) h12],ba⟩,⟨rfl,by rw[uh h10 (by omega) h12],rfl,ba⟩,(by trivial)⟩
 case k=>
  have e1:F=pI d E:=q_1.trans (p4 d E).symm;have e2:G=qI d E:=q_2.trans (ry d E).symm;subst e1;subst e2;have hn:eI d (E+1)=eI d E:=yB fun z=>by have:=z.2.2;omega
  exact⟨E+1,by omega,by omega,⟨by omega,by rw[hn],ba⟩,⟨rfl,by rw[hn],rfl,ba⟩,(by trivial)⟩
 case m=>
  have e1:F=pI d E:=q_1.trans (p4 d E).symm;have e2:G=qI d E:=q_2.trans (ry d E).symm;subst e1;subst e2;have hn:eI d (E+1)=eI d E:=yB fun z=>by have:=z.2.1;omega
  exact⟨E+1,by omega,by omega,⟨by omega,by rw[hn],ba⟩,⟨rfl,by rw[hn],rfl,ba⟩,(by trivial)⟩
 case o=>
  have hn:eI d (E+1)=eI d E:=yB fun z=>h10 z.1
  exact⟨E+1,by omega,by omega,⟨by omega,by rw[hn],ba⟩,⟨rfl,by rw[hn],rfl,ba⟩,(by trivial)⟩
 case p=>
  have hx0:E=2:=by omega
  subst hx0;rw[Qn h1 (by omega) h5];exact⟨rfl,by decide,rfl,rfl⟩
 case q|r|s=>have hr:=gK d E;have ht:=sR hr.1.1;simp only[aJ]at*;omega
 case t|u=>exfalso;have hr:=gK d E;have ht:=sR hr.1.1;omega
 case v|w=>have hr:=gK d E;have ht:=sR hr.1.1;omega
 case x=>
  have hx0:E=2:=(by omega);subst hx0;have hr:=gK d 2;have ht:=sR hr.1.1;have hb:kV d=2+I:=(by rw[kE,q_3,q_2]);have h64:(nth .str d.2.2.1 (bf (2+I+(F:Int)))).length=64:=hp.2 _ (by omega);have hl:=kG hp.2 (b:=kV d) (by omega) F (by omega);rw[h64,hl];have:aM=9223372036854775807:=rfl;omega
 case z=>
  have hx0:E=2:=(by omega);subst hx0;have hr:=gK d 2;have ht:=sR hr.1.1;have hb:kV d=2+I:=(by rw[kE,q_3,q_2]);exact⟨F+1,by omega,by omega,⟨by omega,by rw[Nx,hb];rfl,ba⟩,(by trivial)⟩
 case a0=>
  have hx0:E=2:=(by omega);subst hx0;have hx1:F=55:=(by omega);subst hx1;have hr:=gK d 2;have ht:=sR hr.1.1;have hbb:=kE d;have hll:(jn d (kV d) 55).length=64*55:=kG hp.2 (by omega) 55 (by omega);have hLL:dL 10 (bj 0 (bd (bf (eI d 2).2) (jn d (kV d) 55)))=dJ d:=(by rw[gL];rfl);rw[hll];exact⟨by decide,hr.2.1,by omega⟩
 case a1=>
  have hx0:E=2:=(by omega);subst hx0;have hx1:F=55:=(by omega);subst hx1;have hr:=gK d 2;have ht:=sR hr.1.1;have hbb:=kE d;have hll:(jn d (kV d) 55).length=64*55:=kG hp.2 (by omega) 55 (by omega);have hLL:dL 10 (bj 0 (bd (bf (eI d 2).2) (jn d (kV d) 55)))=dJ d:=(by rw[gL];rfl);refine⟨?_,rfl⟩;rw[c7,b5,hll];omega
 case a2=>
  have hx0:E=2:=(by omega);subst hx0;have hx1:F=55:=(by omega);subst hx1;have hr:=gK d 2;have ht:=sR hr.1.1;have hbb:=kE d;have hll:(jn d (kV d) 55).length=64*55:=kG hp.2 (by omega) 55 (by omega);have hLL:dL 10 (bj 0 (bd (bf (eI d 2).2) (jn d (kV d) 55)))=dJ d:=(by rw[gL];rfl);exact⟨0,⟨b6 _,fun j hj=>absurd hj (cw _)⟩,⟨rfl,ba⟩,⟨rfl,rfl,by rw[er,Qq],ba⟩,by rw[er,Qq],ba⟩
 case a5=>
  have hx0:E=2:=(by omega);subst hx0;have hx1:F=55:=(by omega);subst hx1;have hr:=gK d 2;have ht:=sR hr.1.1;have hbb:=kE d;have hll:(jn d (kV d) 55).length=64*55:=kG hp.2 (by omega) 55 (by omega);have hLL:dL 10 (bj 0 (bd (bf (eI d 2).2) (jn d (kV d) 55)))=dJ d:=(by rw[gL];rfl)
  (try rw[hLL]at h8);(try rw[hLL]at h9);(try rw[hLL]at h10);(try rw[hLL])
  have e:=Qo (L:=dJ d) (i:=G) (by omega) h9;exact⟨G+1,⟨by omega,lY q_2.2 (.inl h9)⟩,by omega,⟨by omega,ba⟩,⟨rfl,rfl,e.symm,ba⟩,e.symm,(by trivial)⟩
 case a6=>
  have hx0:E=2:=(by omega);subst hx0;have hx1:F=55:=(by omega);subst hx1;have hr:=gK d 2;have ht:=sR hr.1.1;have hbb:=kE d;have hll:(jn d (kV d) 55).length=64*55:=kG hp.2 (by omega) 55 (by omega);have hLL:dL 10 (bj 0 (bd (bf (eI d 2).2) (jn d (kV d) 55)))=dJ d:=(by rw[gL];rfl)
  (try rw[hLL]at h8);(try rw[hLL]at h9);(try rw[hLL]at h10);(try rw[hLL])
  have hm:nth .str (dJ d) G∈dJ d:=dQ (t:=.str) (by omega);have hm2:nth .str (dJ d) G∈dL 10 (bd (eI d 2).2.toNat (jn d (kV d) 55)):=by rw[<-gL];exact hm
  refine b4 (E5 10 _ _ hm2) ?_;rw[b5,hll];omega
 case a7=>
  have hx0:E=2:=(by omega);subst hx0;have hx1:F=55:=(by omega);subst hx1;have hr:=gK d 2;have ht:=sR hr.1.1;have hbb:=kE d;have hll:(jn d (kV d) 55).length=64*55:=kG hp.2 (by omega) 55 (by omega);have hLL:dL 10 (bj 0 (bd (bf (eI d 2).2) (jn d (kV d) 55)))=dJ d:=(by rw[gL];rfl)
  (try rw[hLL]at h8);(try rw[hLL]at h9);(try rw[hLL]at h10);(try rw[hLL])
  rw[Td h1 (by omega) h5 ⟨G,by omega,h9,h10⟩];exact⟨rfl,by decide,rfl,rfl⟩
 case a8=>
  have hx0:E=2:=(by omega);subst hx0;have hx1:F=55:=(by omega);subst hx1;have hr:=gK d 2;have ht:=sR hr.1.1;have hbb:=kE d;have hll:(jn d (kV d) 55).length=64*55:=kG hp.2 (by omega) 55 (by omega);have hLL:dL 10 (bj 0 (bd (bf (eI d 2).2) (jn d (kV d) 55)))=dJ d:=(by rw[gL];rfl);refine⟨rfl,?_⟩;have h1:=Te (bd G (dJ d));have h2:=Ny 10 (bd (eI d 2).2.toNat (jn d (kV d) 55));rw[<-gL,b5,hll]at h2;rw[b5]at h1;rw[bu];omega
 case aa=>
  have hx0:E=2:=(by omega);subst hx0;have hx1:F=55:=(by omega);subst hx1;have hr:=gK d 2;have ht:=sR hr.1.1;have hbb:=kE d;have hll:(jn d (kV d) 55).length=64*55:=kG hp.2 (by omega) 55 (by omega);have hLL:dL 10 (bj 0 (bd (bf (eI d 2).2) (jn d (kV d) 55)))=dJ d:=(by rw[gL];rfl)
  (try rw[hLL]at h8);(try rw[hLL]at h9);(try rw[hLL]at h10);(try rw[hLL])
  have e:=Qp (L:=dJ d) (i:=G) (by omega) h9;exact⟨G+1,⟨by omega,lY q_2.2 (.inr h10)⟩,by omega,⟨by omega,ba⟩,⟨rfl,rfl,e.symm,ba⟩,e.symm,(by trivial)⟩
 case ab=>
  have hx0:E=2:=(by omega);subst hx0;have hx1:F=55:=(by omega);subst hx1;have hr:=gK d 2;have ht:=sR hr.1.1;have hbb:=kE d;have hll:(jn d (kV d) 55).length=64*55:=kG hp.2 (by omega) 55 (by omega);have hLL:dL 10 (bj 0 (bd (bf (eI d 2).2) (jn d (kV d) 55)))=dJ d:=(by rw[gL];rfl)
  (try rw[hLL]at h8);(try rw[hLL]at h9);(try rw[hLL]at h10);(try rw[hLL])
  rw[Lm h1 (by omega) h5 (Vi (i:=G) (by omega) q_2.2),cu (by omega)];exact⟨rfl,rfl,rfl,rfl⟩
def Tryz.Ly:bX Tryz.prog Tryz.B.eT Tryz.X 39 false (aV Tryz.bD [.obj 0] (fun _ x=>dA x 1000000/\∀i,i<x.2.2.1.length->(nth .str x.2.2.1 i).length=64) Tryz.Bc):=
 bE (X:=Tryz.X) Tryz.Q4 Tryz.func39 (by kernel_rfl) (fun(a:CD [.obj 0]) (x:PD Tryz.bD)=>Tryz.Lx x) (fun(a:CD [.obj 0]) (x:PD Tryz.bD) hw hp=>VK x hw hp)
end Go.Proofs.YtgokjhhcfemnhadGreatDoor

namespace Go.Proofs.YtgokjhhcfemnhadGreatDoor
open Go.Vg Go.Shelf Go.RowKit
def CO{P:Program}(w:World)(t e ty:TypeId)(z:Value)(ht:P.underlying t=some (.slice e))(hv:∀w,(zeroValue e).run P w=.ok z w)(h1:∀u∈z.cells,u.oneCell'=true)(b o n c:Nat)(hn:0<n)
  (hc:∀j,j<n*z.cells.size->(w.cell? ⟨b,o+j,none⟩).isSome=true)(hf:∀j,j<n*z.cells.size->w.frozen? ⟨b,o+j,none⟩=false) :
  (dx #[t] ty #[.slice (some ⟨b,o,none⟩) n c]).run P w=.ok (.tuple #[]) (w.setCells b o (cm z.cells n).toList):=by
 have hl:(cm z.cells n).toList.length=n*z.cells.size:=by rw[df,size_zeroCells]
 have hst:=run_storeCells_cells (P:=P) b o (cm z.cells n).toList 0 w (by simpa[hl]using hc) (by simpa[hl]using hf) (by
  intro v hv';simp[cm]at hv';obtain⟨k,hk,rfl⟩:=hv';by_cases h:k % z.cells.size<z.cells.size
  ·rw[getElem!_pos z.cells _ h];exact h1 _ (Array.getElem_mem h)
  ·have:z.cells.size=0:=by
    by_cases h0:z.cells.size=0
    ·exact h0
    ·exact absurd (Nat.mod_lt _ (by omega)) h
   rw[this]at hk;omega)
 simp only[dp]at hst;obtain⟨m,rfl⟩:∃m,n=m+1:=⟨n-1,by omega⟩
 simp[dx,run_underlying ht,hv,hst]
def j9(b:Nat):∀(vs:List Value) (o:Nat) (w:World),(w.setCells b o vs).heap.size=w.heap.size
 |[],_,_=>rfl
 |v :: r,o,w=>(j9 b r (o+1) _).trans (ds _ _ _)
def vX{b:Nat}{T:TypeId}:∀(news:List Value) (o:Nat) (w:World) (vs:Array Value),w.heap[b]?=some (.cells vs T (0,0))->o+news.length<=vs.size->
  ∃vs',(w.setCells b o news).heap[b]?=some (.cells vs' T (0,0))/\vs'.size=vs.size/\∀k,vs'[k]?=if k<o then vs[k]? else if k<o+news.length then news[k-o]? else vs[k]?:=by
 intro news;induction news with
 |nil=>intro o w vs hb _;exact⟨vs,hb,rfl,fun k=>by simp only[b3];split <;> (try rfl);rw[if_neg (by omega)]⟩
 |cons x r ih=>
  intro o w vs hb hle;simp only[bx]at hle;obtain⟨vs',h1,h2,h3⟩:=ih (o+1) (w.setCell ⟨b,o,none⟩ x) _ (Sl hb) (by simp;omega);refine⟨vs',h1,by simpa using h2,fun k =>?_⟩;rw[h3,bx];by_cases c1:k<o
  ·rw[if_pos (by omega),if_pos c1,Array.getElem?_setIfInBounds_ne (by omega)]
  ·by_cases c2:k=o
   ·subst c2
    rw[if_pos (by omega),if_neg c1,if_pos (by omega),Array.getElem?_setIfInBounds_self_of_lt (by omega)];simp
   ·rw[if_neg (by omega),if_neg c1]
    by_cases c3:k<o+1+r.length
    ·rw[if_pos c3,if_pos (by omega),show k-o=(k-(o+1))+1 by omega,List.getElem?_cons_succ]
    ·rw[if_neg c3,if_neg (by omega),Array.getElem?_setIfInBounds_ne (by omega)]
set_option maxHeartbeats 4000000 in
set_option maxRecDepth 1000000 in
def Tryz.WI:Qr Tryz.prog 56 3:=by
 intro b i j n cap vs T w hb hsz hij hj hcap hbig h1;obtain⟨te,ti,td,hu,hf⟩:=gY (t:=114) (e:=aC) Tryz.bQ (by kernel_rfl);obtain⟨z,hz,hzr⟩:=hf.zero;have hu':=hu;rw[Tryz.underlying114]at hu';cases hu';obtain⟨news,hnews⟩:∃news,news=(vs.toList.drop (j*3)).take ((n-j)*3):=⟨_,rfl⟩
 have hle:n*3<=vs.size:=by omega
 have hlen:news.length=(n-j)*3:=by rw[hnews,b5,dw,df];omega
 have hget:∀(t:Nat) u,news[t]?=some u->vs[j*3+t]?=some u:=by
  intro t u ht;rw[hnews,List.getElem?_take]at ht;split at ht
  ·rw[List.getElem?_drop,Array.getElem?_toList]at ht;exact ht
  ·cases ht
 obtain⟨A,hA,hsrc⟩:∃A:Addr,(if cap=j then some (⟨b,0,none⟩:Addr)else some ⟨b,j*3,none⟩)=some A/\Hid (∀(t:Nat) u,news[t]?=some u->w.drew.cell? (A.add t)=some u):=by
  by_cases h:cap=j
  ·refine⟨⟨b,0,none⟩,by simp[h],fun t u hu =>?_⟩
   have h0:news.length=0:=by rw[hlen];omega
   rw[dk.1 h0]at hu;simp at hu
  ·refine⟨⟨b,j*3,none⟩,by simp[h],fun t u hu =>?_⟩
   rw[Addr.add_lit,cell_of_row w.drew b _ vs T (0,0) hb];exact hget t u hu
 have mixed:Tryz.prog.follows .mixedOrders=true:=by kernel_rfl
 have hs3:ti.size=3:=hf.size;have s1:Hid (news.length=(n-j)*3):=hlen;have s2:Hid (∀u∈news,u.oneCell'=true):=by
  intro u hu;obtain⟨t,ht⟩:=List.getElem?_of_mem hu;have:=bG ht;exact h1 (j*3+t) u (by omega) (hget t u ht)
 have s3:Hid (∀t,t<news.length->(w.drew.cell? ⟨b,0+i*3+t,none⟩).isSome=true/\w.drew.frozen? ⟨b,0+i*3+t,none⟩=false):=by
  intro t ht;rw[hlen]at ht;refine⟨?_,de (w:=w.drew) hb _⟩;rw[cell_of_row w.drew b _ vs T (0,0) hb,Array.getElem?_eq_getElem (by omega)];rfl
 obtain⟨W1,hW1⟩:∃W1,W1=w.drew.setCells b (0+i*3) news:=⟨_,rfl⟩
 have hW:Hid (W1=w.drew.setCells b (0+i*3) news):=hW1;have hic:i<=cap:=by omega
 have hjc:j<=cap:=by omega
 have hne:¬((i:Int)=(j:Int)):=by omega
 have hzv:∀w,(zeroValue 53).run Tryz.prog w=.ok z w:=fun w=>by simp[zeroValue,typeInfo,hf.info,hz]
 have hz0:=kY (S:=aA (fun _ _=>False) ⟨[],[],0⟩ (fun _=>⟨.nilIface,[]⟩) w) (cx:=Tryz.B) hzr;have hzs:z.cells.size=3:=by
  rw[<-df];exact hz0.length.symm.trans (iR aC)
 obtain⟨vs1,v1,v2,v3⟩:=vX (b:=b) (T:=T) news (0+i*3) w.drew vs hb (by omega);rw[<-hW1]at v1;have fT:=CO (P:=Tryz.prog) W1 114 53 0 z Tryz.underlying114 hzv (fun u hu=>(Bv (eT:=Tryz.B.eT) (A:=fun _ _=>False) (w:=w) hzr (by kernel_rfl)).lk u (by simpa using hu)) b ((i+(n-j))*3) (n-(i+(n-j))) (cap-(i+(n-j))) (by omega)
  (fun t ht=>by rw[hzs]at ht;rw[cell_of_row W1 b _ vs1 T (0,0) v1,Array.getElem?_eq_getElem (by omega)];rfl) (fun t ht=>de v1 _)
 obtain⟨W2,hW2⟩:∃W2,W2=W1.setCells b ((i+(n-j))*3) (cm z.cells (n-(i+(n-j)))).toList:=⟨_,rfl⟩
 rw[<-hW2]at fT;have hzl:(cm z.cells (n-(i+(n-j)))).toList.length=(n-(i+(n-j)))*3:=by rw[df,size_zeroCells,hzs]
 obtain⟨vs2,u1,u2,u3⟩:=vX (b:=b) (T:=T) (cm z.cells (n-(i+(n-j)))).toList ((i+(n-j))*3) W1 vs1 v1 (by omega);rw[<-hW2]at u1;have hfin:Hid (W2.os=w.os/\W2.output=w.output/\W2.heap.size=w.heap.size/\(∀k,k≠b->W2.heap[k]?=w.heap[k]?)/\
       ∃vs',W2.heap[b]?=some (Obj.cells vs' T (0,0))/\vs'.size=vs.size/\∀k,k<(i+(n-j))*3->vs'[k]?=vs[if k<i*3 then k else k+(j-i)*3]?):=by
  refine⟨by rw[hW2,hW1,eu,eu];rfl,by rw[hW2,hW1,ew,ew];rfl,by rw[hW2,hW1,j9,j9];rfl,fun k hk =>?_,vs2,u1,by omega,fun k hk =>?_⟩
  ·by_cases hlt:k<w.heap.size
   ·rw[hW2,ey _ _ _ _ (by rw[hW1,j9];exact hlt) hk,hW1,ey w.drew _ _ _ (show k<w.drew.heap.size from hlt) hk];rfl
   ·rw[Array.getElem?_eq_none (by rw[hW2,hW1,j9,j9];show w.heap.size<=k;omega),Array.getElem?_eq_none (by omega)]
  ·rw[u3,if_pos hk,v3]
   by_cases c:k<i*3
   ·rw[if_pos (by omega),if_pos c]
   ·rw[if_neg (by omega),if_pos (by omega),if_neg c,hnews,List.getElem?_take,if_pos (by omega),List.getElem?_drop,Array.getElem?_toList]
    congr 1;omega
 have fT:Hid ((dx #[114] 0 #[.slice (some ⟨b,(i+(n-j))*3,none⟩) (n-(i+(n-j))) (cap-(i+(n-j)))]).run Tryz.prog W1=.ok (.tuple #[]) W2):=fT;have fT:=fT.out;clear hW1 hget hnews hlen h1 hW2 u1 u2 u3 v1 v2 v3 hzl
 go_enter Tryz.func56,Tryz.ntmps56
 go_wp2_with fail
 go_region_law_o (refine step_append_room rfl (.tmp 22) (.tmp 25) 114 rfl 53 ti 3 Tryz.underlying114 hf.info hs3 b 0 i cap (by simp[Act.eval,Act.put]) A (n-j) (cap-j) news (by simp[Act.eval,Act.put,hA]) s1.out hsrc.out s2.out (by omega) s3.out ?_;rw[<-hW.out])
 go_wp2
 go_ret
 exact⟨rfl,hfin.out⟩
end Go.Proofs.YtgokjhhcfemnhadGreatDoor

namespace Go.Proofs.YtgokjhhcfemnhadGreatDoor
open Go.Vg Go.Mrl
def Tryz.W9:∃fn,Tryz.prog.funcs[56]?=some fn/\fn.body.isNone=false/\(fn.name == "runtime.NumGoroutine")=false:=⟨_,Tryz.func56,by kernel_rfl,by kernel_rfl⟩
def Tryz.Lz:List (FuncId×(Bool×aT)):=[(47,Tryz.spZ10),(56,(false,Dy aC)),(48,Tryz.spZ11),(50,Tryz.spZ13)]
def Tryz.Q5:bO Tryz.prog Tryz.B Tryz.X Tryz.Lz:=
 aQ (eQ (bR Tryz.bQ) Tryz.func47 (by kernel_rfl) []) (aQ (Nz Tryz.W9 Tryz.WI) (aQ (Tryz.DF) (aQ (Tryz.Lu) (bR Tryz.bQ))))
def VL{x:Sh}{s:aD}(h:¬0<=eC x.1.2.1 s):dH x s=(x,5):=by unfold dH;rw[if_neg h]
def TP{x:Sh}{s:aD}(h:0<=eC x.1.2.1 s):dH x s=qn x (x.1.2.1.take (eC x.1.2.1 s).toNat++x.1.2.1.drop (eC x.1.2.1 s+1).toNat):=by
 unfold dH;rw[if_pos h,List.eraseIdx_eq_take_drop_succ,show(eC x.1.2.1 s+1).toNat=(eC x.1.2.1 s).toNat+1 by omega]
def Tryz.Bd:List (Alt Tryz.bT [.obj 0,.d .str]):=[{bN:=Tryz.bT,res:=[.d .err],out:=fun a x=>(dH x a.1).1,ret:=fun a x=>(aI (dH x a.1).2,())}]
def VM(s:List UInt8)(r:Int)(o:List (D aC))(d:Dk)(hw:gI [.obj 0,.d .str] (s,()))(hp:(fun _ x=>x.1.2.1.length<=100/\0<=(x.1.1:Int)/\(x.1.1:Int)<=1000000000/\dA x.2 1000000) (s,()) ((r,o,()),d)):(cR Tryz.B Tryz.Lz Tryz.f38 [] Tryz.bT [.obj 0,.d .str] Tryz.Bd (s,()) ((r,o,()),d)).holds:=by
 refine holds_of (p:=
  let za:=d.2.2.2.1=d.2.2.2.1
  let zb:=eC o s
  let zc:=((r,o,()),d)
  let zd:=(dH zc s).1
  let ze:=(aI (dH zc s).2,())
  let zf:=bb o
  let zg:=zb+1
  let zh:=bd (bf zb) o++bj (bf zg) o
  let zi:=eK d r zh
  let zj:=zi.1.2.2.2.1
  za/\True/\(True->((decide (zb<0))=true->za/\True/\zc=zd/\(aL.no 5,())=ze)/\((decide (zb<0))=false->∀E:Bool,(0<zf->E=false)->(E=true->aJ zb->aJ 1->aJ zg/\False)/\(E=false->zf<=1000000000/\(aJ zb->aJ 1->aJ zg/\(0<=zb/\zb<zg/\zg<=(↑zf:Int))/\za/\(bb zh<=100/\0<=r/\r<=1000000000/\dA d 1000000)/\(True->zj=zj/\True/\(if zi.2=0 then(r+1,zh,())else(r,o,()),zi.1)=zd/\(aI zi.2,())=ze)))))) (by kernel_rfl) ?_
 dsimp -iota -proj -eta only;dsimp only at hp;exact⟨rfl,ba,fun h0=>iL (fun h1=>(by rw[VL (x:=((r,o,()),d)) (show ¬0<=eC o s by omega)];exact⟨rfl,ba,rfl,rfl⟩)) (fun h1 E q_0=>⟨fun h2 h3 h4=>⟨(by exfalso;have:=xH q_0 h2;subst this;exact oW s (by omega)),(by have:=xH q_0 h2;subst this;exact oW s (by omega))⟩,fun h2=>⟨(by omega),fun h3 h4=>⟨(by have:=p3 o s;have hh:o.length<=100:=hp.1;unfold aJ;omega),(by have:=p3 o s;exact⟨by omega,by omega,by omega⟩),rfl,(by have hh:o.length<=100:=hp.1;refine⟨?_,hp.2⟩;rw[bt,b5,dw];omega),fun h5=>(by rw[TP (x:=((r,o,()),d)) (show 0<=eC o s by omega)];exact⟨rfl,ba,rfl,rfl⟩)⟩⟩⟩)⟩
def Tryz.VN:bX Tryz.prog Tryz.B.eT Tryz.X 38 false (aV Tryz.bT [.obj 0,.d .str] (fun _ x=>x.1.2.1.length<=100/\0<=(x.1.1:Int)/\(x.1.1:Int)<=1000000000/\dA x.2 1000000) Tryz.Bd):=
 bE (X:=Tryz.X) Tryz.Q5 Tryz.func38 (by kernel_rfl) (fun(a:CD [.obj 0,.d .str]) (x:PD Tryz.bT)=>[]) (fun(a:CD [.obj 0,.d .str]) (x:PD Tryz.bT) hw hp=>VM a.1 x.1.1 x.1.2.1 x.2 hw hp)
def Tryz.spZ20:Bool×aT:=(false,aV Tryz.bD [.obj 0] (fun _ x=>dA x 1000000/\∀i,i<x.2.2.1.length->(nth .str x.2.2.1 i).length=64) Tryz.Bc)
def Tryz.CP:List (FuncId×(Bool×aT)):=[(45,Tryz.spZ0),(17,Tryz.spZ1),(70,Tryz.spZ8),(58,(false,aV Tryz.bD [.obj 0,.d (.int .i64)] (fun _ _=>True) Tryz.A7)),(71,Tryz.spZ9),(18,(false,aV Tryz.bD [.obj 0,.d (.int .i64)] (fun _ _=>True) Tryz.DE)),(19,Tryz.spZ19),(57,Tryz.spZ18),(20,(false,aV Tryz.bD [.obj 0,.d (.int .u64)] (fun _ x=>x.2.1.length=x.2.2.1.length/\∀i,i<x.2.2.2.1.length->0<=((nth jr x.2.2.2.1 i).1:Int)/\((nth jr x.2.2.2.1 i).1:Int)<x.2.2.1.length) Tryz.tz)),(43,(false,aV [] [.d (.int .i64)] (fun _ _=>True) Tryz.A9)),(39,Tryz.spZ20),(44,(false,aV Tryz.bD [.obj 0] (fun _ x=>dA x 1000000) Tryz.vG))]
def Tryz.IX:bO Tryz.prog Tryz.B Tryz.X Tryz.CP:=
 aQ (aE Tryz.jl) (aQ (aE Tryz.im) (aQ (Tryz.xP) (aQ (Tryz.TF) (aQ (Tryz.xR) (aQ (Tryz.Vz) (aQ (Tryz.IP) (aQ (Tryz.tx) (aQ (Tryz.Kj) (aQ (Tryz.VB) (aQ (Tryz.Ly) (aQ (Tryz.Q3) (bR Tryz.bQ))))))))))))
def Tryz.tA:List (Alt [] []):=[{bN:=Tryz.bT,res:=[.obj 1,.obj 0,.d .bool],out:=fun _ _=>jk,ret:=fun _ _=>(true,())}]
def NV  (hw:gI [] ()):(cR Tryz.B Tryz.CP Tryz.f25 [] [] [] Tryz.tA () ()).holds:=by
 refine holds_of (p:=
  let za:=ch 112 (eJ (@bc UInt8))
  let zb:=(((-1:Int),false,()),za,za,[],())
  let zc:=(iP zb).1
  let zd:=zc.2.2.2.1=zc.2.2.2.1
  let ze:=(dP zc).2
  let zf:=(((dP zc).1.1,(dP zc).1.2,()),zc)=jk
  let zg:=(true,())
  True/\(((112:Int)<(1:Int)\/(120:Int)<(112:Int))->((!aL.isNil (aL.no (1:Int)))=true->False)/\((!aL.isNil (aL.no (1:Int)))=false->False))/\((1:Int)<=(112:Int)/\(112:Int)<=(120:Int)->((!aL.isNil aL.nil)=true->False)/\((!aL.isNil aL.nil)=false->(@bc (Int×List UInt8×Unit)=@bc (Int×List UInt8×Unit))/\dA zb 1000000/\(True->((!aL.isNil (aI (iP zb).2))=true->False)/\((!aL.isNil (aI (iP zb).2))=false->zd/\(dA zc 1000000/\∀(i:Nat),i<bb zc.2.2.1->bb (nth Ty.str zc.2.2.1 i)=64)/\(ze≠(0:Int)->((aL.isNil (aI ze))=true->False)/\((aL.isNil (aI ze))=false->False))/\(ze=(0:Int)->((aL.isNil aL.nil)=true->zd/\True/\zf/\zg=zg)/\((aL.isNil aL.nil)=false->zd/\True/\zf/\(false,())=zg))))))) (by kernel_rfl) ?_
 dsimp -iota -proj -eta only;refine⟨ba,⟨fun h0=>⟨fun h1=>(by trivial),fun h1=>absurd (show true=false from h1) (by decide)⟩,fun h0=>⟨fun h1=>absurd (show false=true from h1) (by decide),fun h1=>⟨rfl,⟨dh _,b6 _,rfl⟩,fun h2=>iB (fun h3=>(dK h3 ((qK (r8 (dh _)))).1)) (fun h3=>⟨rfl,⟨((qK (r8 (dh _)))).2.vy,((qK (r8 (dh _)))).2.gJ.sec⟩,⟨fun h4=>⟨fun h5 =>?a,fun h5 =>?b⟩,fun h4=>⟨fun h5=>⟨rfl,ba,Prod.ext jE.again rfl,rfl⟩,fun h5=>absurd (show true=false from h5) (by decide)⟩⟩⟩)⟩⟩⟩⟩
 case a|b=>exact h4 jE.DB
def Tryz.NW:bX Tryz.prog Tryz.B.eT Tryz.X 25 false (aV [] [] (fun _ _=>True) Tryz.tA):=
 bE (X:=Tryz.X) Tryz.IX Tryz.func25 (by kernel_rfl) (fun(a:CD []) (x:PD [])=>[]) (fun(a:CD []) (x:PD []) hw hp=>NV  hw)
@[reducible] def Tryz.aW:List Ob:=[.box 93 [.obj 1,.d (.int .i64)],.ext 1 (iT cJ)]
def Tryz.IY:List (FuncId×(Bool×aT)):=[(45,Tryz.spZ0),(17,Tryz.spZ1)]
def Tryz.NX:bO Tryz.prog Tryz.B Tryz.X Tryz.IY:=
 aQ (aE Tryz.jl) (aQ (aE Tryz.im) (bR Tryz.bQ))
def Tryz.DK:List (Alt [] []):=[{bN:=Tryz.aW,res:=[.obj 0],out:=fun _ _=>ql,ret:=fun _ _=>()}]
def VO  (hw:gI [] ()):(cR Tryz.B [] Tryz.f26 [] [] [] Tryz.DK () ()).holds:=by
 refine holds_of (p:=
  True/\((0,()),([],0,()),())=ql/\()=()) (by kernel_rfl) ?_
 exact⟨ba,rfl,rfl⟩
def Tryz.LA:bX Tryz.prog Tryz.B.eT Tryz.X 26 false (aV [] [] (fun _ _=>True) Tryz.DK):=
 bE (X:=Tryz.X) (bR Tryz.bQ) Tryz.func26 (by kernel_rfl) (fun(a:CD []) (x:PD [])=>[]) (fun(a:CD []) (x:PD []) hw hp=>VO  hw)
def Tryz.xT:List (Alt Tryz.aW [.obj 0,.d .str]):=[{bN:=Tryz.aW,res:=[.d .str,.d (.int .i64),.d .err],out:=fun _ x=>x,ret:=fun a x=>((aK x a.1).1,(aK x a.1).2.1,aI (aK x a.1).2.2,())}]
def TQ(s:List UInt8)(f:cN)(hw:gI [.obj 0,.d .str] (s,())):(cR Tryz.B [] Tryz.f13 [] Tryz.aW [.obj 0,.d .str] Tryz.xT (s,()) f).holds:=by
 refine holds_of (p:=
  let za:=Ty.prod Ty.str (Ty.prod (Ty.int bm) Ty.unit)
  let zb:=(aK f s).2
  let zc:=((aK f s).1,zb.1,aI zb.2,())
  let zd:=iU za f.2.1.1 s
  ((!cW za f.2.1.1 s)=true->True/\f=f/\([],0,aL.no 5,())=zc)/\((!cW za f.2.1.1 s)=false->True/\f=f/\(zd.1,zd.2.1,aL.nil,())=zc)) (by kernel_rfl) ?_
 dsimp -iota -proj -eta only;exact iB (fun h0=>(by exact⟨ba,rfl,by rw[lL h0];rfl⟩)) (fun h0=>(by exact⟨ba,rfl,by rw[pr h0];rfl⟩))
def Tryz.sf:bX Tryz.prog Tryz.B.eT Tryz.X 13 false (aV Tryz.aW [.obj 0,.d .str] (fun _ _=>True) Tryz.xT):=
 bE (X:=Tryz.X) (bR Tryz.bQ) Tryz.func13 (by kernel_rfl) (fun(a:CD [.obj 0,.d .str]) (x:PD Tryz.aW)=>[]) (fun(a:CD [.obj 0,.d .str]) (x:PD Tryz.aW) hw hp=>TQ a.1 x hw)
def Tryz.vH:List (Alt Tryz.aW [.obj 0,.d .str,.d .str]):=[{bN:=Tryz.aW,res:=[.d .err],out:=fun a x=>(cK x a.1 a.2.1).1,ret:=fun a x=>(aI (cK x a.1 a.2.1).2,())}]
def Q6(s:List UInt8)(t:List UInt8)(f:cN)(hw:gI [.obj 0,.d .str,.d .str] (s,t,()))(hp:(fun _ x=>x.2.1.1.length<=6/\0<=x.1.1/\x.1.1<=1000000) (s,t,()) f):(cR Tryz.B Tryz.IY Tryz.f27 [] Tryz.aW [.obj 0,.d .str,.d .str] Tryz.vH (s,t,()) f).holds:=by
 refine holds_of (p:=
  let za:=aI (aO s)
  let zb:=cK f s t
  let zc:=f=zb.1
  let zd:=(aI zb.2,())
  let ze:=Ty.prod Ty.str (Ty.prod (Ty.int bm) Ty.unit)
  let zf:=f.2.1.1
  let zg:=True/\zc/\(aL.no 8,())=zd
  let zh:=f.1.1+1
  let zi:=((f.1.1 == 1000000)=true->zg)/\((f.1.1 == 1000000)=false->aJ f.1.1->aJ 1->aJ zh/\bb zf<aM/\True/\((zh,()),(eU ze zf s (t,zh,()) f.2.1.2.1,mR ze zf s f.2.1.2.1,()),())=zb.1/\(aL.nil,())=zd)
  True/\((!aL.isNil za)=true->True/\zc/\(za,())=zd)/\((!aL.isNil za)=false->bb t<=aM->((decide ((↑(bb t):Int) > 1200))=true->True/\zc/\(aL.no 2,())=zd)/\((decide ((↑(bb t):Int) > 1200))=false->((!cW ze zf s)=true->(((↑(bb zf):Int) == 6)=true->zg)/\(((↑(bb zf):Int) == 6)=false->zi))/\((!cW ze zf s)=false->zi)))) (by kernel_rfl) ?_
 dsimp -iota -proj -eta only;refine⟨ba,iB (fun h0 =>?a) (fun h0 h1=>iL (fun h2=>(by rw[xf (aP.1 ‹_›) (by omega)];exact⟨ba,rfl,rfl⟩)) (fun h2=>iB (fun h3=>iQ (fun h4 =>?b) (fun h4=>iQ (fun h5 =>?c) (fun h5 h6 h7=>⟨?d,?e,?f⟩))) (fun h3=>iQ (fun h4 =>?g) (fun h4 h5 h6=>⟨?h,?i,?j⟩))))⟩
 case a=>
  have hn:¬aO s=0:=(fun e=>by rw[aP.2 e]at h0;cases h0);rw[xe hn];exact⟨ba,rfl,rfl⟩
 case b|c|g=>rw[xg (aP.1 ‹_›) (by omega) (by first|exact .inr (by omega)|exact .inl ⟨by assumption,by omega⟩)];exact⟨ba,rfl,rfl⟩
 case d|e|h|i=>simp only[aJ,aM]at*;omega
 case f|j=>rw[B4 (aP.1 ‹_›) (by omega) (by rintro(⟨e1,e2⟩|e);(first|omega|exact ct (e1.symm.trans (show cW cJ f.2.1.1 s=true by assumption)));omega)];exact⟨ba,rfl,rfl⟩
def Tryz.Fu:bX Tryz.prog Tryz.B.eT Tryz.X 27 false (aV Tryz.aW [.obj 0,.d .str,.d .str] (fun _ x=>x.2.1.1.length<=6/\0<=x.1.1/\x.1.1<=1000000) Tryz.vH):=
 bE (X:=Tryz.X) Tryz.NX Tryz.func27 (by kernel_rfl) (fun(a:CD [.obj 0,.d .str,.d .str]) (x:PD Tryz.aW)=>[]) (fun(a:CD [.obj 0,.d .str,.d .str]) (x:PD Tryz.aW) hw hp=>Q6 a.1 a.2.1 x hw hp)
def Tryz.tB:List (Alt Tryz.aW [.obj 0,.d .str]):=[{bN:=Tryz.aW,res:=[.d .err],out:=fun a x=>(fF x a.1).1,ret:=fun a x=>(aI (fF x a.1).2,())}]
def NY(s:List UInt8)(f:cN)(hw:gI [.obj 0,.d .str] (s,())):(cR Tryz.B [] Tryz.f28 [] Tryz.aW [.obj 0,.d .str] Tryz.tB (s,()) f).holds:=by
 refine holds_of (p:=
  let za:=Ty.prod Ty.str (Ty.prod (Ty.int bm) Ty.unit)
  let zb:=fF f s
  let zc:=(aI zb.2,())
  ((!cW za f.2.1.1 s)=true->True/\f=zb.1/\(aL.no 5,())=zc)/\((!cW za f.2.1.1 s)=false->True/\(f.1,(fU za f.2.1.1 s,f.2.1.2),())=zb.1/\(aL.nil,())=zc)) (by kernel_rfl) ?_
 dsimp -iota -proj -eta only;exact iB (fun h0=>(by rw[mz h0];exact⟨ba,rfl,rfl⟩)) (fun h0=>(by rw[lD h0];exact⟨ba,rfl,rfl⟩))
def Tryz.CQ:bX Tryz.prog Tryz.B.eT Tryz.X 28 false (aV Tryz.aW [.obj 0,.d .str] (fun _ _=>True) Tryz.tB):=
 bE (X:=Tryz.X) (bR Tryz.bQ) Tryz.func28 (by kernel_rfl) (fun(a:CD [.obj 0,.d .str]) (x:PD Tryz.aW)=>[]) (fun(a:CD [.obj 0,.d .str]) (x:PD Tryz.aW) hw hp=>NY a.1 x hw)
@[reducible] def Tryz.sg:List Ob:=[.box 4 [.d .bool]]
@[reducible] def Tryz.oY:List Ob:=[.box 84 [.obj 1,.obj 2,.obj 3,.obj 4],.tok .str,.tok (.int .i64),.tok aS,.tok bC,.box 4 [.d .bool]]
def Tryz.vI:List (Alt Tryz.sg [.d .str,.obj 0]):=[{bN:=Tryz.sg,res:=[.d (.int .i64)],out:=fun a x=>((x.1.1 || (cS a.1).isNone,()),()),ret:=fun a _=>((dZ a.1).1,())}]
def Tryz.Fv:List (FuncId×(Bool×aT)):=[(84,Tryz.spZ2),(103,Tryz.spZ14),(81,Tryz.spZ15),(52,Tryz.spZ16),(51,Tryz.spZ17)]
def Tryz.Kq:bO Tryz.prog Tryz.B Tryz.X Tryz.Fv:=
 aQ (aE Tryz.oO) (aQ (aE Tryz.sd) (aQ (aE Tryz.np) (aQ (aE Tryz.mv) (aQ (aE Tryz.se) (bR Tryz.bQ)))))
def NZ(s:List UInt8)(b:Bool)(hw:gI [.d .str,.obj 0] (s,()))(hp:(fun a _=>a.1.length<=1000000) (s,()) ((b,()),())):(cR Tryz.B Tryz.Fv Tryz.f82 [] Tryz.sg [.d .str,.obj 0] Tryz.vI (s,()) ((b,()),())).holds:=by
 refine holds_of (p:=
  let za:=((b || ck (cS s),()),())
  let zb:=((dZ s).1,())
  let zc:=True/\((true,()),())=za/\zb=zb
  bb s<=281474976710656/\(b=true->zc)/\(b=false->((!aL.isNil (dZ s).2)=true->zc)/\((!aL.isNil (dZ s).2)=false->True/\True/\((!bp (dZ s).1 == s,()),())=za/\zb=zb))) (by kernel_rfl) ?_
 dsimp -iota -proj -eta only;dsimp only at hp;exact⟨(by omega),⟨fun h0=>(by simp_all),fun h0=>iB (fun h1=>(by exact⟨ba,by rw[qD,h1];simp,rfl⟩)) (fun h1=>⟨ba,(by exact⟨ba,by rw[qD,h1];cases b <;> simp_all <;> (rw[dy];simp),rfl⟩)⟩)⟩⟩
def Tryz.N0:bX Tryz.prog Tryz.B.eT Tryz.X 82 false (aV Tryz.sg [.d .str,.obj 0] (fun a _=>a.1.length<=1000000) Tryz.vI):=
 bE (X:=Tryz.X) Tryz.Kq Tryz.func82 (by kernel_rfl) (fun(a:CD [.d .str,.obj 0]) (x:PD Tryz.sg)=>[]) (fun(a:CD [.d .str,.obj 0]) (x:PD Tryz.sg) hw hp=>NZ a.1 x.1.1 hw hp)
def Tryz.Be:List (Alt Tryz.oY [.obj 0,.d .str,.obj 5]):=[{bN:=Tryz.oY,res:=[],out:=fun a x=>PH (gF (SP x) x.2.2.2.2.2.1.1 a.1),ret:=fun _ _=>()}]
def Tryz.LB:List (FuncId×(Bool×aT)):=[(84,Tryz.spZ2),(103,Tryz.spZ14),(81,Tryz.spZ15),(52,Tryz.spZ16),(51,Tryz.spZ17),(82,(false,aV Tryz.sg [.d .str,.obj 0] (fun a _=>a.1.length<=1000000) Tryz.vI))]
def Tryz.Q7:bO Tryz.prog Tryz.B Tryz.X Tryz.LB:=
 aQ (aE Tryz.oO) (aQ (aE Tryz.sd) (aQ (aE Tryz.np) (aQ (aE Tryz.mv) (aQ (aE Tryz.se) (aQ (Tryz.N0) (bR Tryz.bQ))))))
def LC(s:List UInt8)(_:List (List UInt8))(_:List Int)(_:List (D aS))(_:List (D bC))(_:Bool):dY:=[
 (300001,fun st=>{X:=List (List UInt8),inv:=fun w=>w=parts 32 (cb s dW),cD:=fun _=>0,bM:=fun w=>[(7,sD (.slice .str) w)],keep:=[0,2,6]}),
 (300003,fun st=>{X:=Bool,inv:=fun c=>c=true↔(nth .str (cX (.slice .str) st 7) 0=kv/\bb (cX (.slice .str) st 7)=2),cD:=fun _=>0,bM:=fun c=>[(18,sB c)],keep:=[0,2,6,7]}),
 (300005,fun st=>{X:=Bool,inv:=fun c=>c=true↔(nth .str (cX (.slice .str) st 7) 0=jW/\bb (cX (.slice .str) st 7)=2),cD:=fun _=>0,bM:=fun c=>[(40,sB c)],keep:=[0,2,6,7]}),
 (300007,fun st=>{X:=Bool,inv:=fun c=>c=true↔(nth .str (cX (.slice .str) st 7) 0=ji/\bb (cX (.slice .str) st 7)=3),cD:=fun _=>0,bM:=fun c=>[(64,sB c)],keep:=[0,2,6,7]}),
 (300009,fun st=>{X:=Bool,inv:=fun c=>c=true↔(nth .str (cX (.slice .str) st 7) 0=mK/\bb (cX (.slice .str) st 7)=3),cD:=fun _=>0,bM:=fun c=>[(93,sB c)],keep:=[0,2,6,7]}),
 (300011,fun st=>{X:=Bool,inv:=fun c=>c=true↔((nth .str (cX (.slice .str) st 7) 0=lE\/nth .str (cX (.slice .str) st 7) 0=lh)/\bb (cX (.slice .str) st 7)=4),cD:=fun _=>0,bM:=fun c=>[(123,sB c)],keep:=[0,2,6,7]})]
def TR(s:List UInt8)(n:List (List UInt8))(w:List Int)(y:List (D aS))(t:List (D bC))(b:Bool)(hw:gI [.obj 0,.d .str,.obj 5] (s,()))(hp:(fun a x=>a.1.length<=1000000/\x.2.1.length<=1000000/\x.2.2.1.length<=1000000/\x.2.2.2.1.length<=1000000/\x.2.2.2.2.1.length<=1000000) (s,()) ((),n,w,y,t,(b,()),())):(cR Tryz.B Tryz.LB Tryz.f53 (LC s n w y t b) Tryz.oY [.obj 0,.d .str,.obj 5] Tryz.Be (s,()) ((),n,w,y,t,(b,()),())).holds:=by
 refine holds_of (p:=
  let za:=[(119:UInt8),101,97,107,32]
  let zb:=cb s za
  let zc:=parts (32:UInt8) (cb s dW)
  let zd:=n=n
  let ze:=w=w
  let zf:=y=y
  let zg:=t=t
  let zh:=(zd/\ze/\zf/\zg/\True)/\zd/\ze/\zf/\zg/\(b=b/\True)/\True
  let zi:=fun(E:List (List UInt8))=>(↑(bb E):Int)
  let zj:=fun(E:List (List UInt8))=>(0:Int)<=(0:Int)/\(0:Int)<zi E
  let zk:=fun(E:List (List UInt8))=>nth Ty.str E 0
  let zl:=fun(E:List (List UInt8))=>bb E<=aM
  let zm:=fun(E:List (List UInt8))=>zk E=kv/\bb E=2
  let zn:=fun(E:List (List UInt8))=>(0:Int)<=(1:Int)/\(1:Int)<zi E
  let zo:=fun(E:List (List UInt8))=>nth Ty.str E 1
  let zp:=(w,y,t,(b,()),())
  let zq:=PH (gF (SP ((),n,zp)) b s)
  let zr:=()=()
  let zs:=fun(E:List (List UInt8))=>zk E=jW/\bb E=2
  let zt:=fun(E:List (List UInt8))=>bb (zo E)<=1000000
  let zu:=fun(E:List (List UInt8))=>(dZ (zo E)).1
  let zv:=fun(E:List (List UInt8))=>zk E=ji/\bb E=3
  let zw:=fun(E:List (List UInt8))=>(0:Int)<=(2:Int)/\(2:Int)<zi E
  let zx:=fun(E:List (List UInt8))=>nth Ty.str E 2
  let zy:=fun(E:List (List UInt8))=>bb (zx E)<=1000000
  let zz:=(cz s za,())
  let zaa:=fun(E:List (List UInt8))=>[(zo E,(dZ (zx E)).1,zz)]
  let zab:=fun(E:List (List UInt8))=>zk E=mK/\bb E=3
  let zac:=bb t
  let zad:=fun(E:List (List UInt8))=>[(zu E,(1:Int),(dZ (zx E)).1,@bc UInt8,false,())]
  let zae:=fun(E:List (List UInt8))=>((b || ck (cS (zo E)) || ck (cS (zx E)),()),())
  let zaf:=fun(E:List (List UInt8))=>zy E/\(True->(zg/\zac+bb (zad E)<=1000000000)/\zd/\ze/\zf/\t++zad E=t++zad E/\True/\((),n,w,y,t++zad E,zae E)=zq/\zr)
  let zag:=fun(E:List (List UInt8))=>(zk E=lE\/zk E=lh)/\bb E=4
  let zah:=fun(E:List (List UInt8))=>zl E->∃(x':Bool),(x'=true↔zag E)/\((zi E == (4:Int))=x'/\True)/\zh
  let zai:=fun(E:List (List UInt8))=>zk E == [(110:UInt8),101,97,114]
  let zaj:=fun(E:List (List UInt8))=>(0:Int)<=(3:Int)/\(3:Int)<zi E
  let zak:=fun(E:List (List UInt8))=>((dZ (zx E)).1,nth Ty.str E 3,zz)
  let zal:=fun(E:List (List UInt8))=>t++[(zu E,(3:Int),zak E)]
  let zam:=fun(E:List (List UInt8))=>zy E/\(True->(zg/\zac+bb [(zu E,(3:Int),zak E)]<=1000000000)/\zd/\ze/\zf/\zal E=zal E/\True/\((),n,w,y,zal E,zae E)=zq/\zr)
  let zan:=fun(E:List (List UInt8))=>t++[(zu E,(2:Int),zak E)]
  let zao:=fun(E:List (List UInt8))=>zy E/\(True->(zg/\zac+bb [(zu E,(2:Int),zak E)]<=1000000000)/\zd/\ze/\zf/\zan E=zan E/\True/\((),n,w,y,zan E,zae E)=zq/\zr)
  True/\((bb zb<4294967281/\bb [(32:UInt8)]=1)/\∃(x':List (List UInt8)),x'=zc/\(parts (32:UInt8) zb=x'/\True)/\zh)/\∀E:List (List UInt8),E=zc->(zj E/\((zk E == [(110:UInt8),101,101,100])=true->zl E->∃(x':Bool),(x'=true↔zm E)/\((zi E == (2:Int))=x'/\True)/\zh)/\((zk E == [(110:UInt8),101,101,100])=false->∃(x':Bool),(x'=true↔zm E)/\(false=x'/\True)/\zh))/\∀F:Bool,(F=true↔zm E)->(F=true->zn E/\(zd/\bb n+bb [zo E]<=1000000000)/\n++[zo E]=n++[zo E]/\ze/\zf/\zg/\True/\((),n++[zo E],zp)=zq/\zr)/\(F=false->(zj E/\((zk E == [(119:UInt8),111,114,100])=true->zl E->∃(x':Bool),(x'=true↔zs E)/\((zi E == (2:Int))=x'/\True)/\zh)/\((zk E == [(119:UInt8),111,114,100])=false->∃(x':Bool),(x'=true↔zs E)/\(false=x'/\True)/\zh))/\∀G:Bool,(G=true↔zs E)->(G=true->zn E/\(fun a0:Prop=>a0/\a0) (zt E/\(True->(ze/\bb w+bb [zu E]<=1000000000)/\zd/\w++[zu E]=w++[zu E]/\zf/\zg/\True/\((),n,w++[zu E],y,t,(b || ck (cS (zo E)),()),())=zq/\zr)))/\(G=false->(zj E/\((zk E == [(115:UInt8),121,109,98,111,108])=true->zl E->∃(x':Bool),(x'=true↔zv E)/\((zi E == (3:Int))=x'/\True)/\zh)/\((zk E == [(115:UInt8),121,109,98,111,108])=false->∃(x':Bool),(x'=true↔zv E)/\(false=x'/\True)/\zh))/\∀I:Bool,(I=true↔zv E)->(I=true->zn E/\zw E/\(fun a0:Prop=>a0/\a0) (zy E/\(True->(zf/\bb y+bb (zaa E)<=1000000000)/\zd/\ze/\y++zaa E=y++zaa E/\zg/\True/\((),n,w,y++zaa E,t,(b || ck (cS (zx E)),()),())=zq/\zr)))/\(I=false->(zj E/\((zk E == [(98:UInt8),97,115,101])=true->zl E->∃(x':Bool),(x'=true↔zab E)/\((zi E == (3:Int))=x'/\True)/\zh)/\((zk E == [(98:UInt8),97,115,101])=false->∃(x':Bool),(x'=true↔zab E)/\(false=x'/\True)/\zh))/\∀K:Bool,(K=true↔zab E)->(K=true->zn E/\zw E/\(zt E/\(True->zaf E))/\zt E/\(True->(fun a0:Prop=>a0/\a0) (zaf E)))/\(K=false->(zj E/\((zk E == [(119:UInt8),104,111,108,101])=true->zah E)/\((zk E == [(119:UInt8),104,111,108,101])=false->zj E/\((zai E)=true->zah E)/\((zai E)=false->∃(x':Bool),(x'=true↔zag E)/\(false=x'/\True)/\zh)))/\∀M:Bool,(M=true↔zag E)->(M=true->zj E/\((zai E)=true->zn E/\zw E/\zaj E/\(zt E/\(True->zam E))/\zt E/\(True->(fun a0:Prop=>a0/\a0) (zam E)))/\((zai E)=false->zn E/\zw E/\zaj E/\(zt E/\(True->zao E))/\zt E/\(True->(fun a0:Prop=>a0/\a0) (zao E))))/\(M=false->zd/\ze/\zf/\zg/\True/\((),n,w,y,t,(true,()),())=zq/\zr)))))) (by kernel_rfl) ?_
 dsimp -iota -proj -eta only;dsimp only at hp;refine⟨ba,⟨⟨(by have:=HJ s [119,101,97,107,32];exact⟨by omega,rfl⟩),(⟨_,rfl,⟨rfl,ba⟩,(by trivial)⟩)⟩,fun E q_0=>⟨⟨?a,iQ (fun h0 h1 =>?b) (fun h0 =>?c)⟩,fun F q_1=>⟨fun h0=>⟨?d,?e,?f⟩,fun h0=>⟨⟨?g,iQ (fun h1 h2 =>?h) (fun h1 =>?i)⟩,fun G q_2=>⟨fun h1=>⟨?j,(show ∀{a0:Prop},a0->a0/\a0 from fun g0=>⟨g0,g0⟩) (⟨?k,fun h2=>⟨?l,?m⟩⟩)⟩,fun h1=>⟨⟨?n,iQ (fun h2 h3 =>?o) (fun h2 =>?p)⟩,fun I q_3=>⟨fun h2=>⟨?q,?r,(show ∀{a0:Prop},a0->a0/\a0 from fun g0=>⟨g0,g0⟩) (⟨?s,fun h3=>⟨?t,?u⟩⟩)⟩,fun h2=>⟨⟨?v,iQ (fun h3 h4 =>?w) (fun h3 =>?x)⟩,fun K q_4=>⟨fun h3=>⟨?y,?z,⟨⟨?a0,fun h4=>⟨?a1,fun h5=>⟨?a2,?a3⟩⟩⟩,⟨?a4,fun h4=>(show ∀{a0:Prop},a0->a0/\a0 from fun g0=>⟨g0,g0⟩) (⟨?a5,fun h5=>⟨?a6,?a7⟩⟩)⟩⟩⟩,fun h3=>⟨⟨?a8,iQ (fun h4 h5 =>?a9) (fun h4=>⟨?aa,iQ (fun h5 h6 =>?ab) (fun h5 =>?ac)⟩)⟩,fun M q_5=>⟨fun h4=>⟨?ad,iQ (fun h5=>⟨?ae,?af,?ag,⟨⟨?ah,fun h6=>⟨?ai,fun h7=>⟨?aj,?ak⟩⟩⟩,⟨?al,fun h6=>(show ∀{a0:Prop},a0->a0/\a0 from fun g0=>⟨g0,g0⟩) (⟨?am,fun h7=>⟨?an,?ao⟩⟩)⟩⟩⟩) (fun h5=>⟨?ap,?aq,?ar,⟨⟨?au,fun h6=>⟨?av,fun h7=>⟨?aw,?ax⟩⟩⟩,⟨?ay,fun h6=>(show ∀{a0:Prop},a0->a0/\a0 from fun g0=>⟨g0,g0⟩) (⟨?az,fun h7=>⟨?b0,?b1⟩⟩)⟩⟩⟩)⟩,fun h4 =>?b2⟩⟩⟩⟩⟩⟩⟩⟩⟩⟩⟩⟩
 case a|g|n|v|a8|aa|ad=>have:=SQ q_0;omega
 case b|c|h|i|o|p|w|x|a9|ab|ac=>exact⟨_,by(simp_all <;> omega),⟨rfl,ba⟩,(by trivial)⟩
 case d|j|q|r|y|z|ae|af|ag|ap|aq|ar=>simp_all
 case e|l|t|a2|a6|aj|an|aw|b0=>exact⟨rfl,by simp only[bu];omega⟩
 case f|m|u|a3|a7|ak|ao|ax|b1|b2=>
  refine⟨rfl,rfl,rfl,rfl,ba,?_,rfl⟩
  first
  |(rw[MY q_0 (q_1.1 ‹_›)];rfl)
  |(rw[MZ q_0 (l7 q_1 ‹_›) (q_2.1 ‹_›)];rfl)
  |(rw[PI q_0 (l7 q_1 ‹_›) (l7 q_2 ‹_›) (q_3.1 ‹_›)];rfl)
  |(rw[M0 q_0 (l7 q_1 ‹_›) (l7 q_2 ‹_›) (l7 q_3 ‹_›) (q_4.1 ‹_›)];rfl)
  |(rw[EK q_0 (l7 q_1 ‹_›) (l7 q_2 ‹_›) (l7 q_3 ‹_›) (l7 q_4 ‹_›) (q_5.1 ‹_›) (k:=3) (if_pos ‹_›).symm];rfl)
  |(rw[EK q_0 (l7 q_1 ‹_›) (l7 q_2 ‹_›) (l7 q_3 ‹_›) (l7 q_4 ‹_›) (q_5.1 ‹_›) (k:=2) (if_neg ‹_›).symm];rfl)
  |(rw[M1 q_0 (l7 q_1 ‹_›) (l7 q_2 ‹_›) (l7 q_3 ‹_›) (l7 q_4 ‹_›) (l7 q_5 ‹_›)];rfl)
 case k|a0|a4|ah|al|au|ay=>have:=Ld q_0 1;omega
 case s|a1|a5|ai|am|av|az=>have:=Ld q_0 2;omega
def Tryz.TS:bX Tryz.prog Tryz.B.eT Tryz.X 53 false (aV Tryz.oY [.obj 0,.d .str,.obj 5] (fun a x=>a.1.length<=1000000/\x.2.1.length<=1000000/\x.2.2.1.length<=1000000/\x.2.2.2.1.length<=1000000/\x.2.2.2.2.1.length<=1000000) Tryz.Be):=
 bE (X:=Tryz.X) Tryz.Q7 Tryz.func53 (by kernel_rfl) (fun(a:CD [.obj 0,.d .str,.obj 5]) (x:PD Tryz.oY)=>LC a.1 x.2.1 x.2.2.1 x.2.2.2.1 x.2.2.2.2.1 x.2.2.2.2.2.1.1) (fun(a:CD [.obj 0,.d .str,.obj 5]) (x:PD Tryz.oY) hw hp=>TR a.1 x.2.1 x.2.2.1 x.2.2.2.1 x.2.2.2.2.1 x.2.2.2.2.2.1.1 hw hp)
def TT(n:Int)(hw:gU [.int .i64] n):(dM Tryz.B [] Tryz.f104 [] [.int .i64] [.bool] (fun x y=>y=(fun n=>ib n) x) n).holds:=by
 refine holds_of (p:=
  ((decide (n>=(-2147483648:Int)))=true->decide (n<=2147483647)=ib n)/\((decide (n>=(-2147483648:Int)))=false->false=ib n)) (by kernel_rfl) ?_
 refine iE (fun h0 =>?a) (fun h0 =>?b)
 case a|b=>unfold ib;rw[dy];simp;omega
def Tryz.IZ:bY Tryz.prog Tryz.B.eT Tryz.X 104 [.int .i64] [.bool] (fun _=>True) (fun x y=>y=(fun n=>ib n) x):=
 cF (X:=Tryz.X) (bR Tryz.bQ) Tryz.func104 (by kernel_rfl) (fun _=>[]) (fun x hw hp=>TT x hw)
def Fw(l:List (List UInt8))(s:List UInt8):dY:=[(0,fun st=>{X:=Nat,inv:=fun i=>i<=l.length/\∀j,j<i->nth .str l j≠s,cD:=fun i=>l.length-i,bM:=fun i=>[(8,sI i)],keep:=[0,1,7]})]
def Q8(l:List (List UInt8))(s:List UInt8)(hw:gU [.slice .str,.str] (l,s)):(dM Tryz.B [] Tryz.f55 (Fw l s) [.slice .str,.str] [.int .i64] (fun x y=>(y= -1/\∀j,j<x.1.length->nth .str x.1 j≠x.2)\/(0<=y/\y.toNat<x.1.length/\nth .str x.1 y.toNat=x.2)) (l,s)).holds:=by
 refine holds_of (p:=
  let za:=bb l
  let zb:=(-1:Int)
  let zc:=∀(j:Nat),j<za->nth Ty.str l j≠s
  za<=aM->(∃(x:Nat),(x<=za/\∀(j:Nat),j<x->nth Ty.str l j≠s)/\(0=(↑x:Int)/\True)/\True)/\∀E:Nat,(E<=za/\∀(j:Nat),j<E->nth Ty.str l j≠s)->((decide ((↑E:Int)<(↑za:Int)))=true->(0<=(↑E:Int)/\(↑E:Int)<(↑za:Int))/\((s == nth Ty.str l E)=true->(↑E:Int)=zb/\zc\/0<=(↑E:Int)/\E<za/\nth Ty.str l E=s)/\((s == nth Ty.str l E)=false->aJ (↑E:Int)->aJ 1->aJ ((↑E:Int)+1)/\∃(x':Nat),(x'<=za/\∀(j:Nat),j<x'->nth Ty.str l j≠s)/\za-x'<za-E/\((↑E:Int)+1=(↑x':Int)/\True)/\True))/\((decide ((↑E:Int)<(↑za:Int)))=false->zb=zb/\zc\/0<=zb/\bf zb<za/\nth Ty.str l (bf zb)=s)) (by kernel_rfl) ?_
 dsimp -iota -proj -eta only;exact fun h0=>⟨(⟨0,⟨by omega,fun j hj=>by omega⟩,⟨rfl,ba⟩,ba⟩),fun E q_0=>iL (fun h1=>⟨(by omega),iQ (fun h2=>(by simp_all)) (fun h2 h3 h4=>⟨(by simp only[aJ,aM]at*;omega),(⟨E+1,⟨by omega,lY q_0.2 fun e=>(by assumption:¬_) e.symm⟩,by omega,⟨by omega,ba⟩,(by trivial)⟩)⟩)⟩) (fun h1=>(.inl ⟨rfl,fun j hj=>q_0.2 j (by omega)⟩))⟩
def Tryz.Q9:bY Tryz.prog Tryz.B.eT Tryz.X 55 [.slice .str,.str] [.int .i64] (fun _=>True) (fun x y=>(y= -1/\∀j,j<x.1.length->nth .str x.1 j≠x.2)\/(0<=y/\y.toNat<x.1.length/\nth .str x.1 y.toNat=x.2)):=
 cF (X:=Tryz.X) (bR Tryz.bQ) Tryz.func55 (by kernel_rfl) (fun x=>Fw x.1 x.2) (fun x hw hp=>Q8 x.1 x.2 hw)
def Tryz.Fx:List (FuncId×(Bool×aT)):=[(55,(true,rP [.slice .str,.str] [.int .i64] (fun _=>True) (fun x y=>(y= -1/\∀j,j<x.1.length->nth .str x.1 j≠x.2)\/(0<=y/\y.toNat<x.1.length/\nth .str x.1 y.toNat=x.2))))]
def Tryz.Kr:bO Tryz.prog Tryz.B Tryz.X Tryz.Fx:=
 aQ (jg Tryz.Q9) (bR Tryz.bQ)
def I0(l:List (List UInt8))(s:List UInt8)(hw:gU [.slice .str,.str] (l,s)):(dM Tryz.B Tryz.Fx Tryz.f36 [] [.slice .str,.str] [.bool] (fun x y=>y=(fun x=>x.1.any (· == x.2)) x) (l,s)).holds:=by
 refine holds_of (p:=
  True/\∀E:Int,((E=(-1:Int)/\∀(j:Nat),j<bb l->nth Ty.str l j≠s)\/0<=E/\bf E<bb l/\nth Ty.str l (bf E)=s)->decide (E>=0)=da l fun(x:List UInt8)=>x == s) (by kernel_rfl) ?_
 exact⟨ba,fun E q_0=>(contains_of q_0)⟩
def Tryz.xU:bY Tryz.prog Tryz.B.eT Tryz.X 36 [.slice .str,.str] [.bool] (fun _=>True) (fun x y=>y=(fun x=>x.1.any (· == x.2)) x):=
 cF (X:=Tryz.X) Tryz.Kr Tryz.func36 (by kernel_rfl) (fun _=>[]) (fun x hw hp=>I0 x.1 x.2 hw)
def Tryz.Fy:List (FuncId×(Bool×aT)):=[(123,(false,gx Tryz.B [] Tryz.f123 []))]
def Tryz.Ks:bO Tryz.prog Tryz.B Tryz.X Tryz.Fy:=
 aQ (eQ (bR Tryz.bQ) Tryz.func123 (by kernel_rfl) []) (bR Tryz.bQ)
def Fz:dY:=[(0,fun st=>{X:=Nat,inv:=fun i=>i<=(cX (.slice aS) st 0).length/\∀j,j<i->(nth aS (cX (.slice aS) st 0) j).1≠(Sj aS st (Ms st 1 0)).1,cD:=fun i=>(cX (.slice aS) st 0).length-i,bM:=fun i=>[(8,sI i)],keep:=[0,1,7]})]
def Tryz.LD:List (FuncId×(Bool×aT)):=[(138,(false,gx Tryz.B Tryz.Fy Tryz.f138 Fz))]
def Tryz.Ra:bO Tryz.prog Tryz.B Tryz.X Tryz.LD:=
 aQ (eQ Tryz.Ks Tryz.func138 (by kernel_rfl) Fz) (bR Tryz.bQ)
def Tryz.LF:List (FuncId×(Bool×aT)):=[(45,Tryz.spZ0),(17,Tryz.spZ1),(122,(false,gx Tryz.B Tryz.LD Tryz.f122 []))]
def Tryz.Rb:bO Tryz.prog Tryz.B Tryz.X Tryz.LF:=
 aQ (aE Tryz.jl) (aQ (aE Tryz.im) (aQ (eQ Tryz.Ra Tryz.func122 (by kernel_rfl) []) (bR Tryz.bQ)))
def CS(o:D aB):dY:=[(0,fun st=>{X:=Nat,inv:=fun i=>kS o.2.1.length o.2.2.1 i,cD:=fun i=>o.2.2.1.length-i,bM:=fun i=>[(9,sI i)],keep:=[1,7,8]})]
def Kt(o:D aB)(hw:gU [aB] o):(dM Tryz.B Tryz.LF Tryz.f105 (CS o) [aB] [.err] (fun x y=>y=(fun o=>aI (ic o.2.1.length [] o.2.2.1)) x) o).holds:=by
 refine holds_of (p:=
  let za:=o.2.2.1
  let zb:=bb za
  let zc:=bb o.2.1
  let zd:=fun(E:Nat)=>(↑E:Int)
  let ze:=fun(E:Nat)=>(0:Int)<=zd E
  let zf:=fun(E:Nat)=>(nth aS za E).1
  let zg:=aI (ic zc (@bc (List UInt8×Int×Bool×Unit)) za)
  let zh:=fun(E:Nat)=>(nth aS za E).2.1
  let zi:=aL.no (1:Int)=zg
  let zj:=fun(E:Nat)=>bj 0 (bd E za)
  let zk:=fun(E:Nat)=>bb (zj E)
  let zl:=aL.no (3:Int)=zg
  let zm:=(o.1=o.1/\o.2.1=o.2.1/\za=za/\o.2.2.2.1=o.2.2.2.1/\True)/\True
  let zn:=fun(E:Nat)=>aJ (zd E)->aJ (1:Int)->aJ (zd E+(1:Int))/\∃(x':Nat),kS zc za x'/\zb-x'<zb-E/\(zd E+(1:Int)=(↑x':Int)/\True)/\zm
  zb<=aM->(∃(x:Nat),kS zc za x/\((0:Int)=(↑x:Int)/\True)/\True)/\∀E:Nat,kS zc za E->((decide (zd E<(↑zb:Int)))=true->(ze E/\zd E<(↑zb:Int))/\True/\((!aL.isNil (aI (aO (zf E))))=true->aI (aO (zf E))=zg)/\((!aL.isNil (aI (aO (zf E))))=false->((decide (zh E<(0:Int)))=true->zi)/\((decide (zh E<(0:Int)))=false->zc<=aM->((decide (zh E>=(↑zc:Int)))=true->zi)/\((decide (zh E>=(↑zc:Int)))=false->((0:Int)<=(0:Int)/\ze E/\zd E<=(↑zb:Int))/\(zk E<=aM->(∃(x:Nat),(x<=zk E/\∀(j:Nat),j<x->(nth aS (zj E) j).1≠zf E)/\((0:Int)=(↑x:Int)/\True)/\True)/\∀F:Nat,(F<=zk E/\∀(j:Nat),j<F->(nth aS (zj E) j).1≠zf E)->((decide (zd F<(↑(zk E):Int)))=true->(ze F/\zd F<(↑(zk E):Int))/\(((nth aS (zj E) F).1 == zf E)=true->((decide (zd F>=(0:Int)))=true->zl)/\((decide (zd F>=(0:Int)))=false->zn E))/\(((nth aS (zj E) F).1 == zf E)=false->aJ (zd F)->aJ (1:Int)->aJ (zd F+(1:Int))/\∃(x':Nat),(x'<=zk E/\∀(j:Nat),j<x'->(nth aS (zj E) j).1≠zf E)/\zk E-x'<zk E-F/\(zd F+(1:Int)=(↑x':Int)/\True)/\(zf E=zf E/\zh E=zh E/\(nth aS za E).2.2.1=(nth aS za E).2.2.1/\True)/\zm))/\((decide (zd F<(↑(zk E):Int)))=false->((decide ((-1:Int)>=(0:Int)))=true->zl)/\((decide ((-1:Int)>=(0:Int)))=false->zn E)))))))/\((decide (zd E<(↑zb:Int)))=false->aL.nil=zg)) (by kernel_rfl) ?_
 dsimp -iota -proj -eta only;refine fun h0=>⟨(⟨0,.zero _ _,⟨rfl,ba⟩,ba⟩),fun E q_0=>iL (fun h1=>⟨?a,ba,iB (fun h2=>(by rw[q_0.fault (by omega) (mY (eV _) h2)])) (fun h2=>iL (fun h3=>(by rw[q_0.out (by omega) (dE h2) (.inl (by omega))];rfl)) (fun h3 h4=>iE (fun h5=>(by rw[q_0.out (by omega) (dE h2) (.inr (by omega))];rfl)) (fun h5=>⟨?b,fun h6=>⟨(⟨0,⟨by omega,fun j hj=>by omega⟩,⟨rfl,ba⟩,ba⟩),fun F q_1=>iL (fun h7=>⟨?c,iQ (fun h8=>⟨fun h9=>(by rw[EA q_0.le]at h7;rw[Ez (i:=E) (j:=F) (by omega)]at h8;rw[q_0.dup (by omega) (dE h2) (fun h=>h.elim (fun h=>absurd h (Int.not_lt.2 h3)) (fun h=>absurd h (Int.not_le.2 h5))) (Hf (t:=aS) (j:=F) (by omega) q_0.le (by simpa using h8))];rfl),fun h9=>absurd (show true=false from h9) (by decide)⟩) (fun h8 h9 h10=>⟨?d,(⟨F+1,⟨by omega,lY q_1.2 ‹_›⟩,by omega,⟨by omega,ba⟩,(by trivial)⟩)⟩)⟩) (fun h7=>⟨fun h8=>absurd (show false=true from h8) (by decide),fun h8 h9 h10=>⟨?e,(by have hx:=EA q_0.le;exact⟨E+1,q_0.next (by omega) (dE h2) (fun h=>h.elim (fun h=>absurd h (Int.not_lt.2 h3)) (fun h=>absurd h (Int.not_le.2 h5))) (En (t:=aS) fun j hj=>by have:=q_1.2 j (by omega);rw[Ez hj]at this;simpa using this),by omega,⟨by omega,ba⟩,(by trivial)⟩)⟩⟩)⟩⟩)))⟩) (fun h1=>(by rw[q_0.done (by omega)];rfl))⟩
 case a|b|c=>omega
 case d|e=>simp only[aJ,aM]at*;omega
def Tryz.Ku:bY Tryz.prog Tryz.B.eT Tryz.X 105 [aB] [.err] (fun _=>True) (fun x y=>y=(fun o=>aI (ic o.2.1.length [] o.2.2.1)) x):=
 cF (X:=Tryz.X) Tryz.Rb Tryz.func105 (by kernel_rfl) (fun x=>CS x) (fun x hw hp=>Kt x hw)
def Tryz.spZ21:Bool×aT:=(true,cE [.int .i64] [.bool] (fun _=>True) (fun n=>ib n))
def Tryz.LG:List (FuncId×(Bool×aT)):=[(45,Tryz.spZ0),(17,Tryz.spZ1),(104,Tryz.spZ21)]
def Tryz.Rc:bO Tryz.prog Tryz.B Tryz.X Tryz.LG:=
 aQ (aE Tryz.jl) (aQ (aE Tryz.im) (aQ (aE Tryz.IZ) (bR Tryz.bQ)))
def LH(o:D aB):dY:=[(0,fun st=>{X:=Nat,inv:=fun i=>nF o.2.1.length o.2.2.2.1 i,cD:=fun i=>o.2.2.2.1.length-i,bM:=fun i=>[(9,sI i)],keep:=[1,7,8]})]
def TU(o:D aB)(hw:gU [aB] o):(dM Tryz.B Tryz.LG Tryz.f106 (LH o) [aB] [.err] (fun x y=>y=(fun o=>aI (kR o.2.1.length none o.2.2.2.1)) x) o).holds:=by
 refine holds_of (p:=
  let za:=o.2.2.2.1
  let zb:=bb za
  let zc:=bb o.2.1
  let zd:=fun(E:Nat)=>(↑E:Int)
  let ze:=fun(E:Nat)=>(nth bC za E).1
  let zf:=aI (kR zc none za)
  let zg:=aL.no 1=zf
  let zh:=fun(E:Nat)=>(nth bC za E).2.1
  let zi:=aL.no 3=zf
  let zj:=fun(E:Nat)=>zd E-1
  let zk:=fun(E:Nat)=>aJ (zd E)->aJ 1->aJ (zd E+1)/\∃(x':Nat),nF zc za x'/\zb-x'<zb-E/\(zd E+1=(↑x':Int)/\True)/\(o.1=o.1/\o.2.1=o.2.1/\o.2.2.1=o.2.2.1/\za=za/\True)/\True
  let zl:=fun(E:Nat)=>aI (aO (nth bC za E).2.2.2.1)
  let zm:=fun(E:Nat)=>((zh E == 1)=true->((!(nth bC za E).2.2.2.1 == @bc UInt8)=true->zi)/\((!(nth bC za E).2.2.2.1 == @bc UInt8)=false->(((nth bC za E).2.2.2.2.1)=true->zi)/\(((nth bC za E).2.2.2.2.1)=false->zk E)))/\((zh E == 1)=false->True/\((!aL.isNil (zl E))=true->zl E=zf)/\((!aL.isNil (zl E))=false->zk E))
  zb<=aM->(∃(x:Nat),nF zc za x/\(0=(↑x:Int)/\True)/\True)/\∀E:Nat,nF zc za E->((decide (zd E<(↑zb:Int)))=true->(0<=zd E/\zd E<(↑zb:Int))/\((decide (ze E<0))=true->zg)/\((decide (ze E<0))=false->zc<=aM->((decide (ze E>=(↑zc:Int)))=true->zg)/\((decide (ze E>=(↑zc:Int)))=false->True/\((!ib (nth bC za E).2.2.1)=true->zg)/\((!ib (nth bC za E).2.2.1)=false->((decide (zh E<1))=true->zi)/\((decide (zh E<1))=false->((decide (zh E > 3))=true->zi)/\((decide (zh E > 3))=false->((decide (zd E > 0))=true->aJ (zd E)->aJ 1->aJ (zj E)/\(0<=zj E/\zj E<(↑zb:Int))/\((decide ((nth bC za (bf (zj E))).1>=ze E))=true->zi)/\((decide ((nth bC za (bf (zj E))).1>=ze E))=false->zm E))/\((decide (zd E > 0))=false->zm E)))))))/\((decide (zd E<(↑zb:Int)))=false->aL.nil=zf)) (by kernel_rfl) ?_
 dsimp -iota -proj -eta only;refine fun h0=>⟨(⟨0,.zero _ _,⟨rfl,ba⟩,ba⟩),fun E q_0=>iL (fun h1=>⟨?a,iL (fun h2 =>?b) (fun h2 h3=>iE (fun h4 =>?c) (fun h4=>⟨ba,iB (fun h5 =>?d) (fun h5=>iL (fun h6 =>?e) (fun h6=>iL (fun h7 =>?f) (fun h7=>iL (fun h8 h9 h10=>⟨?g,?h,iE (fun h11 =>?i) (fun h11=>iQ (fun h12=>⟨fun h13 =>?j,fun h13=>⟨fun h14 =>?k,fun h14 h15 h16=>⟨?l,?m⟩⟩⟩) (fun h12=>⟨ba,iB (fun h13=>(by rw[q_0.fault (by omega) (f:=aO (nth bC o.2.2.2.1 E).2.2.2.1) (by unfold mX oy n9;grind) (by have:=mY (eV _) h13;omega)])) (fun h13 h14 h15=>⟨?n,(by have:=aP.1 h13;exact⟨E+1,q_0.next (by omega) (by unfold mX oy n9;grind),by omega,⟨by omega,ba⟩,(by trivial)⟩)⟩)⟩))⟩) (fun h8=>iQ (fun h9=>⟨fun h10 =>?o,fun h10=>⟨fun h11 =>?p,fun h11 h12 h13=>⟨?q,?r⟩⟩⟩) (fun h9=>⟨ba,iB (fun h10=>(by rw[q_0.fault (by omega) (f:=aO (nth bC o.2.2.2.1 E).2.2.2.1) (by unfold mX oy n9;grind) (by have:=mY (eV _) h10;omega)])) (fun h10 h11 h12=>⟨?s,(by have:=aP.1 h10;exact⟨E+1,q_0.next (by omega) (by unfold mX oy n9;grind),by omega,⟨by omega,ba⟩,(by trivial)⟩)⟩)⟩)))))⟩))⟩) (fun h1=>(by rw[q_0.done (by omega)];rfl))⟩
 case a|h=>omega
 case b|c|d=>rw[q_0.fault (by omega) (f:=1) (by unfold mX;grind) (by decide)];rfl
 case e|f|i=>rw[q_0.fault (by omega) (f:=3) (by unfold mX oy n9;grind) (by decide)];rfl
 case g|n|s=>simp only[aJ,aM]at*;omega
 case j|k=>
  simp only[bl,reduceCtorEq]at h13;rw[q_0.fault (by omega) (f:=3) (by unfold mX oy n9;grind) (by decide)];rfl
 case l=>
  simp only[bl,reduceCtorEq]at h13;simp only[aJ,aM]at*;omega
 case m=>
  simp only[bl,reduceCtorEq]at h13;exact⟨E+1,q_0.next (by omega) (by unfold mX oy n9;grind),by omega,⟨by omega,ba⟩,(by trivial)⟩
 case o|p=>
  simp only[bl,reduceCtorEq]at h10;rw[q_0.fault (by omega) (f:=3) (by unfold mX oy n9;grind) (by decide)];rfl
 case q=>
  simp only[bl,reduceCtorEq]at h10;simp only[aJ,aM]at*;omega
 case r=>
  simp only[bl,reduceCtorEq]at h10;exact⟨E+1,q_0.next (by omega) (by unfold mX oy n9;grind),by omega,⟨by omega,ba⟩,(by trivial)⟩
def Tryz.TV:bY Tryz.prog Tryz.B.eT Tryz.X 106 [aB] [.err] (fun _=>True) (fun x y=>y=(fun o=>aI (kR o.2.1.length none o.2.2.2.1)) x):=
 cF (X:=Tryz.X) Tryz.Rc Tryz.func106 (by kernel_rfl) (fun x=>LH x) (fun x hw hp=>TU x hw)
def Tryz.spZ22:Bool×aT:=(true,cE [.slice .str,.str] [.bool] (fun _=>True) (fun x=>x.1.any (· == x.2)))
def Tryz.FA:List (FuncId×(Bool×aT)):=[(45,Tryz.spZ0),(17,Tryz.spZ1),(36,Tryz.spZ22),(104,Tryz.spZ21),(105,(true,cE [aB] [.err] (fun _=>True) (fun o=>aI (ic o.2.1.length [] o.2.2.1)))),(106,(true,cE [aB] [.err] (fun _=>True) (fun o=>aI (kR o.2.1.length none o.2.2.2.1))))]
def Tryz.Kv:bO Tryz.prog Tryz.B Tryz.X Tryz.FA:=
 aQ (aE Tryz.jl) (aQ (aE Tryz.im) (aQ (aE Tryz.xU) (aQ (aE Tryz.IZ) (aQ (aE Tryz.Ku) (aQ (aE Tryz.TV) (bR Tryz.bQ))))))
def FB(o:D aB):dY:=[
 (0,fun st=>{X:=Nat,inv:=fun i=>kf o.1 i,cD:=fun i=>o.1.length-i,bM:=fun i=>[(41,sI i)],keep:=[1,39,40]}),
 (2,fun st=>{X:=Nat,inv:=fun i=>lA o.2.1 i,cD:=fun i=>o.2.1.length-i,bM:=fun i=>[(62,sI i)],keep:=[1,60,61]})]
def Re(o:D aB)(hw:gU [aB] o):(dM Tryz.B Tryz.FA Tryz.f83 (FB o) [aB] [.err] (fun x y=>y=(fun o=>aI (cY o)) x) o).holds:=by
 refine holds_of (p:=
  let za:=bb o.1
  let zb:=(↑za:Int)
  let zc:=aI (cY o)
  let zd:=aL.no (2:Int)=zc
  let ze:=o.2.1
  let zf:=bb ze
  let zg:=zf<=aM
  let zh:=(↑zf:Int)
  let zi:=o.2.2.1
  let zj:=o.2.2.2.1
  let zk:=fun(E:Nat)=>(↑E:Int)
  let zl:=fun(E:Nat)=>(0:Int)<=zk E
  let zm:=fun(E:Nat)=>aI (aO (nth Ty.str o.1 E))
  let zn:=(o.1=o.1/\ze=ze/\zi=zi/\zj=zj/\True)/\True
  let zo:=aI (ic zf (@bc (List UInt8×Int×Bool×Unit)) zi)
  za<=aM->((decide (zb > (4:Int)))=true->zd)/\((decide (zb > (4:Int)))=false->zg->((decide (zh<(1:Int)))=true->zd)/\((decide (zh<(1:Int)))=false->zg->((decide (zh > (40:Int)))=true->zd)/\((decide (zh > (40:Int)))=false->bb zi<=aM->((decide ((↑(bb zi):Int) > (8:Int)))=true->zd)/\((decide ((↑(bb zi):Int) > (8:Int)))=false->bb zj<=aM->((decide ((↑(bb zj):Int) > (6:Int)))=true->zd)/\((decide ((↑(bb zj):Int) > (6:Int)))=false->za<=aM->(∃(x:Nat),kf o.1 x/\((0:Int)=(↑x:Int)/\True)/\True)/\∀E:Nat,kf o.1 E->((decide (zk E<zb))=true->(zl E/\zk E<zb)/\True/\((!aL.isNil (zm E))=true->zm E=zc)/\((!aL.isNil (zm E))=false->((0:Int)<=(0:Int)/\zl E/\zk E<=zb)/\True/\((da (bj 0 (bd E o.1)) fun(x:List UInt8)=>x == nth Ty.str o.1 E)=true->aL.no (3:Int)=zc)/\((da (bj 0 (bd E o.1)) fun(x:List UInt8)=>x == nth Ty.str o.1 E)=false->aJ (zk E)->aJ (1:Int)->aJ (zk E+(1:Int))/\∃(x':Nat),kf o.1 x'/\za-x'<za-E/\(zk E+(1:Int)=(↑x':Int)/\True)/\zn)))/\((decide (zk E<zb))=false->zg->(∃(x:Nat),lA ze x/\((0:Int)=(↑x:Int)/\True)/\True)/\∀F:Nat,lA ze F->((decide (zk F<zh))=true->(zl F/\zk F<zh)/\True/\((!ib (nth (Ty.int bm) ze F))=true->aL.no (1:Int)=zc)/\((!ib (nth (Ty.int bm) ze F))=false->aJ (zk F)->aJ (1:Int)->aJ (zk F+(1:Int))/\∃(x':Nat),lA ze x'/\zf-x'<zf-F/\(zk F+(1:Int)=(↑x':Int)/\True)/\zn))/\((decide (zk F<zh))=false->True/\((!aL.isNil zo)=true->zo=zc)/\((!aL.isNil zo)=false->True/\aI (kR zf none zj)=zc))))))))) (by kernel_rfl) ?_
 dsimp -iota -proj -eta only;refine fun h0=>iL (fun h1 =>?a) (fun h1 h2=>iL (fun h3 =>?b) (fun h3 h4=>iL (fun h5 =>?c) (fun h5 h6=>iL (fun h7 =>?d) (fun h7 h8=>iL (fun h9 =>?e) (fun h9 h10=>⟨?f,fun E q_0=>iL (fun h11=>⟨?g,ba,iB (fun h12=>(by have hf:=mY (eV _) h12;rw[w6 (by unfold lZ;omega) (q_0.fault (by omega) hf) (by omega)])) (fun h12=>⟨?h,ba,⟨fun h13=>(by rw[c7]at h13;rw[w6 (by unfold lZ;omega) (q_0.dup (by omega) (dE h12) h13) (by decide)];rfl),fun h13 h14 h15=>⟨?i,(by rw[c7]at h13;exact⟨E+1,q_0.next (by omega) (dE h12) h13,by omega,⟨by omega,ba⟩,(by trivial)⟩)⟩⟩⟩)⟩) (fun h11 h12=>⟨?j,fun F q_1=>iL (fun h13=>⟨?k,ba,iB (fun h14=>(by rw[Hg (by unfold lZ;omega) (q_0.done (by omega)) (q_1.fault (by omega) h14) (by decide)];rfl)) (fun h14 h15 h16=>⟨?l,(⟨F+1,q_1.next (by omega) h14,by omega,⟨by omega,ba⟩,(by trivial)⟩)⟩)⟩) (fun h13=>⟨ba,iB (fun h14=>(by have hf:=mY (w5 _ _ _) h14;rw[JP (by unfold lZ;omega) (q_0.done (by omega)) (q_1.done (by omega)) rfl (by omega)])) (fun h14=>⟨ba,(by rw[JQ (by unfold lZ;omega) (q_0.done (by omega)) (q_1.done (by omega)) (aP.1 h14) rfl])⟩)⟩)⟩)⟩)))))
 case a|b|c|d|e=>rw[JO (by unfold lZ;omega)];rfl
 case f|j=>exact⟨0,.zero _,⟨rfl,ba⟩,ba⟩
 case g|h|k=>omega
 case i|l=>simp only[aJ,aM]at*;omega
def Tryz.Rf:bY Tryz.prog Tryz.B.eT Tryz.X 83 [aB] [.err] (fun _=>True) (fun x y=>y=(fun o=>aI (cY o)) x):=
 cF (X:=Tryz.X) Tryz.Kv Tryz.func83 (by kernel_rfl) (fun x=>FB x) (fun x hw hp=>Re x hw)
def N1(b:Bool)(hw:gU [.bool] b):(dM Tryz.B [] Tryz.f86 [] [.bool] [.str] (fun x y=>y=(fun b=>iG b) x) b).holds:=by
 refine holds_of (p:=
  (b=true->[119,101,97,107,32]=iG b)/\(b=false->(@bc UInt8=iG b))) (by kernel_rfl) ?_
 refine⟨fun h0 =>?a,fun h0 =>?b⟩
 case a|b=>cases b <;> first|rfl|simp_all
def Tryz.N2:bY Tryz.prog Tryz.B.eT Tryz.X 86 [.bool] [.str] (fun _=>True) (fun x y=>y=(fun b=>iG b) x):=
 cF (X:=Tryz.X) (bR Tryz.bQ) Tryz.func86 (by kernel_rfl) (fun _=>[]) (fun x hw hp=>N1 x hw)
def Tryz.I1:List (FuncId×(Bool×aT)):=[(45,Tryz.spZ0),(17,Tryz.spZ1),(85,(false,rS 169 5)),(88,(false,qC 169 5)),(87,(true,wQ 169 5)),(84,Tryz.spZ2),(83,(true,cE [aB] [.err] (fun _=>True) (fun o=>aI (cY o)))),(86,(true,cE [.bool] [.str] (fun _=>True) (fun b=>iG b)))]
def Tryz.N3:bO Tryz.prog Tryz.B Tryz.X Tryz.I1:=
 aQ (aE Tryz.jl) (aQ (aE Tryz.im) (aQ (Tryz.z6) (aQ (Tryz.xM) (aQ (Tryz.Fi) (aQ (aE Tryz.oO) (aQ (aE Tryz.Rf) (aQ (aE Tryz.N2) (bR Tryz.bQ))))))))
def I2(o:D aB):dY:=[
 (0,fun st=>{X:=Nat,inv:=fun i=>i<=o.1.length,cD:=fun i=>o.1.length-i,bM:=fun i=>[(23,sI i)],keep:=[1,2,3,5,6,21,22],aF:=fun i=>[(bH st 5,.ext 2 kz (bJ (px o i),(169:Int),(5:Int),()))],gQ:=[bH st 5]}),
 (2,fun st=>{X:=Nat,inv:=fun i=>i<=o.2.1.length,cD:=fun i=>o.2.1.length-i,bM:=fun i=>[(35,sI i)],keep:=[1,2,3,5,6,33,34],aF:=fun i=>[(bH st 5,.ext 2 kz (bJ (nQ o i),(169:Int),(5:Int),()))],gQ:=[bH st 5]}),
 (4,fun st=>{X:=Nat,inv:=fun i=>i<=o.2.2.1.length,cD:=fun i=>o.2.2.1.length-i,bM:=fun i=>[(49,sI i)],keep:=[1,2,3,5,6,47,48],aF:=fun i=>[(bH st 5,.ext 2 kz (bJ (nR o i),(169:Int),(5:Int),()))],gQ:=[bH st 5]}),
 (6,fun st=>{X:=Nat,inv:=fun i=>i<=o.2.2.2.1.length,cD:=fun i=>o.2.2.2.1.length-i,bM:=fun i=>[(72,sI i)],keep:=[2,3,5,6,70,71],aF:=fun i=>[(bH st 5,.ext 2 kz (bJ (jA o i),(169:Int),(5:Int),()))],gQ:=[bH st 5]})]
def TW(o:D aB)(hw:gU [aB] o):(dM (lX Tryz.B [41,64,91,85,104,110,123,129]) Tryz.I1 Tryz.f54 (I2 o) [aB] [.str,.err] (fun x y=>y=(fun o=>ku o) x) o).holds:=by
 refine holds_of (p:=
  let za:=aI (cY o)
  let zb:=ku o
  let zc:=bb o.1
  let zd:=(↑(169:Nat):Int)
  let ze:=fun(b:UInt8)=>(↑(b7 b):Int)
  let zf:=((169:Int),(5:Int),())
  let zg:=fun(E:Nat)=>(↑E:Int)
  let zh:=fun(E:Nat)=>(0:Int)<=zg E
  let zi:=[(110:UInt8),101,101,100,32]
  let zj:=[(10:UInt8)]
  let zk:=bb zj
  let zl:=(169:Int)=zd
  let zm:=(↑(5:Nat):Int)
  let zn:=(5:Int)=zm
  let zo:=fun(E:Nat)=>bo ze (px o E)
  let zp:=fun(E:Nat)=>zi++nth Ty.str o.1 E++zj
  let zq:=fun(E:Nat)=>aJ (zg E)
  let zr:=aJ (1:Int)
  let zs:=fun(E:Nat)=>zg E+(1:Int)
  let zt:=fun(E:Nat)=>aJ (zs E)
  let zu:=(zd,zm,())
  let zv:=o.2.1
  let zw:=o.2.2.1
  let zx:=o.2.2.2.1
  let zy:=(o.1=o.1/\zv=zv/\zw=zw/\zx=zx/\True)/\True
  let zz:=bb zv
  let zaa:=[(119:UInt8),111,114,100,32]
  let zab:=fun(F:Nat)=>zaa++bp (nth (Ty.int bm) zv F)
  let zac:=fun(F:Nat)=>bo ze (nQ o F)
  let zad:=bb zw
  let zae:=fun(G:Nat)=>iG (nth aS zw G).2.2.1
  let zaf:=[(115:UInt8),121,109,98,111,108,32]
  let zag:=fun(G:Nat)=>zae G++zaf++(nth aS zw G).1
  let zah:=[(32:UInt8)]
  let zai:=bb zah
  let zaj:=fun(G:Nat)=>bp (nth aS zw G).2.1
  let zak:=fun(G:Nat)=>bo ze (nR o G)
  let zal:=fun(G:Nat)=>zag G++zah++zaj G++zj
  let zam:=bb zx
  let zan:=[(98:UInt8),97,115,101,32]
  let zao:=fun(I:Nat)=>bp (nth bC zx I).1
  let zap:=fun(I:Nat)=>bp (nth bC zx I).2.2.1
  let zaq:=fun(I:Nat)=>zan++zao I++zah++zap I
  let zar:=fun(I:Nat)=>bo ze (jA o I)
  let zas:=fun(I:Nat)=>bb (zar I)
  let zat:=fun(I:Nat)=>iG (nth bC zx I).2.2.2.2.1
  let zau:=[(119:UInt8),104,111,108,101,32]
  let zav:=fun(I:Nat)=>zat I++zau++zao I++zah
  let zaw:=fun(I:Nat)=>(nth bC zx I).2.2.2.1
  let zax:=fun(I:Nat)=>zav I++zap I++zah++zaw I
  let zay:=[(110:UInt8),101,97,114,32]
  let zaz:=fun(I:Nat)=>zat I++zay++zao I++zah
  let zba:=fun(I:Nat)=>zaz I++zap I++zah++zaw I
  True/\((!aL.isNil za)=true->([],za)=zb)/\((!aL.isNil za)=false->zc<=aM->(∃(x:Nat),x<=zc/\((0:Int)=(↑x:Int)/\True)/\([],zd,(↑(5:TypeId):Int),())=(bo ze (px o x),zf)/\True)/\∀E:Nat,E<=zc->((decide (zg E<(↑zc:Int)))=true->(zh E/\zg E<(↑zc:Int))/\bb zi+bb (nth Ty.str o.1 E)<=aM/\bb (zi++nth Ty.str o.1 E)+zk<=aM/\(zl/\zn/\bb (zo E)+bb (zp E)<=(140737488355328:Nat))/\(zq E->zr->zt E/\∃(x':Nat),x'<=zc/\zc-x'<zc-E/\(zs E=(↑x':Int)/\True)/\(zo E++bo ze (zp E),zu)=(bo ze (px o x'),zf)/\zy))/\((decide (zg E<(↑zc:Int)))=false->zz<=aM->(∃(x:Nat),x<=zz/\((0:Int)=(↑x:Int)/\True)/\(zo E,zf)=(bo ze (nQ o x),zf)/\True)/\∀F:Nat,F<=zz->((decide (zg F<(↑zz:Int)))=true->(zh F/\zg F<(↑zz:Int))/\True/\bb zaa+bb (bp (nth (Ty.int bm) zv F))<=aM/\bb (zab F)+zk<=aM/\(zl/\zn/\bb (zac F)+bb (zab F++zj)<=(140737488355328:Nat))/\(zq F->zr->zt F/\∃(x':Nat),x'<=zz/\zz-x'<zz-F/\(zs F=(↑x':Int)/\True)/\(zac F++bo ze (zab F++zj),zu)=(bo ze (nQ o x'),zf)/\zy))/\((decide (zg F<(↑zz:Int)))=false->zad<=aM->(∃(x:Nat),x<=zad/\((0:Int)=(↑x:Int)/\True)/\(zac F,zf)=(bo ze (nR o x),zf)/\True)/\∀G:Nat,G<=zad->((decide (zg G<(↑zad:Int)))=true->(zh G/\zg G<(↑zad:Int))/\True/\bb (zae G)+bb zaf<=aM/\bb (zae G++zaf)+bb (nth aS zw G).1<=aM/\bb (zag G)+zai<=aM/\True/\bb (zag G++zah)+bb (zaj G)<=aM/\bb (zag G++zah++zaj G)+zk<=aM/\(zl/\zn/\bb (zak G)+bb (zal G)<=(140737488355328:Nat))/\(zq G->zr->zt G/\∃(x':Nat),x'<=zad/\zad-x'<zad-G/\(zs G=(↑x':Int)/\True)/\(zak G++bo ze (zal G),zu)=(bo ze (nR o x'),zf)/\zy))/\((decide (zg G<(↑zad:Int)))=false->zam<=aM->(∃(x:Nat),x<=zam/\((0:Int)=(↑x:Int)/\True)/\(zak G,zf)=(bo ze (jA o x),zf)/\True)/\∀I:Nat,I<=zam->((decide (zg I<(↑zam:Int)))=true->(zh I/\zg I<(↑zam:Int))/\(((nth bC zx I).2.1 == (1:Int))=true->True/\bb zan+bb (zao I)<=aM/\bb (zan++zao I)+zai<=aM/\True/\bb (zan++zao I++zah)+bb (zap I)<=aM/\bb (zaq I)+zk<=aM/\(zl/\zn/\zas I+bb (zaq I++zj)<=(140737488355328:Nat))/\(zq I->zr->zt I/\∃(x':Nat),x'<=zam/\zam-x'<zam-I/\(zs I=(↑x':Int)/\True)/\(zar I++bo ze (zaq I++zj),zu)=(bo ze (jA o x'),zf)/\zy))/\(((nth bC zx I).2.1 == (1:Int))=false->(((nth bC zx I).2.1 == (2:Int))=true->True/\bb (zat I)+bb zau<=aM/\True/\bb (zat I++zau)+bb (zao I)<=aM/\bb (zat I++zau++zao I)+zai<=aM/\True/\bb (zav I)+bb (zap I)<=aM/\bb (zav I++zap I)+zai<=aM/\bb (zav I++zap I++zah)+bb (zaw I)<=aM/\bb (zax I)+zk<=aM/\(zl/\zn/\zas I+bb (zax I++zj)<=(140737488355328:Nat))/\(zq I->zr->zt I/\∃(x':Nat),x'<=zam/\zam-x'<zam-I/\(zs I=(↑x':Int)/\True)/\(zar I++bo ze (zax I++zj),zu)=(bo ze (jA o x'),zf)/\zy))/\(((nth bC zx I).2.1 == (2:Int))=false->True/\bb (zat I)+bb zay<=aM/\True/\bb (zat I++zay)+bb (zao I)<=aM/\bb (zat I++zay++zao I)+zai<=aM/\True/\bb (zaz I)+bb (zap I)<=aM/\bb (zaz I++zap I)+zai<=aM/\bb (zaz I++zap I++zah)+bb (zaw I)<=aM/\bb (zba I)+zk<=aM/\(zl/\zn/\zas I+bb (zba I++zj)<=(140737488355328:Nat))/\(zq I->zr->zt I/\∃(x':Nat),x'<=zam/\zam-x'<zam-I/\(zs I=(↑x':Int)/\True)/\(zar I++bo ze (zba I++zj),zu)=(bo ze (jA o x'),zf)/\zy))))/\((decide (zg I<(↑zam:Int)))=false->(zl/\zn)/\((decide ((↑(zas I):Int) > (1200:Int)))=true->([],aL.no (2:Int))=zb)/\((decide ((↑(zas I):Int) > (1200:Int)))=false->(zl/\zn)/\(bytesOf (zar I),aL.nil)=zb))))))) (by kernel_rfl) ?_
 dsimp -iota -proj -eta only;refine⟨ba,iB (fun h0=>(by rw[EE (fun e=>by rw[aP.2 e]at h0;cases h0)])) (fun h0 h1=>⟨(⟨0,by omega,⟨rfl,ba⟩,rfl,ba⟩),fun E q_0=>iL (fun h2=>⟨?a,?b,?c,?d,fun h3 h4=>⟨?e,(⟨E+1,by omega,by omega,⟨by omega,ba⟩,oK (Po (by omega)),(by trivial)⟩)⟩⟩) (fun h2 h3=>⟨(⟨0,by omega,⟨rfl,ba⟩,AJ (by rw[Pr,show E=o.1.length by omega]),ba⟩),fun F q_1=>iL (fun h4=>⟨?f,ba,?g,?h,?i,fun h5 h6=>⟨?j,(⟨F+1,by omega,by omega,⟨by omega,ba⟩,oK (Pp (by omega)),(by trivial)⟩)⟩⟩) (fun h4 h5=>⟨(⟨0,by omega,⟨rfl,ba⟩,AJ (by rw[Ps,show F=o.2.1.length by omega]),ba⟩),fun G q_2=>iL (fun h6=>⟨?k,ba,?l,?m,?n,ba,?o,?p,?q,fun h7 h8=>⟨?r,(⟨G+1,by omega,by omega,⟨by omega,ba⟩,oK (Pq (by omega)),(by trivial)⟩)⟩⟩) (fun h6 h7=>⟨(⟨0,by omega,⟨rfl,ba⟩,AJ (by rw[Pu,show G=o.2.2.1.length by omega]),ba⟩),fun I q_3=>iL (fun h8=>⟨?s,iQ (fun h9=>⟨ba,?t,?u,ba,?v,?w,?x,fun h10 h11=>⟨?y,(⟨I+1,by omega,by omega,⟨by omega,ba⟩,oK (MH (by omega) h9),(by trivial)⟩)⟩⟩) (fun h9=>iQ (fun h10=>⟨ba,?z,ba,?a0,?a1,ba,?a2,?a3,?a4,?a5,?a6,fun h11 h12=>⟨?a7,(⟨I+1,by omega,by omega,⟨by omega,ba⟩,oK (MI (by omega) h9 h10),(by trivial)⟩)⟩⟩) (fun h10=>⟨ba,?a8,ba,?a9,?aa,ba,?ab,?ac,?ad,?ae,?af,fun h11 h12=>⟨?ag,(⟨I+1,by omega,by omega,⟨by omega,ba⟩,oK (MJ (by omega) h9 h10),(by trivial)⟩)⟩⟩))⟩) (fun h8=>⟨?ah,iL (fun h9=>(by rw[B8 (aP.1 h0) (show I=_ by omega) (by simp only[bz]at h9;omega)])) (fun h9=>⟨?ai,(by rw[u7 (aP.1 h0) (show I=_ by omega) (by simp only[bz]at h9;omega)];exact congrArg (·,aL.nil) (uX _))⟩)⟩)⟩)⟩)⟩)⟩)⟩
 case a|f|k|s=>omega
 case b|c=>have a:=EC (mZ (aP.1 h0)) (i:=E) (by omega);simp only[bt,bx,b3,bz,aM];omega
 case d|i|q|x|a6|af=>exact⟨rfl,rfl,by first|(have a:=Hy (mZ (aP.1 h0)) (i:=I) (by omega);simp only[bt,bx,b3,bz,aM];omega)|(have a:=Hx (mZ (aP.1 h0)) (i:=G) (by omega);simp only[bt,bx,b3,bz,aM];omega)|(have a:=ED (mZ (aP.1 h0)) (i:=F) (by omega);simp only[bt,bx,b3,bz,aM];omega)|(have a:=EC (mZ (aP.1 h0)) (i:=E) (by omega);simp only[bt,bx,b3,bz,aM];omega)⟩
 case e|j|r|y|a7|ag=>simp only[aJ,aM]at*;omega
 case g|h=>have a:=ED (mZ (aP.1 h0)) (i:=F) (by omega);simp only[bt,bx,b3,bz,aM];omega
 case l|m|n|o|p=>have a:=Hx (mZ (aP.1 h0)) (i:=G) (by omega);simp only[bt,bx,b3,bz,aM];omega
 case t|u|v|w|z|a0|a1|a2|a3|a4|a5|a8|a9|aa|ab|ac|ad|ae=>have a:=Hy (mZ (aP.1 h0)) (i:=I) (by omega);simp only[bt,bx,b3,bz,aM];omega
 case ah|ai=>trivial
def Tryz.TX:bY Tryz.prog Tryz.B.eT Tryz.X 54 [aB] [.str,.err] (fun _=>True) (fun x y=>y=(fun o=>ku o) x):=
 cF (B:=(lX Tryz.B [41,64,91,85,104,110,123,129])) (X:=Tryz.X) (bO.hint (l:=[41,64,91,85,104,110,123,129]) Tryz.N3) Tryz.func54 (by kernel_rfl) (fun x=>I2 x) (fun x hw hp=>TW x hw)
def Tryz.I3:List (FuncId×(Bool×aT)):=[(84,Tryz.spZ2),(103,Tryz.spZ14),(81,Tryz.spZ15),(52,Tryz.spZ16),(51,Tryz.spZ17),(54,(true,cE [aB] [.str,.err] (fun _=>True) (fun o=>ku o))),(53,(false,aV Tryz.oY [.obj 0,.d .str,.obj 5] (fun a x=>a.1.length<=1000000/\x.2.1.length<=1000000/\x.2.2.1.length<=1000000/\x.2.2.2.1.length<=1000000/\x.2.2.2.2.1.length<=1000000) Tryz.Be))]
def Tryz.N4:bO Tryz.prog Tryz.B Tryz.X Tryz.I3:=
 aQ (aE Tryz.oO) (aQ (aE Tryz.sd) (aQ (aE Tryz.np) (aQ (aE Tryz.mv) (aQ (aE Tryz.se) (aQ (aE Tryz.TX) (aQ (Tryz.TS) (bR Tryz.bQ)))))))
def I4(s:List UInt8):dY:=[(200000,fun st=>{X:=Nat×D aB×Bool,inv:=fun x=>lF (parts 10 (br s [10])) x.1 x.2.1 x.2.2,cD:=fun x=>bb (parts 10 (br s [10]))-x.1,bM:=fun x=>[(19,sI x.1)],keep:=[0,2,3,4,5,17,18],aN:=Tryz.oY,refs:=[(4,0),(5,5)],pd:=fun x=>PH x.2})]
def Rg(s:List UInt8)(hw:gU [.str] s):(dM Tryz.B Tryz.I3 Tryz.f35 (I4 s) [.str] [aB,.err] (fun x y=>y=(fun s=>od s) x) s).holds:=by
 refine holds_of (p:=
  let za:=([],[],[],[],())
  let zb:=od s
  let zc:=br s [(10:UInt8)]
  let zd:=parts (10:UInt8) zc
  let ze:=@bc (List UInt8)=@bc (List UInt8)
  let zf:=@bc Int=@bc Int
  let zg:=@bc (List UInt8×Int×Bool×Unit)=@bc (List UInt8×Int×Bool×Unit)
  let zh:=@bc (Int×Int×Int×List UInt8×Bool×Unit)=@bc (Int×Int×Int×List UInt8×Bool×Unit)
  let zi:=List UInt8
  let zj:=Nat×(List zi×List Int×List (zi×Int×Bool×Unit)×List (Int×Int×Int×zi×Bool×Unit)×Unit)×Bool
  let zk:=(ze/\zf/\zg/\zh/\True)/\zh/\zg/\zf/\ze/\True
  let zl:=!false
  let zm:=(zl&&(zl&&(zl&&(zl&&(zl&&true)))))=true
  let zn:=fun(E:Nat×(List (List UInt8)×List Int×List (List UInt8×Int×Bool×Unit)×List (Int×Int×Int×List UInt8×Bool×Unit)×Unit)×Bool)=>(↑E.1:Int)<(↑(bb zd):Int)
  let zo:=fun(E:Nat×(List (List UInt8)×List Int×List (List UInt8×Int×Bool×Unit)×List (Int×Int×Int×List UInt8×Bool×Unit)×Unit)×Bool)=>E.2.1.2.2.1
  let zp:=fun(E:Nat×(List (List UInt8)×List Int×List (List UInt8×Int×Bool×Unit)×List (Int×Int×Int×List UInt8×Bool×Unit)×Unit)×Bool)=>E.2.1.2.2.2.1
  let zq:=fun(E:Nat×(List (List UInt8)×List Int×List (List UInt8×Int×Bool×Unit)×List (Int×Int×Int×List UInt8×Bool×Unit)×Unit)×Bool)=>gF (SP ((),E.2.1.1,E.2.1.2.1,zo E,zp E,(E.2.2,()),())) E.2.2 (nth Ty.str zd E.1)
  let zr:=fun(E:Nat×(List (List UInt8)×List Int×List (List UInt8×Int×Bool×Unit)×List (Int×Int×Int×List UInt8×Bool×Unit)×Unit)×Bool)=>(zq E).1.2.2.2.1
  let zs:=(za,aL.no 4)=zb
  bb s<=aM->((decide ((↑(bb s):Int) > 1200))=true->(za,aL.no 2)=zb)/\((decide ((↑(bb s):Int) > 1200))=false->True/\(bb zc<4294967281/\bb [(10:UInt8)]=1)/\(bb zd<=aM->(ze/\zf/\zg/\zh/\∃(x':zj),lF zd (bh x') (bg x').1 (bg x').2/\True/\(0=(↑(bh x'):Int)/\True)/\zk/\zm/\((),[],[],[],[],(false,()),())=PH (bg x'))/\∀E:Nat×(List (List UInt8)×List Int×List (List UInt8×Int×Bool×Unit)×List (Int×Int×Int×List UInt8×Bool×Unit)×Unit)×Bool,lF zd E.1 E.2.1 E.2.2->((decide (zn E))=true->(0<=(↑E.1:Int)/\zn E)/\E.2.1.1=E.2.1.1/\E.2.1.2.1=E.2.1.2.1/\zo E=zo E/\zp E=zp E/\(bb (nth Ty.str zd E.1)<=1000000/\bb E.2.1.1<=1000000/\bb E.2.1.2.1<=1000000/\bb (zo E)<=1000000/\bb (zp E)<=1000000)/\(True->aJ (↑E.1:Int)->aJ 1->aJ ((↑E.1:Int)+1)/\(zq E).1.1=(zq E).1.1/\(zq E).1.2.1=(zq E).1.2.1/\(zq E).1.2.2.1=(zq E).1.2.2.1/\zr E=zr E/\∃(x':zj),lF zd (bh x') (bg x').1 (bg x').2/\bb zd-bh x'<bb zd-E.1/\((↑E.1:Int)+1=(↑(bh x'):Int)/\True)/\zk/\zm/\((),(zq E).1.1,(zq E).1.2.1,(zq E).1.2.2.1,zr E,((zq E).2,()),())=PH (bg x')))/\((decide (zn E))=false->True/\((E.2.2)=true->zs)/\((E.2.2)=false->((!aL.isNil (ku E.2.1).2)=true->zs)/\((!aL.isNil (ku E.2.1).2)=false->((!(ku E.2.1).1 == s)=true->zs)/\((!(ku E.2.1).1 == s)=false->(E.2.1,aL.nil)=zb))))))) (by kernel_rfl) ?_
 dsimp -iota -proj -eta only;refine fun h0=>iL (fun h1=>(M3 (by omega))) (fun h1=>⟨ba,(by have:=yw s [10];exact⟨by omega,rfl⟩),fun h2=>⟨(⟨rfl,rfl,rfl,rfl,(0,bW aB,false),lF.zero _,ba,⟨rfl,ba⟩,⟨⟨rfl,rfl,rfl,rfl,ba⟩,rfl,rfl,rfl,rfl,ba⟩,rfl,rfl⟩),fun E q_0=>iL (fun h3=>⟨(by omega),rfl,rfl,rfl,rfl,?a,fun h4 h5 h6=>⟨(by simp only[aJ,aM]at*;omega),(by exact⟨rfl,rfl,rfl,rfl,(E.1+1,gF E.2.1 E.2.2 (nth .str (parts 10 (br s [10])) E.1)),q_0.next (by omega),by simp only;omega,⟨by simp only;omega,ba⟩,(by trivial),rfl,rfl⟩)⟩⟩) (fun h3=>⟨ba,⟨fun h4=>(xz q_0 (by omega) (by omega) (.inl h4)),fun h4=>iB (fun h5=>(xz q_0 (by omega) (by omega) (.inr (.inl h5)))) (fun h5=>⟨fun h6 =>?b,fun h6 =>?c⟩)⟩⟩)⟩⟩)
 case a=>
  have hf:=PJ s (by omega);have a0:=q_0.le;have a1:=q_0.l1;have a2:=q_0.l2;have a3:=q_0.l3;have a4:=q_0.l4;exact⟨b4 (M4 (by omega) _) (by decide),by omega,by omega,by omega,by omega⟩
 case b=>
  simp only[bl,reduceCtorEq]at h6;exact xz q_0 (by omega) (by omega) (.inr (.inr h6))
 case c=>
  simp only[bl,reduceCtorEq]at h6;exact SR (by omega) ‹aL.isNil _=true› h6
def Tryz.FC:bY Tryz.prog Tryz.B.eT Tryz.X 35 [.str] [aB,.err] (fun _=>True) (fun x y=>y=(fun s=>od s) x):=
 cF (X:=Tryz.X) Tryz.N4 Tryz.func35 (by kernel_rfl) (fun x=>I4 x) (fun x hw hp=>Rg x hw)
def Tryz.spZ23:Bool×aT:=(false,aV Tryz.aW [.obj 0,.d .str] (fun _ _=>True) Tryz.xT)
def Tryz.spZ24:Bool×aT:=(true,cE [.str] [aB,.err] (fun _=>True) (fun s=>od s))
def Tryz.Rh:List (FuncId×(Bool×aT)):=[(13,Tryz.spZ23),(35,Tryz.spZ24),(36,Tryz.spZ22)]
def Tryz.TY:bO Tryz.prog Tryz.B Tryz.X Tryz.Rh:=
 aQ (Tryz.sf) (aQ (aE Tryz.FC) (aQ (aE Tryz.xU) (bR Tryz.bQ)))
def Tryz.Ri(s:List UInt8)(f:cN):dY:=[
 (0,fun st=>{X:=Nat×List (List UInt8)×List (D aB),inv:=fun y=>la (aK f) s y.1 y.2.1 y.2.2,cD:=fun y=>7-y.1,bM:=fun y=>[(9,sI y.1),(7,.s (.one (.app .str y.2.1 (bH st 7)))),(8,.s (.one (.app aB y.2.2 (bH st 8))))],aF:=fun y=>[(bH st 7,.tok .str y.2.1),(bH st 8,.tok aB y.2.2)],keep:=[0],gQ:=[bH st 7,bH st 8]}),
 (2,fun st=>{X:=Nat,inv:=fun k=>k<=bb (cX (.slice .str) st 50),cD:=fun k=>bb (cX (.slice .str) st 50)-k,bM:=fun k=>[(52,sI k),(7,.s (.one (.app .str (gA (cX (.slice .str) st 7) (bd k (cX (.slice .str) st 50))) (bH st 7))))],aF:=fun k=>[(bH st 7,.tok .str (gA (cX (.slice .str) st 7) (bd k (cX (.slice .str) st 50))))],keep:=[0,4,5,6,8,9,10,12,13,18,19,20,21,24,25,26,27,28,29,30,31,32,33,34,35,36,37,38,39,40,41,42,43,44,45,46,47,48,49,50,51],gQ:=[bH st 7]})]
def Tryz.DL:List (Alt Tryz.aW [.obj 0,.d .str]):=[{bN:=Tryz.aW,res:=[.d (.slice .str),.d (.slice aB),.d .err],out:=fun _ x=>x,ret:=fun a x=>((bF (aK x) a.1).1,(bF (aK x) a.1).2.1,aI (bF (aK x) a.1).2.2,())}]
def Ky(s:List UInt8)(f:cN)(hw:gI [.obj 0,.d .str] (s,()))(hp:(fun _ x=>x.2.1.1.length<=6) (s,()) f):(cR (lX Tryz.B [17]) Tryz.Rh Tryz.f12 (Tryz.Ri s f) Tryz.aW [.obj 0,.d .str] Tryz.DL (s,()) f).holds:=by
 refine holds_of (p:=
  let za:=List UInt8
  let zb:=Nat×List za×List (List za×List Int×List (za×Int×Bool×Unit)×List (Int×Int×Int×za×Bool×Unit)×Unit)
  let zc:=aK f
  let zd:=fun(E:Nat×List (List UInt8)×List (List (List UInt8)×List Int×List (List UInt8×Int×Bool×Unit)×List (Int×Int×Int×List UInt8×Bool×Unit)×Unit))=>(↑E.1:Int)<(↑(bb E.2.1):Int)
  let ze:=fun(E:Nat×List (List UInt8)×List (List (List UInt8)×List Int×List (List UInt8×Int×Bool×Unit)×List (Int×Int×Int×List UInt8×Bool×Unit)×Unit))=>aK f (nth Ty.str E.2.1 E.1)
  let zf:=bF zc s
  let zg:=(zf.1,zf.2.1,aI zf.2.2,())
  let zh:=fun(E:Nat×List (List UInt8)×List (List (List UInt8)×List Int×List (List UInt8×Int×Bool×Unit)×List (Int×Int×Int×List UInt8×Bool×Unit)×Unit))=>(cU (ze E).1).1.1
  let zi:=fun(E:Nat×List (List UInt8)×List (List (List UInt8)×List Int×List (List UInt8×Int×Bool×Unit)×List (Int×Int×Int×List UInt8×Bool×Unit)×Unit))=>bb (zh E)
  let zj:=fun(E:Nat×List (List UInt8)×List (List (List UInt8)×List Int×List (List UInt8×Int×Bool×Unit)×List (Int×Int×Int×List UInt8×Bool×Unit)×Unit)) (F:Nat)=>gA E.2.1 (bd F (zh E))
  let zk:=aJ 1
  let zl:=fun(F:Nat)=>(↑F:Int)+1
  let zm:=@bc (List UInt8)=@bc (List UInt8)
  let zn:=C.eR 1=C.eR 1/\f.1.1=f.1.1/\True
  let zo:=f.2.1=f.2.1
  let zp:=fun(E:Nat×List (List UInt8)×List (List (List UInt8)×List Int×List (List UInt8×Int×Bool×Unit)×List (Int×Int×Int×List UInt8×Bool×Unit)×Unit))=>E.2.2++[(cU (ze E).1).1]
  let zq:=@bc (List (List UInt8)×List Int×List (List UInt8×Int×Bool×Unit)×List (Int×Int×Int×List UInt8×Bool×Unit)×Unit)=@bc (List (List UInt8)×List Int×List (List UInt8×Int×Bool×Unit)×List (Int×Int×Int×List UInt8×Bool×Unit)×Unit)
  let zr:=fun(E:Nat×List (List UInt8)×List (List (List UInt8)×List Int×List (List UInt8×Int×Bool×Unit)×List (Int×Int×Int×List UInt8×Bool×Unit)×Unit))=>(zh E=zh E/\(cU (ze E).1).1.2.1=(cU (ze E).1).1.2.1/\(cU (ze E).1).1.2.2.1=(cU (ze E).1).1.2.2.1/\(cU (ze E).1).1.2.2.2.1=(cU (ze E).1).1.2.2.2.1/\True)/\@bc (Int×Int×Int×List UInt8×Bool×Unit)=@bc (Int×Int×Int×List UInt8×Bool×Unit)/\@bc (List UInt8×Int×Bool×Unit)=@bc (List UInt8×Int×Bool×Unit)/\@bc Int=@bc Int/\zm/\zn/\zo/\zp E=zp E/\zq/\zm/\True
  (∃(x:zb),la zc s (bh x) (bg x).1 (bg x).2/\(0=(↑(bh x):Int)/\[s]=(bg x).1/\@bc (List (List UInt8)×List Int×List (List UInt8×Int×Bool×Unit)×List (Int×Int×Int×List UInt8×Bool×Unit)×Unit)=(bg x).2/\True)/\[s]=(bg x).1/\@bc (List (List UInt8)×List Int×List (List UInt8×Int×Bool×Unit)×List (Int×Int×Int×List UInt8×Bool×Unit)×Unit)=(bg x).2/\True)/\∀E:Nat×List (List UInt8)×List (List (List UInt8)×List Int×List (List UInt8×Int×Bool×Unit)×List (Int×Int×Int×List UInt8×Bool×Unit)×Unit),la zc s E.1 E.2.1 E.2.2->bb E.2.1<=aM->((decide (zd E))=true->(0<=(↑E.1:Int)/\zd E)/\True/\(True->((!aL.isNil (aI (ze E).2.2))=true->True/\f=f/\([],[],aI (ze E).2.2,())=zg)/\((!aL.isNil (aI (ze E).2.2))=false->True/\((!aL.isNil (aI (cU (ze E).1).2))=true->True/\f=f/\([],[],aI (cU (ze E).1).2,())=zg)/\((!aL.isNil (aI (cU (ze E).1).2))=false->(E.2.2=E.2.2/\bb E.2.2+bb [(cU (ze E).1).1]<=1000000000)/\(zi E<=aM->(∃(x:Nat),x<=zi E/\(0=(↑x:Int)/\E.2.1=gA E.2.1 (bd x (zh E))/\True)/\E.2.1=gA E.2.1 (bd x (zh E))/\True)/\∀F:Nat,F<=zi E->((decide ((↑F:Int)<(↑(zi E):Int)))=true->(0<=(↑F:Int)/\(↑F:Int)<(↑(zi E):Int))/\True/\((!da (zj E F) fun(x:za)=>x == nth Ty.str (zh E) F)=true->(zj E F=zj E F/\bb (zj E F)+bb [nth Ty.str (zh E) F]<=1000000000)/\(aJ (↑F:Int)->zk->aJ (zl F)/\∃(x':Nat),x'<=zi E/\zi E-x'<zi E-F/\(zl F=(↑x':Int)/\zj E F++[nth Ty.str (zh E) F]=gA E.2.1 (bd x' (zh E))/\True)/\zj E F++[nth Ty.str (zh E) F]=gA E.2.1 (bd x' (zh E))/\zr E))/\((!da (zj E F) fun(x:za)=>x == nth Ty.str (zh E) F)=false->aJ (↑F:Int)->zk->aJ (zl F)/\∃(x':Nat),x'<=zi E/\zi E-x'<zi E-F/\(zl F=(↑x':Int)/\zj E F=gA E.2.1 (bd x' (zh E))/\True)/\zj E F=gA E.2.1 (bd x' (zh E))/\zr E))/\((decide ((↑F:Int)<(↑(zi E):Int)))=false->aJ (↑E.1:Int)->zk->aJ ((↑E.1:Int)+1)/\∃(x':zb),la zc s (bh x') (bg x').1 (bg x').2/\7-bh x'<7-E.1/\((↑E.1:Int)+1=(↑(bh x'):Int)/\zj E F=(bg x').1/\zp E=(bg x').2/\True)/\zj E F=(bg x').1/\zp E=(bg x').2/\zq/\zm/\zn/\zo/\True))))))/\((decide (zd E))=false->True/\f=f/\(E.2.1,E.2.2,aL.nil,())=zg)) (by kernel_rfl) ?_
 dsimp -iota -proj -eta only;refine⟨(⟨(0,[s],[]),la.zero _ _,⟨rfl,rfl,rfl,ba⟩,(by trivial)⟩),fun E q_0 h0=>iL (fun h1=>⟨?a,ba,fun h2=>iB (fun h3=>(by rw[q_0.SS (jB hp) (by omega) (fun e=>by rw[aP.2 e]at h3;cases h3)];exact⟨ba,rfl,rfl⟩)) (fun h3=>⟨ba,iB (fun h4=>(by rw[q_0.U9 (by omega) (aP.1 h3) (fun e=>by rw[aP.2 e]at h4;cases h4)];exact⟨ba,rfl,rfl⟩)) (fun h4=>⟨⟨rfl,q_0.Xk⟩,fun h5=>⟨(⟨0,b6 _,⟨rfl,rfl,ba⟩,rfl,ba⟩),fun F q_1=>iL (fun h6=>⟨?b,ba,iB (fun h7=>⟨⟨rfl,q_0.Wu (jB hp) (Dp (aP.1 h3) (aP.1 h4)) _⟩,fun h8 h9=>⟨?c,(⟨F+1,by omega,by omega,⟨by omega,Le (by omega) ‹_›,ba⟩,Le (by omega) ‹_›,(by trivial)⟩)⟩⟩) (fun h7 h8 h9=>⟨?d,(⟨F+1,by omega,by omega,⟨by omega,Lf (by omega) ‹_›,ba⟩,Lf (by omega) ‹_›,(by trivial)⟩)⟩)⟩) (fun h6 h7 h8=>⟨?e,(by exact⟨(E.1+1,_,_),q_0.next (jB hp) (by omega) (Dp (aP.1 h3) (aP.1 h4)),by have:=q_0.room (jB hp) (by omega) (Dp (aP.1 h3) (aP.1 h4));simp only;omega,⟨by simp only;omega,Lg (by omega),rfl,ba⟩,Lg (by omega),rfl,(by trivial)⟩)⟩)⟩⟩)⟩)⟩) (fun h1=>(by rw[q_0.done (by omega)];exact⟨ba,rfl,rfl⟩))⟩
 case a|b=>omega
 case c|d|e=>simp only[aJ,aM]at*;omega
def Tryz.Kz:bX Tryz.prog Tryz.B.eT Tryz.X 12 false (aV Tryz.aW [.obj 0,.d .str] (fun _ x=>x.2.1.1.length<=6) Tryz.DL):=
 bE (B:=(lX Tryz.B [17])) (X:=Tryz.X) (bO.hint (l:=[17]) Tryz.TY) Tryz.func12 (by kernel_rfl) (fun(a:CD [.obj 0,.d .str]) (x:PD Tryz.aW)=>Tryz.Ri a.1 x) (fun(a:CD [.obj 0,.d .str]) (x:PD Tryz.aW) hw hp=>Ky a.1 x hw hp)
def TZ(n:Int)(hw:gU [.int .i64] n)(hp:(fun n=>0<=n/\n<=1000000) n):(dM Tryz.B [] Tryz.f91 [] [.int .i64] [.int .i64] (fun x y=>y=(fun n=>cL n) x) n).holds:=by
 refine holds_of (p:=
  let za:=aJ (16:Int)
  let zb:=aJ (n+(16:Int))
  let zc:=n+(16:Int)-(1:Int)
  aJ n->za->zb/\(zb->aJ (1:Int)->aJ zc/\(16:Int)≠(0:Int)/\∀E:Int,E=Int.tdiv zc (16:Int)->aJ zc->za->aJ E/\∀F:Int,F=E*(16:Int)->aJ E->za->aJ F/\F=cL n)) (by kernel_rfl) ?_
 dsimp -iota -proj -eta only;refine fun h0 h1=>⟨?a,fun h2 h3=>⟨?b,(by omega),fun E q_0 h4 h5=>⟨?c,fun F q_1 h6 h7=>⟨?d,?e⟩⟩⟩⟩
 case a|b=>simp only[aJ]at*;omega
 case c|d|e=>subst_vars;rw[Int.tdiv_eq_ediv_of_nonneg (by omega)];(try unfold cL);(try simp only[aJ]);omega
def Tryz.T0:bY Tryz.prog Tryz.B.eT Tryz.X 91 [.int .i64] [.int .i64] (fun n=>0<=n/\n<=1000000) (fun x y=>y=(fun n=>cL n) x):=
 cF (X:=Tryz.X) (bR Tryz.bQ) Tryz.func91 (by kernel_rfl) (fun _=>[]) (fun x hw hp=>TZ x hw hp)
def T3(a:Int×Int×Unit)(b:Int×Int×Unit)(hw:gU [aZ,aZ] (a,b))(hp:(fun x=>oU x.1/\oU x.2) (a,b)):(dM Tryz.B [] Tryz.f111 [] [aZ,aZ] [.bool] (fun x y=>y=(fun x=>ig x.1 x.2) x) (a,b)).holds:=by
 refine holds_of (p:=
  let za:=true=ig a b
  let zb:=a.1+a.2.1
  let zc:=b.1+b.2.1
  ((decide (a.2.1<=0))=true->za)/\((decide (a.2.1<=0))=false->((decide (b.2.1<=0))=true->za)/\((decide (b.2.1<=0))=false->aJ a.1->aJ a.2.1->aJ zb/\((decide (zb<=b.1))=true->za)/\((decide (zb<=b.1))=false->aJ b.1->aJ b.2.1->aJ zc/\decide (zc<=a.1)=ig a b)))) (by kernel_rfl) ?_
 dsimp -iota -proj -eta only;dsimp only at hp;simp only[oU]at hp;refine iE (fun h0 =>?a) (fun h0=>iE (fun h1 =>?b) (fun h1 h2 h3=>⟨?c,iE (fun h4 =>?d) (fun h4 h5 h6=>⟨?e,?f⟩)⟩))
 case a|b|d|f=>rw[dy];simp only[ig,Bool.or_eq_true,decide_eq_true_eq,true_iff];omega
 case c|e=>simp only[aJ]at*;omega
def Tryz.I5:bY Tryz.prog Tryz.B.eT Tryz.X 111 [aZ,aZ] [.bool] (fun x=>oU x.1/\oU x.2) (fun x y=>y=(fun x=>ig x.1 x.2) x):=
 cF (X:=Tryz.X) (bR Tryz.bQ) Tryz.func111 (by kernel_rfl) (fun _=>[]) (fun x hw hp=>T3 x.1 x.2 hw hp)
def Tryz.spZ25:Bool×aT:=(true,cE [aZ,aZ] [.bool] (fun x=>oU x.1/\oU x.2) (fun x=>ig x.1 x.2))
def Tryz.FD:List (FuncId×(Bool×aT)):=[(111,Tryz.spZ25)]
def Tryz.KA:bO Tryz.prog Tryz.B Tryz.X Tryz.FD:=
 aQ (aE Tryz.I5) (bR Tryz.bQ)
def Tryz.I6:List (FuncId×(Bool×aT)):=[(110,(false,gx Tryz.B Tryz.FD Tryz.f110 []))]
def Tryz.N5:bO Tryz.prog Tryz.B Tryz.X Tryz.I6:=
 aQ (eQ Tryz.KA Tryz.func110 (by kernel_rfl) []) (bR Tryz.bQ)
def FF:dY:=[(0,fun st=>{X:=Nat,inv:=fun i=>i<=(cX (.slice aZ) st 0).length/\∀j,j<i->ig (Sj aZ st (Ms st 1 0)) (nth aZ (cX (.slice aZ) st 0) j)=true,cD:=fun i=>(cX (.slice aZ) st 0).length-i,bM:=fun i=>[(8,sI i)],keep:=[0,1,7]})]
def Tryz.I7:List (FuncId×(Bool×aT)):=[(126,(false,gx Tryz.B Tryz.I6 Tryz.f126 FF))]
def Tryz.N6:bO Tryz.prog Tryz.B Tryz.X Tryz.I7:=
 aQ (eQ Tryz.N5 Tryz.func126 (by kernel_rfl) FF) (bR Tryz.bQ)
def Tryz.I8:List (FuncId×(Bool×aT)):=[(109,(false,gx Tryz.B Tryz.I7 Tryz.f109 []))]
def Tryz.N7:bO Tryz.prog Tryz.B Tryz.X Tryz.I8:=
 aQ (eQ Tryz.N6 Tryz.func109 (by kernel_rfl) []) (bR Tryz.bQ)
def VP(r:Int×Int×Unit)(l:List (D aZ))(hw:gU [aZ,.slice aZ] (r,l))(hp:(fun x=>oU x.1/\∀y∈x.2,oU y) (r,l)):(dM Tryz.B Tryz.I8 Tryz.f92 [] [aZ,.slice aZ] [.bool] (fun x y=>y=(fun x=>iY x.1 x.2) x) (r,l)).holds:=by
 refine holds_of (p:=
  let za:=bb l
  za<=aM->(∃(x:Nat),(x<=za/\∀(j:Nat),j<x->ig r (nth aZ l j)=true)/\(0=(↑x:Int)/\True)/\True)/\∀E:Nat,(E<=za/\∀(j:Nat),j<E->ig r (nth aZ l j)=true)->((decide ((↑E:Int)<(↑za:Int)))=true->(0<=(↑E:Int)/\(↑E:Int)<(↑za:Int))/\(oU r/\oU (nth aZ l E))/\((!ig r (nth aZ l E))=true->(!decide ((↑E:Int)>=0))=iY r l)/\((!ig r (nth aZ l E))=false->aJ (↑E:Int)->aJ 1->aJ ((↑E:Int)+1)/\∃(x':Nat),(x'<=za/\∀(j:Nat),j<x'->ig r (nth aZ l j)=true)/\za-x'<za-E/\((↑E:Int)+1=(↑x':Int)/\True)/\(r.1=r.1/\r.2.1=r.2.1/\True)/\True))/\((decide ((↑E:Int)<(↑za:Int)))=false->(!decide ((-1:Int)>=0))=iY r l)) (by kernel_rfl) ?_
 dsimp -iota -proj -eta only;dsimp only at hp;refine fun h0=>⟨?a,fun E q_0=>iL (fun h1=>⟨(by omega),⟨hp.1,hp.2 _ (dQ (by omega))⟩,iB (fun h2=>(by rw[yZ (j:=E) (by omega) h2];simp)) (fun h2 h3 h4=>⟨(by simp only[aJ,aM]at*;omega),(by exact⟨E+1,⟨by omega,fun j hj=>by by_cases e:j=E;(subst e;exact h2);exact q_0.2 j (by omega)⟩,by omega,⟨by omega,ba⟩,(by trivial)⟩)⟩)⟩) (fun h1=>(by rw[B1 fun j hj=>q_0.2 j (by omega)];simp))⟩
 case a=>refine⟨0,?_⟩;(repeat' (first|exact trivial|rfl|omega|assumption|apply dv))
def Tryz.VQ:bY Tryz.prog Tryz.B.eT Tryz.X 92 [aZ,.slice aZ] [.bool] (fun x=>oU x.1/\∀y∈x.2,oU y) (fun x y=>y=(fun x=>iY x.1 x.2) x):=
 cF (X:=Tryz.X) Tryz.N7 Tryz.func92 (by kernel_rfl) (fun _=>[]) (fun x hw hp=>VP x.1 x.2 hw hp)
def Tryz.I9:List (FuncId×(Bool×aT)):=[(45,Tryz.spZ0),(17,Tryz.spZ1),(91,(true,cE [.int .i64] [.int .i64] (fun n=>0<=n/\n<=1000000) (fun n=>cL n))),(111,Tryz.spZ25),(92,(true,cE [aZ,.slice aZ] [.bool] (fun x=>oU x.1/\∀y∈x.2,oU y) (fun x=>iY x.1 x.2)))]
def Tryz.N8:bO Tryz.prog Tryz.B Tryz.X Tryz.I9:=
 aQ (aE Tryz.jl) (aQ (aE Tryz.im) (aQ (aE Tryz.T0) (aQ (aE Tryz.I5) (aQ (aE Tryz.VQ) (bR Tryz.bQ)))))
def Ja(s:List Int)(l:List (D aZ)):dY:=[
 (0,fun st=>{X:=Nat,inv:=fun i=>i<=s.length/\∀j,j<i->1<=(nth (.int .i64) s j:Int)/\(nth (.int .i64) s j:Int)<=40,cD:=fun i=>s.length-i,bM:=fun i=>[(26,sI i)],keep:=[0,1,24,25]}),
 (2,fun st=>{X:=Nat,inv:=fun i=>i<=l.length/\∀j,j<i->nN (nth aZ l j),cD:=fun i=>l.length-i,bM:=fun i=>[(40,sI i)],keep:=[0,1,38,39]}),
 (4,fun st=>{X:=Nat×List (D aZ)×List Int,inv:=fun x=>x.1<=s.length/\gR x.2.1 (s.drop x.1) x.2.2=gR l s []/\(∀y∈x.2.1,nN y)/\x.2.1.length=l.length+x.1/\x.2.2.length=x.1,cD:=fun x=>s.length-x.1,bM:=fun x=>[(68,sI x.1),(10,.s (.one (.app aZ x.2.1 (bH st 10)))),(11,.s (.one (.app (.int .i64) x.2.2 (bH st 11))))],aF:=fun x=>[(bH st 10,.tok aZ x.2.1),(bH st 11,.tok (.int .i64) x.2.2)],keep:=[66,67],gQ:=[bH st 10,bH st 11]}),
 (6,fun st=>{X:=Nat,inv:=fun j=>j<=32/\gy (cX (.slice aZ) st 10) (Mh (.int .i64) st (bH st 14) 1) (40-j) (16*(j:Int))=gy (cX (.slice aZ) st 10) (Mh (.int .i64) st (bH st 14) 1) 40 0,cD:=fun j=>40-j,bM:=fun j=>[],aF:=fun j=>[(bH st 14,.cells 181 [.d (.int .i64) (16*(j:Int)),.d (.int .i64) (Mh (.int .i64) st (bH st 14) 1)])],keep:=[4,5,10,11,13,14,66,67,68,69,70,71,72,73,74],gQ:=[bH st 14]})]
def T4(s:List Int)(l:List (D aZ))(hw:gU [.slice (.int .i64),.slice aZ] (s,l)):(dM (lX Tryz.B [65]) Tryz.I9 Tryz.f62 (Ja s l) [.slice (.int .i64),.slice aZ] [.slice (.int .i64),.err] (fun x y=>y=(fun x=>cM x) x) (s,l)).holds:=by
 refine holds_of (p:=
  let za:=bb s
  let zb:=za<=aM
  let zc:=(↑za:Int)
  let zd:=cM (s,l)
  let ze:=([],aL.no 2)=zd
  let zf:=bb l
  let zg:=Ty.int bm
  let zh:=fun(E:Nat)=>(↑E:Int)
  let zi:=([],aL.no 1)=zd
  let zj:=aJ 1
  let zk:=@bc Int=@bc Int/\True
  let zl:=Int×Int×Unit
  let zm:=Nat×List zl×List Int
  let zn:=gR l s (@bc Int)
  let zo:=fun(G:Nat×List (Int×Int×Unit)×List Int)=>cL (nth zg s G.1)
  let zp:=fun(G:Nat×List (Int×Int×Unit)×List Int)=>gy G.2.1 (zo G) 40 0
  let zq:=fun(I:Nat)=>16*zh I
  zb->((decide (zc > 6))=true->ze)/\((decide (zc > 6))=false->zf<=aM->((decide ((↑zf:Int) > 20))=true->ze)/\((decide ((↑zf:Int) > 20))=false->zb->(∃(x:Nat),(x<=za/\∀(j:Nat),j<x->1<=nth zg s j/\nth zg s j<=40)/\(0=(↑x:Int)/\True)/\True)/\∀E:Nat,(E<=za/\∀(j:Nat),j<E->1<=nth zg s j/\nth zg s j<=40)->((decide (zh E<zc))=true->(0<=zh E/\zh E<zc)/\((decide (nth zg s E<1))=true->zi)/\((decide (nth zg s E<1))=false->((decide (nth zg s E > 40))=true->zi)/\((decide (nth zg s E > 40))=false->aJ (zh E)->zj->aJ (zh E+1)/\∃(x':Nat),(x'<=za/\∀(j:Nat),j<x'->1<=nth zg s j/\nth zg s j<=40)/\za-x'<za-E/\(zh E+1=(↑x':Int)/\True)/\zk)))/\((decide (zh E<zc))=false->zf<=aM->(∃(x:Nat),(x<=zf/\∀(j:Nat),j<x->nN (nth aZ l j))/\(0=(↑x:Int)/\True)/\True)/\∀F:Nat,(F<=zf/\∀(j:Nat),j<F->nN (nth aZ l j))->((decide (zh F<(↑zf:Int)))=true->(0<=zh F/\zh F<(↑zf:Int))/\((decide ((nth aZ l F).1<0))=true->zi)/\((decide ((nth aZ l F).1<0))=false->((decide ((nth aZ l F).1 > 256))=true->zi)/\((decide ((nth aZ l F).1 > 256))=false->((decide ((nth aZ l F).2.1<0))=true->zi)/\((decide ((nth aZ l F).2.1<0))=false->((decide ((nth aZ l F).2.1 > 256))=true->zi)/\((decide ((nth aZ l F).2.1 > 256))=false->aJ (zh F)->zj->aJ (zh F+1)/\∃(x':Nat),(x'<=zf/\∀(j:Nat),j<x'->nN (nth aZ l j))/\zf-x'<zf-F/\(zh F+1=(↑x':Int)/\True)/\zk)))))/\((decide (zh F<(↑zf:Int)))=false->zf<=1000000000/\(zb->(∃(x:zm),(bh x<=za/\gR (bg x).1 (bj (bh x) s) (bg x).2=zn/\(∀(y:zl),y∈(bg x).1->nN y)/\bb (bg x).1=zf+bh x/\bb (bg x).2=bh x)/\(0=(↑(bh x):Int)/\l=(bg x).1/\@bc Int=(bg x).2/\True)/\l=(bg x).1/\@bc Int=(bg x).2/\True)/\∀G:Nat×List (Int×Int×Unit)×List Int,G.1<=za/\gR G.2.1 (bj G.1 s) G.2.2=zn/\(∀(y:zl),y∈G.2.1->nN y)/\bb G.2.1=zf+G.1/\bb G.2.2=G.1->((decide ((↑G.1:Int)<zc))=true->(0<=(↑G.1:Int)/\(↑G.1:Int)<zc)/\(0<=nth zg s G.1/\nth zg s G.1<=1000000)/\(∃(x:Nat),(x<=32/\gy G.2.1 (zo G) (40-x) (16*(↑x:Int))=zp G)/\True/\(0=16*(↑x:Int)/\zo G=zo G/\True)/\True)/\∀I:Nat,I<=32/\gy G.2.1 (zo G) (40-I) (zq I)=zp G->(oU (zq I,zo G,())/\∀(y:zl),y∈G.2.1->oU y)/\((!iY (zq I,zo G,()) G.2.1)=true->aJ (zq I)->aJ 16->aJ (zq I+16)/\∃(x':Nat),(x'<=32/\gy G.2.1 (zo G) (40-x') (16*(↑x':Int))=zp G)/\40-x'<40-I/\True/\(zq I+16=16*(↑x':Int)/\zo G=zo G/\True)/\G.2.1=G.2.1/\G.2.2=G.2.2/\zk)/\((!iY (zq I,zo G,()) G.2.1)=false->aJ (zq I)->aJ (zo G)->aJ (zq I+zo G)/\((decide (zq I+zo G > 256))=true->([],aL.no 8)=zd)/\((decide (zq I+zo G > 256))=false->(G.2.1=G.2.1/\bb G.2.1+bb [(zq I,zo G,())]<=1000000000)/\(G.2.2=G.2.2/\bb G.2.2+bb [zq I]<=1000000000)/\(aJ (↑G.1:Int)->zj->aJ ((↑G.1:Int)+1)/\∃(x':zm),(bh x'<=za/\gR (bg x').1 (bj (bh x') s) (bg x').2=zn/\(∀(y:zl),y∈(bg x').1->nN y)/\bb (bg x').1=zf+bh x'/\bb (bg x').2=bh x')/\za-bh x'<za-G.1/\((↑G.1:Int)+1=(↑(bh x'):Int)/\G.2.1++[(zq I,zo G,())]=(bg x').1/\G.2.2++[zq I]=(bg x').2/\True)/\G.2.1++[(zq I,zo G,())]=(bg x').1/\G.2.2++[zq I]=(bg x').2/\zk))))/\((decide ((↑G.1:Int)<zc))=false->(G.2.2,aL.nil)=zd))))))) (by kernel_rfl) ?_
 dsimp -iota -proj -eta only;refine fun h0=>iL (fun h1 =>?a) (fun h1 h2=>iL (fun h3 =>?b) (fun h3 h4=>⟨?c,fun E q_0=>iL (fun h5=>⟨?d,iL (fun h6 =>?e) (fun h6=>iL (fun h7 =>?f) (fun h7 h8 h9=>⟨?g,(by(try dsimp only[D]at*);exact⟨E+1,⟨by omega,fun j hj=>by by_cases e:j=E;(subst e;(try dsimp only[D]);omega);exact q_0.2 j (by omega)⟩,by omega,⟨by omega,ba⟩,(by trivial)⟩)⟩))⟩) (fun h5 h6=>⟨?h,fun F q_1=>iL (fun h7=>⟨?i,iL (fun h8 =>?j) (fun h8=>iL (fun h9 =>?k) (fun h9=>iL (fun h10 =>?l) (fun h10=>iL (fun h11 =>?m) (fun h11 h12 h13=>⟨?n,(by(try dsimp only[D]at*);exact⟨F+1,⟨by omega,fun j hj=>by by_cases e:j=F;(subst e;unfold nN;(try dsimp only[D]);omega);exact q_1.2 j (by omega)⟩,by omega,⟨by omega,ba⟩,(by trivial)⟩)⟩))))⟩) (fun h7=>⟨?o,fun h8=>⟨(⟨(0,l,[]),⟨b6 _,rfl,(fun y (hy:y∈l)=>by obtain⟨i,hi,e⟩:=fN (t:=aZ) hy;rw[<-e];exact q_1.2 i (by omega)),rfl,rfl⟩,(by trivial),(by trivial)⟩),fun G q_2=>iL (fun h9=>⟨?p,(by have:=q_0.2 G.1 (by omega);(try dsimp only[D]at*);omega),?q,fun I q_3=>⟨?r,iB (fun h10 h11 h12=>⟨?s,?t⟩) (fun h10 h11 h12=>⟨?u,iL (fun h13 =>?v) (fun h13=>⟨?w,?x,fun h14 h15=>⟨?y,?z⟩⟩)⟩)⟩⟩) (fun h9=>(by rw[wX (by omega) (fun j hj=>q_0.2 j (by omega)) (fun j hj=>q_1.2 j (by omega)),<-q_2.2.1,JK (by omega)]))⟩⟩)⟩)⟩))
 case a|b=>rw[y5 (by omega)]
 case c|h|q=>refine⟨0,?_⟩;(repeat' (first|exact trivial|rfl|omega|assumption|apply dv))
 case d|i|o|p=>omega
 case e|f=>(try dsimp only[D]at*);rw[y7 (by omega) (i:=E) (by omega) (by(try dsimp only[D]);omega)]
 case g|n|s|y=>simp only[aJ,aM]at*;omega
 case j|k|l|m=>(try dsimp only[D]at*);rw[wW (by omega) (i:=F) (by omega) (by unfold nN;(try dsimp only[D]);omega)]
 case r=>
  have hs:=q_0.2 G.1 (by omega);have hr:=ly hs.1 hs.2;exact⟨by refine⟨?_,?_,?_,?_⟩ <;> simp only <;> omega,fun y hy=>(q_2.2.2.1 y hy).oU⟩
 case t=>
  have hf:iY (16*(I:Int),cL (nth (.int .i64) s G.1),()) G.2.1=false:=by assumption
  have hn:=O4 q_2.2.2.1 hf;exact⟨I+1,⟨by omega,by rw[<-q_3.2,show 40-I=(40-(I+1))+1 by omega,El hf,show 16*((I+1:Nat):Int)=16*(I:Int)+16 by omega]⟩,by omega,ba,⟨by omega,rfl,ba⟩,(by trivial)⟩
 case u=>
  have hs:=q_0.2 G.1 (by omega);have hr:=ly hs.1 hs.2;have hf:iY (16*(I:Int),cL (nth (.int .i64) s G.1),()) G.2.1=true:=by assumption
  have hb:=q_3.2.symm.trans (qg hf);simp only[aJ];omega
 case v=>
  have hs:=q_0.2 G.1 (by omega);have hr:=ly hs.1 hs.2;have hf:iY (16*(I:Int),cL (nth (.int .i64) s G.1),()) G.2.1=true:=by assumption
  have hb:=q_3.2.symm.trans (qg hf);rw[wX (by omega) (fun j hj=>q_0.2 j (by omega)) (fun j hj=>q_1.2 j (by omega)),<-q_2.2.1,rT (by omega),if_pos (by rw[hb];omega)]
 case w|x=>simp only[bu,true_and];omega
 case z=>
  have hs:=q_0.2 G.1 (by omega);have hr:=ly hs.1 hs.2;have hf:iY (16*(I:Int),cL (nth (.int .i64) s G.1),()) G.2.1=true:=by assumption
  have hb:=q_3.2.symm.trans (qg hf);exact⟨(G.1+1,_,_),⟨by omega,by rw[<-q_2.2.1,rT (k:=G.1) (by omega),if_neg (by rw[hb];omega),hb],Sp q_2.2.2.1 (by refine⟨?_,?_,?_,?_⟩ <;> simp only <;> omega),by simp only[bt,bu];omega,by simp only[bt,bu];omega⟩,by simp only;omega,⟨by simp only;omega,rfl,rfl,ba⟩,(by trivial)⟩
def Tryz.T5:bY Tryz.prog Tryz.B.eT Tryz.X 62 [.slice (.int .i64),.slice aZ] [.slice (.int .i64),.err] (fun _=>True) (fun x y=>y=(fun x=>cM x) x):=
 cF (B:=(lX Tryz.B [65])) (X:=Tryz.X) (bO.hint (l:=[65]) Tryz.N8) Tryz.func62 (by kernel_rfl) (fun x=>Ja x.1 x.2) (fun x hw hp=>T4 x.1 x.2 hw)
def Jb(l:List (D aB))(s:List UInt8):dY:=[
 (0,fun st=>{X:=Nat×Int×Int,inv:=fun x=>x.1<=l.length/\iV l s x.1 0 x.2.1 x.2.2,cD:=fun x=>l.length-x.1,bM:=fun x=>[(14,sI x.1),(6,sI x.2.1),(7,sI x.2.2)],keep:=[1,12,13]}),
 (2,fun st=>{X:=Nat×Int×Int,inv:=fun x=>x.1<=(nth aB l (cX (.int .i64) st 14).toNat).2.2.1.length/\iV l s (cX (.int .i64) st 14).toNat x.1 x.2.1 x.2.2,cD:=fun x=>(nth aB l (cX (.int .i64) st 14).toNat).2.2.1.length-x.1,bM:=fun x=>[(22,sI x.1),(6,sI x.2.1),(7,sI x.2.2)],keep:=[1,8,9,12,13,14,15,16,17,18,19,20,21]})]
def T6(l:List (D aB))(s:List UInt8)(hw:gU [.slice aB,.str] (l,s)):(dM Tryz.B [] Tryz.f127 (Jb l s) [.slice aB,.str] [.int .i64,.int .i64] (fun x y=>y=(fun x=>eB x) x) (l,s)).holds:=by
 refine holds_of (p:=
  let za:=bb l
  let zb:=Nat×Int×Int
  let zc:=fun(E:Nat×Int×Int)=>(↑E.1:Int)
  let zd:=fun(E:Nat×Int×Int)=>(nth aB l E.1).2.2.1
  let ze:=fun(E:Nat×Int×Int)=>bb (zd E)
  let zf:=aJ 1
  let zg:=fun(F:Nat×Int×Int)=>zc F+1
  let zh:=fun(E:Nat×Int×Int)=>(nth aB l E.1).2.2.2.1
  let zi:=fun(E:Nat×Int×Int)=>((nth aB l E.1).1=(nth aB l E.1).1/\(nth aB l E.1).2.1=(nth aB l E.1).2.1/\zd E=zd E/\zh E=zh E/\True)/\@bc (Int×Int×Int×List UInt8×Bool×Unit)=@bc (Int×Int×Int×List UInt8×Bool×Unit)/\@bc (List UInt8×Int×Bool×Unit)=@bc (List UInt8×Int×Bool×Unit)/\@bc Int=@bc Int/\@bc (List UInt8)=@bc (List UInt8)/\True
  let zj:=fun(F:Nat×Int×Int) (E:Nat×Int×Int)=>aJ (zc F)->zf->aJ (zg F)/\∃(x':zb),(bh x'<=ze E/\iV l s E.1 (bh x') (bg x').1 (bg x').2)/\ze E-bh x'<ze E-F.1/\(zg F=(↑(bh x'):Int)/\F.2.1=(bg x').1/\F.2.2=(bg x').2/\True)/\zi E
  let zk:=eB (l,s)
  za<=aM->(∃(x:zb),(bh x<=za/\iV l s (bh x) 0 (bg x).1 (bg x).2)/\(0=(↑(bh x):Int)/\(-1:Int)=(bg x).1/\(-1:Int)=(bg x).2/\True)/\True)/\∀E:Nat×Int×Int,E.1<=za/\iV l s E.1 0 E.2.1 E.2.2->((decide (zc E<(↑za:Int)))=true->(0<=zc E/\zc E<(↑za:Int))/\(ze E<=aM->(∃(x:zb),(bh x<=ze E/\iV l s E.1 (bh x) (bg x).1 (bg x).2)/\(0=(↑(bh x):Int)/\E.2.1=(bg x).1/\E.2.2=(bg x).2/\True)/\True)/\∀F:Nat×Int×Int,F.1<=ze E/\iV l s E.1 F.1 F.2.1 F.2.2->((decide (zc F<(↑(ze E):Int)))=true->(0<=zc F/\zc F<(↑(ze E):Int))/\((!(nth aS (zd E) F.1).1 == s)=true->zj F E)/\((!(nth aS (zd E) F.1).1 == s)=false->((!(nth aS (zd E) F.1).2.2.1)=true->(zc E,zc F)=zk)/\((!(nth aS (zd E) F.1).2.2.1)=false->((decide (F.2.1<0))=true->aJ (zc F)->zf->aJ (zg F)/\∃(x':zb),(bh x'<=ze E/\iV l s E.1 (bh x') (bg x').1 (bg x').2)/\ze E-bh x'<ze E-F.1/\(zg F=(↑(bh x'):Int)/\zc E=(bg x').1/\zc F=(bg x').2/\True)/\zi E)/\((decide (F.2.1<0))=false->zj F E))))/\((decide (zc F<(↑(ze E):Int)))=false->aJ (zc E)->zf->aJ (zg E)/\∃(x':zb),(bh x'<=za/\iV l s (bh x') 0 (bg x').1 (bg x').2)/\za-bh x'<za-E.1/\(zg E=(↑(bh x'):Int)/\F.2.1=(bg x').1/\F.2.2=(bg x').2/\True)/\True)))/\((decide (zc E<(↑za:Int)))=false->E.2=zk)) (by kernel_rfl) ?_
 dsimp -iota -proj -eta only;refine fun h0=>⟨(⟨(0,-1,-1),⟨by omega,iV.start l s⟩,⟨rfl,rfl,rfl,ba⟩,ba⟩),fun E q_0=>iL (fun h1=>⟨?a,fun h2=>⟨(⟨(0,E.2),⟨by omega,q_0.2⟩,⟨rfl,rfl,rfl,ba⟩,ba⟩),fun F q_1=>iL (fun h3=>⟨?b,⟨fun h4 h5 h6=>⟨?c,?d⟩,fun h4=>iB (fun h5 =>?e) (fun h5=>iL (fun h6 h7 h8=>⟨?f,?g⟩) (fun h6 h7 h8=>⟨?h,?i⟩))⟩⟩) (fun h3 h4 h5=>⟨(by simp only[aJ,aM]at*;omega),(by exact⟨(E.1+1,F.2),⟨by omega,q_1.2.row (by omega)⟩,by simp only;omega,⟨by simp only;omega,rfl,rfl,ba⟩,(by trivial)⟩)⟩)⟩⟩) (fun h1=>((q_0.2.done (by omega)).symm))⟩
 case a|b=>omega
 case c|f|h=>
  simp only[bl,reduceCtorEq]at h4;simp only[aJ,aM]at*;omega
 case d=>
  simp only[bl,reduceCtorEq]at h4;exact⟨(F.1+1,F.2),⟨by omega,q_1.2.skip ‹_›⟩,by simp only;omega,⟨by simp only;omega,rfl,rfl,ba⟩,(by trivial)⟩
 case e=>
  simp only[bl,reduceCtorEq]at h4;exact(q_1.2.Wo (by omega) (by omega) ‹_› ‹_›).symm
 case g=>
  simp only[bl,reduceCtorEq]at h4;exact⟨(F.1+1,_,_),⟨by omega,q_1.2.Da (by omega) (by omega) ‹_› (by simp_all) (by omega)⟩,by simp only;omega,⟨by simp only;omega,rfl,rfl,ba⟩,(by trivial)⟩
 case i=>
  simp only[bl,reduceCtorEq]at h4;exact⟨(F.1+1,F.2),⟨by omega,q_1.2.more (by simp_all) (by omega)⟩,by simp only;omega,⟨by simp only;omega,rfl,rfl,ba⟩,(by trivial)⟩
def Tryz.T7:bY Tryz.prog Tryz.B.eT Tryz.X 127 [.slice aB,.str] [.int .i64,.int .i64] (fun _=>True) (fun x y=>y=(fun x=>eB x) x):=
 cF (X:=Tryz.X) (bR Tryz.bQ) Tryz.func127 (by kernel_rfl) (fun x=>Jb x.1 x.2) (fun x hw hp=>T6 x.1 x.2 hw)
def Tryz.Jc:List (FuncId×(Bool×aT)):=[(45,Tryz.spZ0),(17,Tryz.spZ1),(127,(true,cE [.slice aB,.str] [.int .i64,.int .i64] (fun _=>True) (fun x=>eB x)))]
def Tryz.N9:bO Tryz.prog Tryz.B Tryz.X Tryz.Jc:=
 aQ (aE Tryz.jl) (aQ (aE Tryz.im) (aQ (aE Tryz.T7) (bR Tryz.bQ)))
def Rj(l:List (D aB))(b:List Int)(t:D bC)(hw:gU [.slice aB,.slice (.int .i64),bC] (l,b,t))(hp:(fun x=>jP x.1/\x.2.1.length=x.1.length/\pG x.2.1) (l,b,t)):(dM Tryz.B Tryz.Jc Tryz.f112 [] [.slice aB,.slice (.int .i64),bC] [.int .i64,.err] (fun x y=>y=(fun x=>fO x.1 x.2.1 x.2.2) x) (l,b,t)).holds:=by
 refine holds_of (p:=
  let za:=eB (l,t.2.2.2.1)
  let zb:=0<=za.1
  let zc:=(nth aB l (bf za.1)).2.2.1
  let zd:=nth (Ty.int bm) b (bf za.1)
  let ze:=(nth aS zc (bf za.2)).2.1
  let zf:=fO l b t
  True/\((decide (za.1>=0))=true->(zb/\za.1<(↑(bb b):Int))/\(zb/\za.1<(↑(bb l):Int))/\(0<=za.2/\za.2<(↑(bb zc):Int))/\(aJ zd->aJ ze->aJ (zd+ze)/\(zd+ze,aL.nil)=zf))/\((decide (za.1>=0))=false->((t.2.2.2.2.1)=true->(0,aL.nil)=zf)/\((t.2.2.2.2.1)=false->(0,aL.no 6)=zf))) (by kernel_rfl) ?_
 dsimp -iota -proj -eta only;dsimp only at hp;refine⟨ba,iE (fun h0=>⟨?a,?b,?c,fun h1 h2=>⟨?d,((B2 (by omega)).symm)⟩⟩) (fun h0=>⟨fun h1=>((y8 (by omega) h1).symm),fun h1=>((wZ (by omega) h1).symm)⟩)⟩
 case a|b|c=>
  have hf:=yn (l:=l) (s:=t.2.2.2.1) (by omega);omega
 case d=>
  have hf:=yn (l:=l) (s:=t.2.2.2.1) (by omega);have hb:=pU (n:=l.length) (i:=(eB (l,t.2.2.2.1)).1) hp.2.2 hp.2.1 (by omega) hf.1;have hs:=Pa (s:=t.2.2.2.1) hp.1 (by omega);unfold Small at hs;dsimp only[D]at*;simp only[aJ];omega
def Tryz.Rl:bY Tryz.prog Tryz.B.eT Tryz.X 112 [.slice aB,.slice (.int .i64),bC] [.int .i64,.err] (fun x=>jP x.1/\x.2.1.length=x.1.length/\pG x.2.1) (fun x y=>y=(fun x=>fO x.1 x.2.1 x.2.2) x):=
 cF (X:=Tryz.X) Tryz.N9 Tryz.func112 (by kernel_rfl) (fun _=>[]) (fun x hw hp=>Rj x.1 x.2.1 x.2.2 hw hp)
def Tryz.FG:List (FuncId×(Bool×aT)):=[(112,(true,cE [.slice aB,.slice (.int .i64),bC] [.int .i64,.err] (fun x=>jP x.1/\x.2.1.length=x.1.length/\pG x.2.1) (fun x=>fO x.1 x.2.1 x.2.2)))]
def Tryz.KB:bO Tryz.prog Tryz.B Tryz.X Tryz.FG:=
 aQ (aE Tryz.Rl) (bR Tryz.bQ)
def WJ(l:List (D aB))(b:List Int)(i:Int)(t:D bC)(hw:gU [.slice aB,.slice (.int .i64),.int .i64,bC] (l,b,i,t))(hp:(fun x=>jP x.1/\x.2.1.length=x.1.length/\pG x.2.1/\0<=x.2.2.1/\x.2.2.1<x.1.length/\Small x.2.2.2.1/\Word x.2.2.2.2.2.1) (l,b,i,t)):(dM Tryz.B Tryz.FG Tryz.f93 [] [.slice aB,.slice (.int .i64),.int .i64,bC] [.int .i64,.err] (fun x y=>y=(fun x=>gS x.1 x.2.1 x.2.2.1 x.2.2.2) x) (l,b,i,t)).holds:=by
 refine holds_of (p:=
  let za:=0<=i/\i<(↑(bb b):Int)
  let zb:=nth (Ty.int bm) b (bf i)
  let zc:=t.2.2.1
  let zd:=zb+zc
  let ze:=fO l b t
  let zf:=gS l b i t
  let zg:=ze.1+zc
  let zh:=t.2.1 == 3
  let zi:=zb+t.1
  let zj:=aJ zi
  let zk:=zg-zi
  let zl:=(0,aL.no 7)=zf
  let zm:=(-2147483648:Int)
  let zn:=zd-zi
  za/\(aJ zb->aJ zc->aJ zd/\((t.2.1 != 1)=true->(jP l/\bb b=bb l/\pG b)/\((!aL.isNil ze.2)=true->(0,ze.2)=zf)/\((!aL.isNil ze.2)=false->aJ ze.1->aJ zc->aJ zg/\(zh=true->za/\(aJ zb->aJ t.1->zj/\(aJ zg->zj->aJ zk/\((decide (zk<(-500:Int)))=true->zl)/\((decide (zk<(-500:Int)))=false->((decide (zk > 500))=true->zl)/\((decide (zk > 500))=false->((decide (zk<zm))=true->zl)/\((decide (zk<zm))=false->((decide (zk > 2147483647))=true->zl)/\((decide (zk > 2147483647))=false->(zk,aL.nil)=zf)))))))/\(zh=false->((decide (zg<zm))=true->zl)/\((decide (zg<zm))=false->((decide (zg > 2147483647))=true->zl)/\((decide (zg > 2147483647))=false->(zg,aL.nil)=zf)))))/\((t.2.1 != 1)=false->(zh=true->za/\(aJ zb->aJ t.1->zj/\(aJ zd->zj->aJ zn/\((decide (zn<(-500:Int)))=true->zl)/\((decide (zn<(-500:Int)))=false->((decide (zn > 500))=true->zl)/\((decide (zn > 500))=false->((decide (zn<zm))=true->zl)/\((decide (zn<zm))=false->((decide (zn > 2147483647))=true->zl)/\((decide (zn > 2147483647))=false->(zn,aL.nil)=zf)))))))/\(zh=false->((decide (zd<zm))=true->zl)/\((decide (zd<zm))=false->((decide (zd > 2147483647))=true->zl)/\((decide (zd > 2147483647))=false->(zd,aL.nil)=zf)))))) (by kernel_rfl) ?_
 dsimp -iota -proj -eta only;dsimp only at hp;refine⟨?a,fun h0 h1=>⟨?b,iN (fun h2=>⟨(by simp_all),iB (fun h3=>((U1 ‹_› ‹_›).symm)) (fun h3 h4 h5=>⟨?c,iQ (fun h6=>⟨?d,fun h7 h8=>⟨?e,fun h9 h10=>⟨?f,iL (fun h11 =>?g) (fun h11=>iL (fun h12 =>?h) (fun h12=>iL (fun h13 =>?i) (fun h13=>iL (fun h14 =>?j) (fun h14=>(by rw[yq ‹_› ‹_›,U2 ‹_› rfl (by dsimp only[D]at*;omega)])))))⟩⟩⟩) (fun h6=>iL (fun h7 =>?k) (fun h7=>iL (fun h8 =>?l) (fun h8=>(by rw[yq ‹_› ‹_›,Di ‹_› rfl (by dsimp only[D]at*;omega)]))))⟩)⟩) (fun h2=>iQ (fun h3=>⟨?m,fun h4 h5=>⟨?n,fun h6 h7=>⟨?o,iL (fun h8 =>?p) (fun h8=>iL (fun h9 =>?q) (fun h9=>iL (fun h10 =>?r) (fun h10=>iL (fun h11 =>?s) (fun h11 =>?t))))⟩⟩⟩) (fun h3=>iL (fun h4 =>?u) (fun h4=>iL (fun h5 =>?v) (fun h5=>(by rw[AF ‹_›,Di (by simp_all) rfl (by dsimp only[D]at*;omega)])))))⟩⟩
 case a|d|i|j|m|r|s=>omega
 case b|c|e|f|n|o=>
  have hb:=pU hp.2.2.1 hp.2.1 hp.2.2.2.1 hp.2.2.2.2.1;have ht:=w4 t hp.1 hp.2.1 hp.2.2.1;have hs:=hp.2.2.2.2.2;unfold Small Word at hs;dsimp only[D]at*;simp only[aJ];omega
 case g|h=>rw[yq ‹_› ‹_›,Sw ‹_› (by dsimp only[D]at*;omega)]
 case k|l=>
  have hb:=pU hp.2.2.1 hp.2.1 hp.2.2.2.1 hp.2.2.2.2.1;have ht:=w4 t hp.1 hp.2.1 hp.2.2.1;have hs:=hp.2.2.2.2.2;unfold Small Word at hs;dsimp only[D]at*
  first|omega|(rw[yq ‹_› ‹_›,Hb ‹_› (by omega)])
 case p|q|t=>dsimp only[D]at*;omega
 case u|v=>
  have hb:=pU hp.2.2.1 hp.2.1 hp.2.2.2.1 hp.2.2.2.2.1;have ht:=w4 t hp.1 hp.2.1 hp.2.2.1;have hs:=hp.2.2.2.2.2;unfold Small Word at hs;dsimp only[D]at*
  first|omega|(rw[AF ‹_›,Hb (by simp_all) (by omega)])
def Tryz.WK:bY Tryz.prog Tryz.B.eT Tryz.X 93 [.slice aB,.slice (.int .i64),.int .i64,bC] [.int .i64,.err] (fun x=>jP x.1/\x.2.1.length=x.1.length/\pG x.2.1/\0<=x.2.2.1/\x.2.2.1<x.1.length/\Small x.2.2.2.1/\Word x.2.2.2.2.2.1) (fun x y=>y=(fun x=>gS x.1 x.2.1 x.2.2.1 x.2.2.2) x):=
 cF (X:=Tryz.X) Tryz.KB Tryz.func93 (by kernel_rfl) (fun _=>[]) (fun x hw hp=>WJ x.1 x.2.1 x.2.2.1 x.2.2.2 hw hp)
def Tryz.FH:List (FuncId×(Bool×aT)):=[(93,(true,cE [.slice aB,.slice (.int .i64),.int .i64,bC] [.int .i64,.err] (fun x=>jP x.1/\x.2.1.length=x.1.length/\pG x.2.1/\0<=x.2.2.1/\x.2.2.1<x.1.length/\Small x.2.2.2.1/\Word x.2.2.2.2.2.1) (fun x=>gS x.1 x.2.1 x.2.2.1 x.2.2.2)))]
def Tryz.KC:bO Tryz.prog Tryz.B Tryz.X Tryz.FH:=
 aQ (aE Tryz.WK) (bR Tryz.bQ)
def Rm(l:List (D aB))(b:List Int):dY:=[
 (0,fun st=>{X:=Nat,inv:=fun i=>i<=b.length/\∀j,j<i->0<=(nth (.int .i64) b j:Int)/\(nth (.int .i64) b j:Int)<=256,cD:=fun i=>b.length-i,bM:=fun i=>[(23,sI i)],keep:=[0,1,21,22]}),
 (2,fun st=>{X:=Nat×List (D aR),inv:=fun x=>x.1<=l.length/\nO l b (l.drop x.1) x.1 x.2=nO l b l 0 []/\x.2.length<=10*x.1,cD:=fun x=>l.length-x.1,bM:=fun x=>[(37,sI x.1),(8,.s (.one (.app aR x.2 (bH st 8))))],aF:=fun x=>[(bH st 8,.tok aR x.2)],keep:=[0,1,35,36],gQ:=[bH st 8]}),
 (4,fun st=>{X:=Nat×List (D aR),inv:=fun x=>x.1<=(nth aB l (cX (.int .i64) st 37).toNat).2.2.2.1.length/\ox (nO l b (l.drop ((cX (.int .i64) st 37).toNat+1)) ((cX (.int .i64) st 37).toNat+1)) (n8 l b (cX (.int .i64) st 37).toNat ((nth aB l (cX (.int .i64) st 37).toNat).2.2.2.1.drop x.1) x.2)=nO l b l 0 []/\x.2.length<=10*(cX (.int .i64) st 37).toNat+x.1,cD:=fun x=>(nth aB l (cX (.int .i64) st 37).toNat).2.2.2.1.length-x.1,bM:=fun x=>[(45,sI x.1),(8,.s (.one (.app aR x.2 (bH st 8))))],aF:=fun x=>[(bH st 8,.tok aR x.2)],keep:=[0,1,9,10,35,36,37,38,39,40,41,42,43,44],gQ:=[bH st 8]})]
def WL(l:List (D aB))(b:List Int)(hw:gU [.slice aB,.slice (.int .i64)] (l,b))(hp:(fun x=>jP x.1) (l,b)):(dM Tryz.B Tryz.FH Tryz.f64 (Rm l b) [.slice aB,.slice (.int .i64)] [.slice aR,.err] (fun x y=>y=(fun x=>iC x) x) (l,b)).holds:=by
 refine holds_of (p:=
  let za:=bb b
  let zb:=bb l
  let zc:=iC (l,b)
  let zd:=Ty.int bm
  let ze:=([],aL.no 1)=zc
  let zf:=aJ 1
  let zg:=@bc (Int×Int×Int×Unit)=@bc (Int×Int×Int×Unit)/\True
  let zh:=Nat×List (Int×Int×Int×Unit)
  let zi:=nO l b l 0 (@bc Pt)
  let zj:=fun(F:Nat×List (Int×Int×Int×Unit))=>10*F.1
  let zk:=fun(F:Nat×List (Int×Int×Int×Unit))=>(↑F.1:Int)
  let zl:=fun(F:Nat×List (Int×Int×Int×Unit))=>zk F<(↑zb:Int)
  let zm:=fun(F:Nat×List (Int×Int×Int×Unit))=>0<=zk F
  let zn:=fun(F:Nat×List (Int×Int×Int×Unit))=>(nth aB l F.1).2.2.2.1
  let zo:=fun(F:Nat×List (Int×Int×Int×Unit))=>bb (zn F)
  let zp:=fun(F:Nat×List (Int×Int×Int×Unit))=>nO l b (bj (F.1+1) l) (F.1+1)
  let zq:=fun(F G:Nat×List (Int×Int×Int×Unit))=>(gS l b (zk F) (nth bC (zn F) G.1)).2
  let zr:=fun(F G:Nat×List (Int×Int×Int×Unit))=>[(zk F,(nth bC (zn F) G.1).1,(gS l b (zk F) (nth bC (zn F) G.1)).1,())]
  za<=aM->zb<=aM->(((↑za:Int) != (↑zb:Int))=true->([],aL.no 3)=zc)/\(((↑za:Int) != (↑zb:Int))=false->za<=aM->(∃(x:Nat),(x<=za/\∀(j:Nat),j<x->0<=nth zd b j/\nth zd b j<=256)/\(0=(↑x:Int)/\True)/\True)/\∀E:Nat,(E<=za/\∀(j:Nat),j<E->0<=nth zd b j/\nth zd b j<=256)->((decide ((↑E:Int)<(↑za:Int)))=true->(0<=(↑E:Int)/\(↑E:Int)<(↑za:Int))/\((decide (nth zd b E<0))=true->ze)/\((decide (nth zd b E<0))=false->((decide (nth zd b E > 256))=true->ze)/\((decide (nth zd b E > 256))=false->aJ (↑E:Int)->zf->aJ ((↑E:Int)+1)/\∃(x':Nat),(x'<=za/\∀(j:Nat),j<x'->0<=nth zd b j/\nth zd b j<=256)/\za-x'<za-E/\((↑E:Int)+1=(↑x':Int)/\True)/\zg)))/\((decide ((↑E:Int)<(↑za:Int)))=false->zb<=aM->(∃(x:zh),(bh x<=zb/\nO l b (bj (bh x) l) (bh x) (bg x)=zi/\bb (bg x)<=10*bh x)/\(0=(↑(bh x):Int)/\@bc (Int×Int×Int×Unit)=bg x/\True)/\@bc (Int×Int×Int×Unit)=bg x/\True)/\∀F:Nat×List (Int×Int×Int×Unit),F.1<=zb/\nO l b (bj F.1 l) F.1 F.2=zi/\bb F.2<=zj F->((decide (zl F))=true->(zm F/\zl F)/\(zo F<=aM->(∃(x:zh),(bh x<=zo F/\ox (zp F) (n8 l b F.1 (bj (bh x) (zn F)) (bg x))=zi/\bb (bg x)<=zj F+bh x)/\(0=(↑(bh x):Int)/\F.2=bg x/\True)/\F.2=bg x/\True)/\∀G:Nat×List (Int×Int×Int×Unit),G.1<=zo F/\ox (zp F) (n8 l b F.1 (bj G.1 (zn F)) G.2)=zi/\bb G.2<=zj F+G.1->((decide (zk G<(↑(zo F):Int)))=true->(zm G/\zk G<(↑(zo F):Int))/\(jP l/\za=zb/\pG b/\zm F/\zl F/\Small (nth bC (zn F) G.1).1/\Word (nth bC (zn F) G.1).2.2.1)/\((!aL.isNil (zq F G))=true->([],zq F G)=zc)/\((!aL.isNil (zq F G))=false->(G.2=G.2/\bb G.2+bb (zr F G)<=1000000000)/\(aJ (zk G)->zf->aJ (zk G+1)/\∃(x':zh),(bh x'<=zo F/\ox (zp F) (n8 l b F.1 (bj (bh x') (zn F)) (bg x'))=zi/\bb (bg x')<=zj F+bh x')/\zo F-bh x'<zo F-G.1/\(zk G+1=(↑(bh x'):Int)/\G.2++zr F G=bg x'/\True)/\G.2++zr F G=bg x'/\((nth aB l F.1).1=(nth aB l F.1).1/\(nth aB l F.1).2.1=(nth aB l F.1).2.1/\(nth aB l F.1).2.2.1=(nth aB l F.1).2.2.1/\zn F=zn F/\True)/\@bc (Int×Int×Int×List UInt8×Bool×Unit)=@bc (Int×Int×Int×List UInt8×Bool×Unit)/\@bc (List UInt8×Int×Bool×Unit)=@bc (List UInt8×Int×Bool×Unit)/\@bc Int=@bc Int/\@bc (List UInt8)=@bc (List UInt8)/\zg)))/\((decide (zk G<(↑(zo F):Int)))=false->aJ (zk F)->zf->aJ (zk F+1)/\∃(x':zh),(bh x'<=zb/\nO l b (bj (bh x') l) (bh x') (bg x')=zi/\bb (bg x')<=10*bh x')/\zb-bh x'<zb-F.1/\(zk F+1=(↑(bh x'):Int)/\G.2=bg x'/\True)/\G.2=bg x'/\zg)))/\((decide (zl F))=false->(F.2,aL.nil)=zc)))) (by kernel_rfl) ?_
 dsimp -iota -proj -eta only;dsimp only at hp;refine fun h0 h1=>iN (fun h2=>((Sv (by omega)).symm)) (fun h2 h3=>⟨(⟨0,⟨by omega,fun j hj=>by omega⟩,⟨rfl,ba⟩,ba⟩),fun E q_0=>iL (fun h4=>⟨?a,iL (fun h5 =>?b) (fun h5=>iL (fun h6 =>?c) (fun h6 h7 h8=>⟨?d,(⟨E+1,⟨by omega,lY q_0.2 (by dsimp only[D]at*;omega)⟩,by omega,⟨by omega,ba⟩,(by trivial)⟩)⟩))⟩) (fun h4 h5=>⟨(⟨(0,[]),⟨by omega,rfl,by simp⟩,(by trivial),(by trivial)⟩),fun F q_1=>iL (fun h6=>⟨?e,fun h7=>⟨(by exact⟨(0,F.2),⟨by omega,by rw[<-O8 (by omega)];exact q_1.2.1,by simp only;omega⟩,(by trivial),(by trivial)⟩),fun G q_2=>iL (fun h8=>⟨?f,?g,iB (fun h9 =>?h) (fun h9=>⟨?i,fun h10 h11=>⟨?j,?k⟩⟩)⟩) (fun h8 h9 h10=>⟨?l,?m⟩)⟩⟩) (fun h6 =>?n)⟩)⟩)
 case a|e|f=>omega
 case b|c=>exact(O9 (i:=E) (by omega) (by omega) (by dsimp only[D]at*;omega)).symm
 case d|j|l=>simp only[aJ,aM]at*;omega
 case g=>
  have hlen:b.length=l.length:=(by omega);have hib:pG b:=fun j hj=>q_0.2 j (by omega)
  have hm:=hp.2 F.1 (by omega);have htk:=hm.2.2 G.1 (by omega);have hb:=pU (i:=(F.1:Int)) hib hlen (by omega) (by omega);unfold Small Word at htk;rw[e0]at hb;exact⟨hp,hlen,hib,by omega,by omega,htk.1,htk.2⟩
 case h=>
  have hlen:b.length=l.length:=(by omega);have hib:pG b:=fun j hj=>q_0.2 j (by omega)
  rw[Dh hlen hib,<-q_2.2.1,UZ (by omega) ‹_›]
 case i=>
  have hlen:b.length=l.length:=(by omega);have hib:pG b:=fun j hj=>q_0.2 j (by omega)
  have hm:=hp.2 F.1 (by omega);have htk:=hm.2.2 G.1 (by omega);have hb:=pU (i:=(F.1:Int)) hib hlen (by omega) (by omega);unfold Small Word at htk;rw[e0]at hb;have:=hm.1;have:=hp.1;exact⟨rfl,by simp only[bu,aM];omega⟩
 case k=>
  have ho:(gS l b F.1 (nth bC (nth aB l F.1).2.2.2.1 G.1)).2.isNil=true:=by assumption
  exact⟨(G.1+1,_),⟨by omega,by rw[<-q_2.2.1,Wp (k:=G.1) (by omega) ho],by simp only[bt,bu];omega⟩,by simp only;omega,⟨by simp only;omega,rfl,ba⟩,(by trivial)⟩
 case m=>
  have hm:=hp.2 F.1 (by omega);exact⟨(F.1+1,G.2),⟨by omega,by rw[<-q_2.2.1,U0 (by omega)],by have:=hm.1;simp only;omega⟩,by simp only;omega,⟨by simp only;omega,rfl,ba⟩,(by trivial)⟩
 case n=>
  have hlen:b.length=l.length:=(by omega);have hib:pG b:=fun j hj=>q_0.2 j (by omega)
  rw[Dh hlen hib,<-q_1.2.1,UY (by omega)]
def Tryz.WM:bY Tryz.prog Tryz.B.eT Tryz.X 64 [.slice aB,.slice (.int .i64)] [.slice aR,.err] (fun x=>jP x.1) (fun x y=>y=(fun x=>iC x) x):=
 cF (X:=Tryz.X) Tryz.KC Tryz.func64 (by kernel_rfl) (fun x=>Rm x.1 x.2) (fun x hw hp=>WL x.1 x.2 hw hp)
def Rn(w:List (List Int))(l:List (D aR)):dY:=[
 (200000,fun st=>{X:=Nat,inv:=fun i=>i<=w.length,cD:=fun i=>w.length-i,bM:=fun i=>[(13,sI i)],aN:=[.ext 0 ml],refs:=[(6,0)],pd:=fun i=>(w.take i,()),keep:=[1,4,5,11,12]}),
 (2,fun st=>{X:=Nat,inv:=fun k=>k<=l.length/\∀j,j<k->tU w (nth aR l j),cD:=fun k=>l.length-k,bM:=fun k=>[(25,sI k)],aF:=fun k=>[(bH st 6,.ext 0 ml (lz w (l.take k)))],keep:=[6,23,24],gQ:=[bH st 6]})]
def WN(w:List (List Int))(l:List (D aR))(hw:gU [ml,.slice aR] (w,l))(hp:(fun x=>x.1.length<=100000/\∀i,i<x.1.length->(nth jh x.1 i).length<=100000000) (w,l)):(dM (lX Tryz.B [6]) [] Tryz.f65 (Rn w l) [ml,.slice aR] [ml,.err] (fun x y=>y=(fun x=>iW x) x) (w,l)).holds:=by
 refine holds_of (p:=
  let za:=bb w
  let zb:=@bc (List Int)=@bc (List Int)/\True
  let zc:=(!false&&true)=true
  let zd:=fun(E:Nat)=>[nth (Ty.slice (Ty.int bm)) w E]
  let ze:=fun(E:Nat)=>(↑E:Int)+1
  let zf:=bb l
  let zg:=fun(F:Nat)=>(nth aR l F).1
  let zh:=([],aL.no 1)=iW (w,l)
  let zi:=fun(F:Nat)=>lz w (bd F l)
  let zj:=fun(F:Nat)=>(nth aR l F).2.1
  let zk:=fun(F:Nat)=>0<=zg F/\zg F<(↑(bb (zi F)):Int)
  let zl:=fun(F:Nat)=>bf (zg F)<bb (zi F)
  let zm:=fun(F:Nat)=>nth jh (zi F) (bf (zg F))
  za<=aM->(∃(x':Nat),x'<=za/\True/\(0=(↑x':Int)/\True)/\zb/\zc/\([],())=(bd x' w,()))/\∀E:Nat,E<=za->((decide ((↑E:Int)<(↑za:Int)))=true->(0<=(↑E:Int)/\(↑E:Int)<(↑za:Int))/\bb (nth (Ty.slice (Ty.int bm)) w E)<=1000000000/\(0<bb (zd E)/\bb (bd E w)+bb (zd E)<=1000000000)/\(aJ (↑E:Int)->aJ 1->aJ (ze E)/\∃(x':Nat),x'<=za/\za-x'<za-E/\(ze E=(↑x':Int)/\True)/\zb/\zc/\(bd E w++zd E,())=(bd x' w,())))/\((decide ((↑E:Int)<(↑za:Int)))=false->zf<=aM->(∃(x:Nat),(x<=zf/\∀(j:Nat),j<x->tU w (nth aR l j))/\(0=(↑x:Int)/\True)/\bd E w=lz w (bd x l)/\True)/\∀F:Nat,(F<=zf/\∀(j:Nat),j<F->tU w (nth aR l j))->((decide ((↑F:Int)<(↑zf:Int)))=true->(0<=(↑F:Int)/\(↑F:Int)<(↑zf:Int))/\((decide (zg F<0))=true->zh)/\((decide (zg F<0))=false->bb (zi F)<=aM->((decide (zg F>=(↑(bb (zi F)):Int)))=true->zh)/\((decide (zg F>=(↑(bb (zi F)):Int)))=false->((decide (zj F<0))=true->zh)/\((decide (zj F<0))=false->zk F/\zl F/\zl F/\(bb (zm F)<=aM->((decide (zj F>=(↑(bb (zm F)):Int)))=true->zh)/\((decide (zj F>=(↑(bb (zm F)):Int)))=false->zk F/\zl F/\(zl F/\0<=zj F/\zj F<(↑(bb (zm F)):Int))/\(zl F/\bf (zj F)<bb (zm F))/\(aJ (↑F:Int)->aJ 1->aJ (ze F)/\∃(x':Nat),(x'<=zf/\∀(j:Nat),j<x'->tU w (nth aR l j))/\zf-x'<zf-F/\(ze F=(↑x':Int)/\True)/\c8 (zi F) (bf (zg F)) (c8 (zm F) (bf (zj F)) (nth aR l F).2.2.1)=lz w (bd x' l)/\zb)))))))/\((decide ((↑F:Int)<(↑zf:Int)))=false->(zi F,aL.nil)=iW (w,l)))) (by kernel_rfl) ?_
 dsimp -iota -proj -eta only;dsimp only at hp;refine fun h0=>⟨(⟨0,by omega,ba,⟨rfl,ba⟩,⟨rfl,ba⟩,rfl,rfl⟩),fun E q_0=>iL (fun h1=>⟨?a,(by have:=hp.2 E (by omega);show bb (nth jh w E)<=1000000000;omega),(by have:=hp.1;simp only[bu,b5,aM];omega),fun h2 h3=>⟨?b,(⟨E+1,by omega,by omega,⟨by omega,ba⟩,⟨rfl,ba⟩,rfl,by rw[lK (t:=jh) (by omega)]⟩)⟩⟩) (fun h1 h2=>⟨(by exact⟨0,⟨by omega,fun j hj=>by omega⟩,⟨rfl,ba⟩,by rw[cu (by omega)];rfl,ba⟩),fun F q_1=>iL (fun h3=>⟨?c,iL (fun h4 =>?d) (fun h4 h5=>iE (fun h6 =>?e) (fun h6=>iL (fun h7 =>?f) (fun h7=>⟨?g,?h,?i,fun h8=>iE (fun h9 =>?j) (fun h9=>⟨?k,?l,?m,?n,fun h10 h11=>⟨?o,?p⟩⟩)⟩)))⟩) (fun h3=>(by rw[yp fun i hi=>q_1.2 i (by omega),cu (by omega)]))⟩)⟩
 case a|c=>omega
 case b|o=>simp only[aJ,aM]at*;omega
 case d|e|f|j=>
  have hr:=wY (l.take F) w (nth aR l F).1.toNat;have hll:=qh (l.take F) w;exact(Sr (i:=F) (by omega) (by unfold tU;dsimp only[D]at*;omega)).symm
 case g|h|i|k|l|m|n=>
  have hr:=wY (l.take F) w (nth aR l F).1.toNat;have hll:=qh (l.take F) w
  first|omega|(dsimp only[D]at*;omega)
 case p=>
  have hr:=wY (l.take F) w (nth aR l F).1.toNat;have hll:=qh (l.take F) w;exact⟨F+1,⟨by omega,lY q_1.2 (by unfold tU;dsimp only[D]at*;omega)⟩,by omega,⟨by omega,ba⟩,O7 (by omega),(by trivial)⟩
def Tryz.WO:bY Tryz.prog Tryz.B.eT Tryz.X 65 [ml,.slice aR] [ml,.err] (fun x=>x.1.length<=100000/\∀i,i<x.1.length->(nth jh x.1 i).length<=100000000) (fun x y=>y=(fun x=>iW x) x):=
 cF (B:=(lX Tryz.B [6])) (X:=Tryz.X) (bO.hint (l:=[6]) (bR Tryz.bQ)) Tryz.func65 (by kernel_rfl) (fun x=>Rn x.1 x.2) (fun x hw hp=>WN x.1 x.2 hw hp)
def Jd(l:List (D aB)):dY:=[
 (0,fun st=>{X:=Nat,inv:=fun i=>i<=l.length,cD:=fun i=>l.length-i,bM:=fun i=>[(8,sI i),(3,.s (.one (.app (.int .i64) (bZ (l.take i)) (bH st 3))))],aF:=fun i=>[(bH st 3,.tok (.int .i64) (bZ (l.take i)))],keep:=[2,6,7],gQ:=[bH st 3]})]
def Ro(l:List (D aB))(hw:gU [.slice aB] l)(hp:(fun l=>l.length<=1000) l):(dM Tryz.B [] Tryz.f63 (Jd l) [.slice aB] [.slice (.int .i64)] (fun x y=>y=(fun l=>bZ l) x) l).holds:=by
 refine holds_of (p:=
  let za:=bb l
  let zb:=fun(E:Nat)=>bb (nth aB l E).2.1
  let zc:=fun(E:Nat)=>bZ (bd E l)
  let zd:=fun(E:Nat)=>zc E++[(↑(zb E):Int)]
  za<=aM->(∃(x:Nat),x<=za/\(0=(↑x:Int)/\@bc Int=bZ (bd x l)/\True)/\@bc Int=bZ (bd x l)/\True)/\∀E:Nat,E<=za->((decide ((↑E:Int)<(↑za:Int)))=true->(0<=(↑E:Int)/\(↑E:Int)<(↑za:Int))/\(zb E<=aM->(zc E=zc E/\bb (zc E)+bb [(↑(zb E):Int)]<=1000000000)/\(aJ (↑E:Int)->aJ 1->aJ ((↑E:Int)+1)/\∃(x':Nat),x'<=za/\za-x'<za-E/\((↑E:Int)+1=(↑x':Int)/\zd E=bZ (bd x' l)/\True)/\zd E=bZ (bd x' l)/\@bc Int=@bc Int/\True)))/\((decide ((↑E:Int)<(↑za:Int)))=false->zc E=bZ l)) (by kernel_rfl) ?_
 dsimp -iota -proj -eta only;exact fun h0=>⟨(⟨0,by omega,⟨rfl,rfl,ba⟩,rfl,ba⟩),fun E q_0=>iL (fun h1=>⟨(by omega),fun h2=>⟨(by exact⟨rfl,by rw[pC,b5];simp only[bu];omega⟩),fun h3 h4=>⟨(by simp only[aJ,aM]at*;omega),(⟨E+1,by omega,by omega,⟨by omega,(zG (by omega)).symm,ba⟩,(zG (by omega)).symm,(by trivial)⟩)⟩⟩⟩) (fun h1=>(by rw[cu (by omega)]))⟩
def Tryz.Rp:bY Tryz.prog Tryz.B.eT Tryz.X 63 [.slice aB] [.slice (.int .i64)] (fun l=>l.length<=1000) (fun x y=>y=(fun l=>bZ l) x):=
 cF (X:=Tryz.X) (bR Tryz.bQ) Tryz.func63 (by kernel_rfl) (fun x=>Jd x) (fun x hw hp=>Ro x hw hp)
def Je(l:List (D aB)):dY:=[
 (0,fun st=>{X:=Nat,inv:=fun i=>i<=l.length,cD:=fun i=>l.length-i,bM:=fun i=>[(8,sI i),(3,.s (.one (.app jh (cZ (l.take i)) (bH st 3))))],aF:=fun i=>[(bH st 3,.tok jh (cZ (l.take i)))],keep:=[2,6,7],gQ:=[bH st 3]})]
def Rq(l:List (D aB))(hw:gU [.slice aB] l)(hp:(fun l=>l.length<=1000) l):(dM Tryz.B [] Tryz.f66 (Je l) [.slice aB] [ml] (fun x y=>y=(fun l=>cZ l) x) l).holds:=by
 refine holds_of (p:=
  let za:=bb l
  let zb:=fun(E:Nat)=>cZ (bd E l)
  let zc:=fun(E:Nat)=>zb E++[(nth aB l E).2.1]
  za<=aM->(∃(x:Nat),x<=za/\(0=(↑x:Int)/\@bc (List Int)=cZ (bd x l)/\True)/\@bc (List Int)=cZ (bd x l)/\True)/\∀E:Nat,E<=za->((decide ((↑E:Int)<(↑za:Int)))=true->(0<=(↑E:Int)/\(↑E:Int)<(↑za:Int))/\(zb E=zb E/\bb (zb E)+bb [(nth aB l E).2.1]<=1000000000)/\(aJ (↑E:Int)->aJ 1->aJ ((↑E:Int)+1)/\∃(x':Nat),x'<=za/\za-x'<za-E/\((↑E:Int)+1=(↑x':Int)/\zc E=cZ (bd x' l)/\True)/\zc E=cZ (bd x' l)/\@bc (List Int)=@bc (List Int)/\True))/\((decide ((↑E:Int)<(↑za:Int)))=false->zb E=cZ l)) (by kernel_rfl) ?_
 dsimp -iota -proj -eta only;exact fun h0=>⟨(⟨0,by omega,⟨rfl,rfl,ba⟩,rfl,ba⟩),fun E q_0=>iL (fun h1=>⟨(by omega),(by exact⟨rfl,by rw[nJ,b5];simp only[bu];omega⟩),fun h2 h3=>⟨(by simp only[aJ,aM]at*;omega),(⟨E+1,by omega,by omega,⟨by omega,(zH (by omega)).symm,ba⟩,(zH (by omega)).symm,(by trivial)⟩)⟩⟩) (fun h1=>(by rw[cu (by omega)]))⟩
def Tryz.Rr:bY Tryz.prog Tryz.B.eT Tryz.X 66 [.slice aB] [ml] (fun l=>l.length<=1000) (fun x y=>y=(fun l=>cZ l) x):=
 cF (X:=Tryz.X) (bR Tryz.bQ) Tryz.func66 (by kernel_rfl) (fun x=>Je x) (fun x hw hp=>Rq x hw hp)
def Tryz.Rs:List (FuncId×(Bool×aT)):=[(66,(true,cE [.slice aB] [ml] (fun l=>l.length<=1000) (fun l=>cZ l))),(65,(true,cE [ml,.slice aR] [ml,.err] (fun x=>x.1.length<=100000/\∀i,i<x.1.length->(nth jh x.1 i).length<=100000000) (fun x=>iW x)))]
def Tryz.T8:bO Tryz.prog Tryz.B Tryz.X Tryz.Rs:=
 aQ (aE Tryz.Rr) (aQ (aE Tryz.WO) (bR Tryz.bQ))
def Rt(ns:List (List UInt8))(bs:List Int)(os:List (D aB))(ps:List (D aR)):dY:=[
 (0,fun st=>{X:=Nat,inv:=fun i=>i<=os.length,cD:=fun i=>os.length-i,bM:=fun i=>[(39,sI i),(12,.s (.one (.app jq (jc ns bs (iW (cZ os,ps)).1 i) (bH st 12))))],aF:=fun i=>[(bH st 12,.tok jq (jc ns bs (iW (cZ os,ps)).1 i))],keep:=[0,1,8,9,10,38],gQ:=[bH st 12]})]
def WQ(ns:List (List UInt8))(bs:List Int)(os:List (D aB))(ps:List (D aR))(hw:gU [.slice .str,.slice (.int .i64),.slice aB,.slice aR] (ns,bs,os,ps))(hp:(fun x=>x.2.2.1.length<=1000/\∀i,i<x.2.2.1.length->(nth aB x.2.2.1 i).2.1.length<=1000) (ns,bs,os,ps)):(dM Tryz.B Tryz.Rs Tryz.f41 (Rt ns bs os ps) [.slice .str,.slice (.int .i64),.slice aB,.slice aR] [.slice jq,.err] (fun x y=>y=(fun x=>jO x.1 x.2.1 x.2.2.1 x.2.2.2) x) (ns,bs,os,ps)).holds:=by
 refine holds_of (p:=
  let za:=bb os
  let zb:=za<=aM
  let zc:=(↑(bb ns):Int)
  let zd:=(↑za:Int)
  let ze:=jO ns bs os ps
  let zf:=([],aL.no 3)=ze
  let zg:=(↑(bb bs):Int)
  let zh:=cZ os
  let zi:=iW (zh,ps)
  let zj:=(iW (zh,ps)).1
  let zk:=fun(E:Nat)=>(↑E:Int)
  let zl:=fun(E:Nat)=>0<=zk E
  let zm:=fun(E:Nat)=>jc ns bs zj E
  let zn:=fun(E:Nat)=>[(nth Ty.str ns E,nth (Ty.int bm) bs E,nth (Ty.slice (Ty.int bm)) zi.1 E,())]
  bb ns<=aM->zb->((zc != zd)=true->zf)/\((zc != zd)=false->bb bs<=aM->zb->((zg != zd)=true->zf)/\((zg != zd)=false->za<=1000/\(bb zh<=100000/\∀(i:Nat),i<bb zh->bb (nth jh zh i)<=100000000)/\((!aL.isNil zi.2)=true->([],zi.2)=ze)/\((!aL.isNil zi.2)=false->zb->(∃(x:Nat),x<=za/\(0=(↑x:Int)/\@bc (List UInt8×Int×List Int×Unit)=jc ns bs zj x/\True)/\@bc (List UInt8×Int×List Int×Unit)=jc ns bs zj x/\True)/\∀E:Nat,E<=za->((decide (zk E<zd))=true->(zl E/\zk E<zc)/\(zl E/\zk E<zg)/\(zl E/\zk E<(↑(bb zi.1):Int))/\(zm E=zm E/\bb (zm E)+bb (zn E)<=1000000000)/\(aJ (zk E)->aJ 1->aJ (zk E+1)/\∃(x':Nat),x'<=za/\za-x'<za-E/\(zk E+1=(↑x':Int)/\zm E++zn E=jc ns bs zj x'/\True)/\zm E++zn E=jc ns bs zj x'/\@bc (List UInt8×Int×List Int×Unit)=@bc (List UInt8×Int×List Int×Unit)/\True))/\((decide (zk E<zd))=false->(zm E,aL.nil)=ze))))) (by kernel_rfl) ?_
 dsimp -iota -proj -eta only;dsimp only at hp;refine fun h0 h1=>iN (fun h2=>((Ch (.inl (by omega))).symm)) (fun h2 h3 h4=>iN (fun h5=>((Ch (.inr (by omega))).symm)) (fun h5=>⟨?a,(U7 hp),iB (fun h6=>((SL (by omega) (by omega) h6).symm)) (fun h6 h7=>⟨(⟨0,by omega,⟨rfl,rfl,ba⟩,rfl,ba⟩),fun E q_0=>iL (fun h8=>⟨?b,?c,(by rw[Su ‹_›,nJ];omega),(by exact⟨rfl,by rw[MV];simp only[bu];omega⟩),fun h9 h10=>⟨(by simp only[aJ,aM]at*;omega),(⟨E+1,by omega,by omega,⟨by omega,(zJ _ _ _ _).symm,ba⟩,(zJ _ _ _ _).symm,(by trivial)⟩)⟩⟩) (fun h8=>(by rw[Dn (by omega) (by omega) ‹_›,show E=os.length by omega]))⟩)⟩))
 case a|b|c=>omega
def Tryz.Ru:bY Tryz.prog Tryz.B.eT Tryz.X 41 [.slice .str,.slice (.int .i64),.slice aB,.slice aR] [.slice jq,.err] (fun x=>x.2.2.1.length<=1000/\∀i,i<x.2.2.1.length->(nth aB x.2.2.1 i).2.1.length<=1000) (fun x y=>y=(fun x=>jO x.1 x.2.1 x.2.2.1 x.2.2.2) x):=
 cF (X:=Tryz.X) Tryz.T8 Tryz.func41 (by kernel_rfl) (fun x=>Rt x.1 x.2.1 x.2.2.1 x.2.2.2) (fun x hw hp=>WQ x.1 x.2.1 x.2.2.1 x.2.2.2 hw hp)
def Tryz.FI:List (FuncId×(Bool×aT)):=[(12,(false,aV Tryz.aW [.obj 0,.d .str] (fun _ x=>x.2.1.1.length<=6) Tryz.DL)),(63,(true,cE [.slice aB] [.slice (.int .i64)] (fun l=>l.length<=1000) (fun l=>bZ l))),(62,(true,cE [.slice (.int .i64),.slice aZ] [.slice (.int .i64),.err] (fun _=>True) (fun x=>cM x))),(64,(true,cE [.slice aB,.slice (.int .i64)] [.slice aR,.err] (fun x=>jP x.1) (fun x=>iC x)))]
def Tryz.KD:bO Tryz.prog Tryz.B Tryz.X Tryz.FI:=
 aQ (Tryz.Kz) (aQ (aE Tryz.Rp) (aQ (aE Tryz.T5) (aQ (aE Tryz.WM) (bR Tryz.bQ))))
def Tryz.vJ:List (Alt Tryz.aW [.obj 0,.d .str]):=[{bN:=Tryz.aW,res:=[.d (.slice .str),.d (.slice aB),.d (.slice (.int .i64)),.d (.slice aR),.d .err],out:=fun _ x=>x,ret:=fun a x=>((aY (aK x) a.1).1,(aY (aK x) a.1).2.1,(aY (aK x) a.1).2.2.1,(aY (aK x) a.1).2.2.2.1,aI (aY (aK x) a.1).2.2.2.2,())}]
def Rv(s:List UInt8)(f:cN)(hw:gI [.obj 0,.d .str] (s,()))(hp:(fun _ x=>x.2.1.1.length<=6) (s,()) f):(cR Tryz.B Tryz.FI Tryz.f40 [] Tryz.aW [.obj 0,.d .str] Tryz.vJ (s,()) f).holds:=by
 refine holds_of (p:=
  let za:=bF (aK f) s
  let zb:=aI za.2.2
  let zc:=f=f
  let zd:=aY (aK f) s
  let ze:=(zd.1,zd.2.1,zd.2.2.1,zd.2.2.2.1,aI zd.2.2.2.2,())
  let zf:=za.2.1
  let zg:=cM (bZ zf,[])
  let zh:=iC (zf,zg.1)
  bb f.2.1.1<=6/\(True->((!aL.isNil zb)=true->True/\zc/\([],[],[],[],zb,())=ze)/\((!aL.isNil zb)=false->bb zf<=1000/\True/\((!aL.isNil zg.2)=true->True/\zc/\([],[],[],[],zg.2,())=ze)/\((!aL.isNil zg.2)=false->jP zf/\((!aL.isNil zh.2)=true->True/\zc/\([],[],[],[],zh.2,())=ze)/\((!aL.isNil zh.2)=false->True/\zc/\(za.1,zf,zg.1,zh.1,aL.nil,())=ze))))) (by kernel_rfl) ?_
 dsimp -iota -proj -eta only;exact⟨(by trivial),fun h0=>iB (fun h1=>⟨ba,rfl,by rw[xx (dK h1)]⟩) (fun h1=>⟨(b4 (PG (jB hp) (aP.1 ‹_›)) (by decide)),ba,iB (fun h2=>⟨ba,rfl,by rw[xy (aP.1 ‹_›) h2,q9 (Cf _)]⟩) (fun h2=>⟨(MW (jB hp) (aP.1 ‹_›)),iB (fun h3=>⟨ba,rfl,by rw[Cg (aP.1 ‹_›) ‹_› h3,SO]⟩) (fun h3=>(by exact⟨ba,rfl,by rw[zI (aP.1 ‹_›) ‹_› ‹_›];rfl⟩))⟩)⟩)⟩
def Tryz.FJ:bX Tryz.prog Tryz.B.eT Tryz.X 40 false (aV Tryz.aW [.obj 0,.d .str] (fun _ x=>x.2.1.1.length<=6) Tryz.vJ):=
 bE (X:=Tryz.X) Tryz.KD Tryz.func40 (by kernel_rfl) (fun(a:CD [.obj 0,.d .str]) (x:PD Tryz.aW)=>[]) (fun(a:CD [.obj 0,.d .str]) (x:PD Tryz.aW) hw hp=>Rv a.1 x hw hp)
def Tryz.spZ26:Bool×aT:=(false,aV Tryz.aW [.obj 0,.d .str] (fun _ x=>x.2.1.1.length<=6) Tryz.vJ)
def Tryz.spZ27:Bool×aT:=(true,cE [.slice .str,.slice (.int .i64),.slice aB,.slice aR] [.slice jq,.err] (fun x=>x.2.2.1.length<=1000/\∀i,i<x.2.2.1.length->(nth aB x.2.2.1 i).2.1.length<=1000) (fun x=>jO x.1 x.2.1 x.2.2.1 x.2.2.2))
def Tryz.LI:List (FuncId×(Bool×aT)):=[(40,Tryz.spZ26),(41,Tryz.spZ27)]
def Tryz.Rw:bO Tryz.prog Tryz.B Tryz.X Tryz.LI:=
 aQ (Tryz.FJ) (aQ (aE Tryz.Ru) (bR Tryz.bQ))
def Tryz.Bf:List (Alt Tryz.aW [.obj 0,.d .str]):=[{bN:=Tryz.aW,res:=[.d (.slice jq),.d .err],out:=fun _ x=>x,ret:=fun a x=>((hU (aK x) a.1).1,aI (hU (aK x) a.1).2,())}]
def VS(s:List UInt8)(f:cN)(hw:gI [.obj 0,.d .str] (s,()))(hp:(fun _ x=>x.2.1.1.length<=6) (s,()) f):(cR Tryz.B Tryz.LI Tryz.f22 [] Tryz.aW [.obj 0,.d .str] Tryz.Bf (s,()) f).holds:=by
 refine holds_of (p:=
  let za:=aY (aK f) s
  let zb:=aI za.2.2.2.2
  let zc:=hU (aK f) s
  let zd:=(zc.1,aI zc.2,())
  let ze:=bb za.2.1
  let zf:=jO za.1 za.2.2.1 za.2.1 za.2.2.2.1
  bb f.2.1.1<=6/\(True->((!aL.isNil zb)=true->True/\f=f/\([],zb,())=zd)/\((!aL.isNil zb)=false->(ze<=1000/\∀(i:Nat),i<ze->bb (nth aB za.2.1 i).2.1<=1000)/\True/\f=f/\(zf.1,zf.2,())=zd))) (by kernel_rfl) ?_
 dsimp -iota -proj -eta only;exact⟨(by trivial),fun h0=>iB (fun h1=>⟨ba,rfl,by rw[SM (dK h1)]⟩) (fun h1=>⟨(HH (jB hp) (aP.1 ‹_›)),⟨ba,rfl,SN (aP.1 ‹_›)⟩⟩)⟩
def Tryz.VT:bX Tryz.prog Tryz.B.eT Tryz.X 22 false (aV Tryz.aW [.obj 0,.d .str] (fun _ x=>x.2.1.1.length<=6) Tryz.Bf):=
 bE (X:=Tryz.X) Tryz.Rw Tryz.func22 (by kernel_rfl) (fun(a:CD [.obj 0,.d .str]) (x:PD Tryz.aW)=>[]) (fun(a:CD [.obj 0,.d .str]) (x:PD Tryz.aW) hw hp=>VS a.1 x hw hp)
end Go.Proofs.YtgokjhhcfemnhadGreatDoor

