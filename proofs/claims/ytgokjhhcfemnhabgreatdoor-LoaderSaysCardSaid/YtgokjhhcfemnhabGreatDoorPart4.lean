/- A part of the proof that the law LoaderSaysCard holds of the given program: facts that are used there. -/
import Derived.Test.YtgokjhhcfemnhabGreatDoorPart3
import Derived.Test.YtgokjhhcfemnhabGreatDoorChecked
import Derived.Lib.LaidTab
import Derived.Lib.ItoaNum
import Derived.Shelf.Strconv.Itoa3
import Derived.Shelf.Strconv.AtoiAll
import Derived.Shelf.Strings.Split
import Derived.Shelf.Small.Wraps
import Derived.Shelf.Strings.Prefix
import Derived.Shelf.LaysM
import Derived.Shelf.LaysC
import Derived.Sort.Grow
import Derived.Lib.SplitLaws
import Derived.Lib.Builder
import Derived.Lib.UnsafeStr
import Derived.Lib.Strings
import Derived.Lib.Slices
import Derived.Lib.Walk
import Derived.Laws.Externs
import Derived.Deep.Heap
import Derived.Shelf.RegionOpenPlain
import Derived.RangeFuncLeaves
import Derived.Shelf.Abstract
import Derived.WalkKit
import Derived.OwnWalkIn
import Derived.TacticsInMore
import Derived.LoopNIn
import Derived.LoopIn
import Derived.BigRegionIn
import Derived.Deep.LoopGhost
import Derived.Deep.RegionLaw
import Derived.Lib.SliceRun
import Derived.Shelf.SlicesG.Delete
import Derived.Deep.Upon
set_option linter.unusedSimpArgs false
set_option linter.unusedVariables false
set_option maxRecDepth 100000
set_option maxHeartbeats 4000000
set_option linter.defProp false
noncomputable section
open True renaming intro->ba
open List renaming length->bb,nil->bc,take->bf,drop->bk,map->bm,length_append->bw,length_cons->bx,length_map->bz,length_nil->b4,length_singleton->b9,length_take->cc,replicate->cj,Perm->cm,length_replicate->ct,range->cu,drop_zero->da,set->db,any->dc,take_of_length_le->dd,length_eq_zero_iff->dr,length_eq_one_iff->dt,length_set->dT,length_drop->ed,append->ef,mem_of_getElem?->en,range_succ->e0,take_zero->e5
open Int renaming toNat->bd,fdiv->bu,tmod->cq,le_refl->dj,not_lt->dm,not_le->dn,one_mul->dz,le_of_lt_add_one->eg
open Prod renaming snd->bg,fst->bj
open Go.IntKind renaming wrap->bh,i64->bn,u64->bq,bits->b3,u8->b6,u32->cp
open Go.Lib renaming itoa->bo,countB->bp,trimSuffix->bt,splitB->ca,trimPrefix->cf,cell_of_heap->cg,hasPrefix->c7,atoiAll->de,frozen_of_heap->dh,TabIs->dp,pow10Tab->dq,atoiSat->ds,nDigits_small->eh,decDigits_length->ei,splitB_all->ej,splitB_data->ek,run_unsafeSliceData_row->eu
open UInt8 renaming toNat->br
open BitVec renaming ofInt->b5,toNat->cd
open Nat renaming zero_le->b7,le_trans->b8,le_refl->cb,min->ch,not_lt_zero->cz,add_zero->du,lt_div_iff_mul_lt->ey
open Option renaming isNone->ck,map_eq_some_iff->c8,map_some->eo
open Go.Builtin renaming zeroCells->cn,clear_->ee,unsafeSliceData_->er,unsafeString_->ew
open Go.Value renaming string->cr
open Bool renaming noConfusion->cw,eq_iff_iff->dk
open Go.Op renaming bytesLess->cy
open Go.Shelf renaming Ren->c6
open ByteArray renaming size->df
open Array renaming length_toList->di
open Go.Result renaming andThen->dv
open Go.Oper renaming upon_value->dw
open Go.Deep renaming nblk_setCell->dx,blk_setCell_other->dy
open And renaming intro->ec
open Go.World renaming shape?->ep,os_setCells->e7,output_setCells->e8,heap_setCells_other->e9
open Go.Proofs.Lays renaming n103->fa,n102->fe,n146->fg
open Go.Proofs.LaysM renaming n171->fb
open Go.Proofs.LaysC renaming n172->fc
open Go.Extern.AbiNoEscape renaming same->fh
namespace Go.Proofs.YtgokjhhcfemnhabGreatDoor
open Go.Vg
def Tryz.B:Cx:={eT:=110,τ:=[(2,(.int .i64)),(3,(.int .i64)),(4,.bool),(5,(.int .u8)),(7,(.prod (.int .i64) (.prod (.int .i64) (.prod .bool (.prod (.int .u8) .unit))))),(9,.str),(12,(.int .u64)),(13,(.prod .str (.prod (.int .u64) .unit))),(18,(.prod .fW .unit)),(21,(.int .i32)),(22,(.slice jI)),(25,.fW),(26,.fW),(29,.fW),(31,.fW),(32,.err),(33,.err),(37,(.slice dF)),(38,PY),(39,PY),(41,(.slice aB)),(42,(.prod (.slice aB) .unit)),(43,(.prod (.slice aB) .unit)),(44,(.int .u64)),(45,(.slice aG)),(46,(.slice aN)),(47,aB),(48,aB),(49,jI),(50,jI),(57,(.slice cE)),(64,(.slice .str)),(92,(.prod .fW (.prod .fW (.prod .str .unit)))),(93,(.prod .fW (.prod .fW (.prod .str .unit)))),(97,(.slice (.int .i64))),(98,cE),(99,cE),(105,.fW),(106,(.prod .fW (.prod (.int .i64) .unit))),(107,(.prod .fW (.prod (.int .i64) .unit))),(108,(.prod .fW (.prod .fW .unit))),(109,(.prod .fW (.prod .fW .unit))),(110,(.int .i64)),(112,(.prod .str (.prod (.int .i64) .unit))),(113,(.prod .str (.prod (.int .i64) .unit))),(117,dF),(118,dF),(124,aN),(125,aN),(126,aG),(127,aG),(142,(.slice aA)),(145,(.slice aP)),(146,(.slice aQ)),(147,aA),(148,aA),(155,(.prod .fW (.prod .fW (.prod .fW (.prod .str .unit))))),(156,(.prod .fW (.prod .fW (.prod .fW (.prod .str .unit))))),(162,(.slice kJ)),(163,aaL),(164,aaL),(168,(.prod .fW (.prod (.int .i64) (.prod (.slice aB) .unit)))),(169,(.prod .fW (.prod (.int .i64) (.prod (.slice aB) .unit)))),(181,(.slice (.int .u8))),(197,(.slice (.slice (.int .i64)))),(201,aP),(202,aP),(203,aQ),(204,aQ),(212,(.int .u64)),(215,kJ),(216,kJ),(224,(.slice bA)),(225,bA),(226,bA),(243,(.prod .fW (.prod (.slice (.int .u8)) .unit))),(244,(.prod .fW (.prod (.slice (.int .u8)) .unit))),(248,(.int .u32)),(263,(.int .i64)),(270,(.int .i64)),(290,(.prod .str (.prod .str (.prod .err .unit)))),(291,(.prod .str (.prod .str (.prod .err .unit)))),(292,(.int .u64)),(305,(.prod (.int .u8) (.prod (.int .u8) .unit))),(306,(.prod (.int .u8) (.prod (.int .u8) .unit))),(311,(.prod .str .unit)),(312,(.prod .str .unit))],Dd:=[(227,(600,4)),(255,(24,5)),(286,(20,44)),(287,(65,5)),(304,(256,5)),(307,(16,306)),(316,(32,5)),(317,(64,5)),(321,(0,16))],Γ:=[],N:=0,eqs:=[125,127],qm:=[25,26,29,31,242],su:=[(105,(9,113))],uC:=[(244,5)]}
def Tryz.bI:TyOK Tryz.prog Tryz.B:=abk (n:=16) (by kernel_rfl)
structure Tryz.adi (w:World):Prop where
 pow:dp Tryz.prog w "internal/strconv.uint64pow10" .u64 dq
 max:∃m,w.cell? ⟨1,0,none⟩=some (.int .i64 m)
 syn:∃ev,w.cell? ⟨2,0,none⟩=some ev/\(ev=.nilIface\/∃te pe,ev=.iface te pe)
 rng:∃ev,w.cell? ⟨3,0,none⟩=some ev/\(ev=.nilIface\/∃te pe,ev=.iface te pe)
def Tryz.adj:Tryz.prog.globalNamed "internal/strconv.uint64pow10" =some 0:=by kernel_rfl
def Ca{w:World}{b o:Nat}{v:Value}(h:w.cell? ⟨b,o,none⟩=some v):b<w.heap.size:=by
 unfold World.cell? at h;by_cases hb:b<w.heap.size
 ·exact hb
 ·have h0:w.heap[b]?=none:=Array.getElem?_eq_none (by omega)
  simp[h0]at h
def yw{w w':World}{b o:Nat}(h:w'.heap[b]?=w.heap[b]?):w'.cell? ⟨b,o,none⟩=w.cell? ⟨b,o,none⟩:=by
 unfold World.cell?;rw[h]
def Wo{P:Program}{w w':World}{nm:String}{g:Nat}(hg:P.globalNamed nm=some g)(h:w'.heap[g]?=w.heap[g]?):w'.var? P nm=w.var? P nm:=by
 unfold World.var?;rw[hg];simp[h]
def Tryz.X:Ext:=
 {adI with
  zB:=Tryz.adi
  Hi:=[0,1,2,3]
  Ki:=fun{w} h b hb=>by
   obtain⟨h1,⟨m,h2⟩,⟨e3,h3,_⟩,⟨e4,h4,_⟩⟩:=h;simp only[List.mem_cons,List.not_mem_nil,or_false]at hb;rcases hb with rfl|rfl|rfl|rfl
   ·have h1':=World.var?_cell Tryz.adj h1 0
    exact Ca (v:=.int .u64 1) (by simpa[dq]using h1')
   ·exact Ca h2
   ·exact Ca h3
   ·exact Ca h4
  Ep:=fun{w w'} h hb=>by
   obtain⟨h1,⟨m,h2⟩,⟨e3,h3,h5⟩,⟨e4,h4,h6⟩⟩:=h;refine⟨?_,⟨m,?_⟩,⟨e3,?_,h5⟩,⟨e4,?_,h6⟩⟩
   ·unfold dp at h1 ⊢
    rw[Wo Tryz.adj (hb 0 (by simp))];exact h1
   ·rw[yw (hb 1 (by simp))];exact h2
   ·rw[yw (hb 2 (by simp))];exact h3
   ·rw[yw (hb 3 (by simp))];exact h4}
end Go.Proofs.YtgokjhhcfemnhabGreatDoor

namespace Go.Proofs.YtgokjhhcfemnhabGreatDoor
open Go.Vg Go.Mrl
def MJ(s:List UInt8):cU:=[(0,fun st=>{X:=Nat,inv:=fun i=>i<=s.length/\∀j,j<i->ko j (bR s j)=false,bF:=fun i=>s.length-i,aY:=fun i=>[(15,.s (.one (.d (.int .i64) i)))],aH:=fun _=>[],keep:=[0,14],gS:=[]})]
def MK(s:List UInt8):cU:=[(0,fun st=>{X:=Nat,inv:=fun i=>i<=s.length/\∀j,j<i->ko j (bR s j)=false,bF:=fun i=>s.length-i,aY:=fun i=>[(3,.s (.one (.d (.int .i64) i)))],aH:=fun _=>[],keep:=[0],gS:=[]})]
def Qv(s:List UInt8):cU:=[(0,fun st=>{X:=Nat,inv:=fun i=>i<=s.length,bF:=fun i=>s.length-i,aY:=fun i=>[(8,.s (.one (.d (.int .i64) i))),(3,.s (.one (.d (.int .u32) (kq (s.take i)))))],aH:=fun _=>[],keep:=[0,7],gS:=[]})]
def ML(s:List UInt8):cU:=[(0,fun st=>{X:=Nat,inv:=fun i=>i<=s.length,bF:=fun i=>s.length-i,aY:=fun i=>[(4,.s (.one (.d (.int .i64) i))),(3,.s (.one (.d (.int .i64) (kq (s.take i)))))],aH:=fun _=>[],keep:=[0],gS:=[]})]
def ZI(s:List UInt8)(hw:eD [.str] s):(cL Tryz.B [] Tryz.f49 (MJ s) [.str] [.err] (fun x y=>y=(fun s=>aL (aJ s)) x) s).holds:=by
 refine holds_of (p:=
  let za:=aL (aJ s)
  let zb:=aS.no 1=za
  let zc:=bb s
  let zd:=fun(E:Nat)=>(↑(br (bR s E)):Int)
  let ze:=aS.no 3=za
  let zf:=fun(E:Nat)=>aF (↑E:Int)->aF 1->aF ((↑E:Int)+1)/\∃(x':Nat),(x'<=zc/\∀(j:Nat),j<x'->ko j (bR s j)=false)/\zc-x'<zc-E/\((↑E:Int)+1=(↑x':Int)/\True)/\True
  let zg:=fun(E:Nat)=>((zd E != 95)=true->ze)/\((zd E != 95)=false->zf E)
  let zh:=fun(E:Nat)=>(((↑E:Int) == 0)=true->ze)/\(((↑E:Int) == 0)=false->((decide (zd E<48))=true->zg E)/\((decide (zd E<48))=false->((decide (zd E > 57))=true->zg E)/\((decide (zd E > 57))=false->zf E)))
  ((s == @bc UInt8)=true->zb)/\((s == @bc UInt8)=false->zc<=aI->((decide ((↑zc:Int) > 8))=true->zb)/\((decide ((↑zc:Int) > 8))=false->zc<=aI->(∃(x:Nat),(x<=zc/\∀(j:Nat),j<x->ko j (bR s j)=false)/\(0=(↑x:Int)/\True)/\True)/\∀E:Nat,(E<=zc/\∀(j:Nat),j<E->ko j (bR s j)=false)->((decide ((↑E:Int)<(↑zc:Int)))=true->(0<=(↑E:Int)/\(↑E:Int)<(↑zc:Int))/\((decide (zd E<97))=true->zh E)/\((decide (zd E<97))=false->((decide (zd E > 122))=true->zh E)/\((decide (zd E > 122))=false->zf E)))/\((decide ((↑E:Int)<(↑zc:Int)))=false->aS.nil=za)))) (by kernel_rfl) ?_
 dsimp -iota -proj -eta only;refine iQ (fun h0 =>?a) (fun h0 h1=>iL (fun h2 =>?b) (fun h2 h3=>⟨(⟨0,⟨by omega,fun j hj=>by omega⟩,⟨rfl,ba⟩,ba⟩),fun E q_0=>iL (fun h4=>⟨?c,iL (fun h5=>iQ (fun h6 =>?d) (fun h6=>iL (fun h7=>iN (fun h8 =>?e) (fun h8 h9 h10=>⟨?f,?g⟩)) (fun h7=>iL (fun h8=>iN (fun h9 =>?h) (fun h9 h10 h11=>⟨?i,?j⟩)) (fun h8 h9 h10=>⟨?k,?l⟩)))) (fun h5=>iL (fun h6=>iQ (fun h7 =>?m) (fun h7=>iL (fun h8=>iN (fun h9 =>?n) (fun h9 h10 h11=>⟨?o,?p⟩)) (fun h8=>iL (fun h9=>iN (fun h10 =>?q) (fun h10 h11 h12=>⟨?r,?s⟩)) (fun h9 h10 h11=>⟨?t,?u⟩)))) (fun h6 h7 h8=>⟨?v,?w⟩))⟩) (fun h4 =>?x)⟩))
 case a|b=>rw[yP (by first|omega|simp[h0])];rfl
 case c|f|o|r|t=>omega
 case d|e|h|m|n|q=>
  have hl:s.length≠0:=fun e=>h0 (dr.1 e)
  rw[jN (i:=E) (by omega) (by omega) (nu.2 (by omega))];rfl
 case g|j|l|p|s|u|w=>exact⟨E+1,⟨by omega,qt q_0.2 (mJ.2 (by omega))⟩,by omega,⟨by omega,ba⟩,ba⟩
 case i|k|v=>simp only[aF,aI]at*;omega
 case x=>
  have hl:s.length≠0:=fun e=>h0 (dr.1 e)
  rw[wD (by omega) (fun i hi=>q_0.2 i (by omega))];rfl
def Tryz.js:bO Tryz.prog Tryz.B.eT Tryz.X 49 [.str] [.err] (fun _=>True) (fun x y=>y=(fun s=>aL (aJ s)) x):=
 bP (X:=Tryz.X) (bJ Tryz.bI) Tryz.func49 (by kernel_rfl) (fun x=>MJ x) (fun x hw hp=>ZI x hw)
def MM(s:List UInt8)(hw:eD [.str] s):(cL Tryz.B [] Tryz.f50 (MK s) [.str] [.int .i64] (fun x y=>y=(fun s=>aJ s) x) s).holds:=by
 refine holds_of (p:=
  let za:=bb s
  let zb:=za<=aI
  let zc:=(↑za:Int)
  let zd:=aJ s
  let ze:=fun(E:Nat)=>0<=(↑E:Int)/\(↑E:Int)<zc
  let zf:=fun(E:Nat)=>(↑(br (bR s E)):Int)
  let zg:=fun(E:Nat) =>!decide (zf E<=122)
  let zh:=3=zd
  let zi:=fun(E:Nat)=>aF (↑E:Int)->aF 1->aF ((↑E:Int)+1)/\∃(x':Nat),(x'<=za/\∀(j:Nat),j<x'->ko j (bR s j)=false)/\za-x'<za-E/\((↑E:Int)+1=(↑x':Int)/\True)/\True
  let zj:=fun(E:Nat)=>(((↑E:Int) == 0)=true->zh)/\(((↑E:Int) == 0)=false->zi E)
  let zk:=fun(E:Nat)=>(((↑E:Int) == 0)=true->zh)/\(((↑E:Int) == 0)=false->((!zf E == 95)=true->zh)/\((!zf E == 95)=false->zi E))
  let zl:=fun(E:Nat)=>ze E/\((zg E)=true->zk E)/\((zg E)=false->zi E)
  zb->((decide (zc<1))=true->1=zd)/\((decide (zc<1))=false->zb->((decide (zc > 8))=true->1=zd)/\((decide (zc > 8))=false->(∃(x:Nat),(x<=za/\∀(j:Nat),j<x->ko j (bR s j)=false)/\(0=(↑x:Int)/\True)/\True)/\∀E:Nat,(E<=za/\∀(j:Nat),j<E->ko j (bR s j)=false)->zb->((decide ((↑E:Int)<zc))=true->ze E/\((decide (zf E>=97))=true->ze E/\ze E/\((decide (zf E>=48))=true->ze E/\((decide (zf E<=57))=true->((zg E)=true->zj E)/\((zg E)=false->zi E))/\((decide (zf E<=57))=false->zl E))/\((decide (zf E>=48))=false->zl E))/\((decide (zf E>=97))=false->ze E/\((decide (zf E>=48))=true->ze E/\((decide (zf E<=57))=true->zj E)/\((decide (zf E<=57))=false->ze E/\zk E))/\((decide (zf E>=48))=false->ze E/\zk E)))/\((decide ((↑E:Int)<zc))=false->0=zd)))) (by kernel_rfl) ?_
 dsimp -iota -proj -eta only;refine fun h0=>iL (fun h1 =>?a) (fun h1 h2=>iL (fun h3 =>?b) (fun h3=>⟨(⟨0,⟨by omega,fun j hj=>by omega⟩,⟨rfl,ba⟩,ba⟩),fun E q_0 h4=>iL (fun h5=>⟨?c,iE (fun h6=>⟨?d,?e,iE (fun h7=>⟨?f,iE (fun h8=>⟨fun h9=>iQ (fun h10 =>?g) (fun h10 h11 h12=>⟨?h,?i⟩),fun h9 h10 h11=>⟨?j,?k⟩⟩) (fun h8=>⟨?l,⟨fun h9=>iQ (fun h10 =>?m) (fun h10=>⟨fun h11 =>?n,fun h11 h12 h13=>⟨?o,?p⟩⟩),fun h9 h10 h11=>⟨?q,?r⟩⟩⟩)⟩) (fun h7=>⟨?s,⟨fun h8=>iQ (fun h9 =>?t) (fun h9=>⟨fun h10 =>?u,fun h10 h11 h12=>⟨?v,?w⟩⟩),fun h8 h9 h10=>⟨?x,?y⟩⟩⟩)⟩) (fun h6=>⟨?z,iE (fun h7=>⟨?a0,iE (fun h8=>iQ (fun h9 =>?a1) (fun h9 h10 h11=>⟨(by simp only[aF,aI]at*;omega),(⟨E+1,⟨by omega,qt q_0.2 (mJ.2 (by omega))⟩,by omega,⟨by omega,ba⟩,ba⟩)⟩)) (fun h8=>⟨?a2,iQ (fun h9 =>?a3) (fun h9=>⟨fun h10 =>?a4,fun h10 h11 h12=>⟨?a5,?a6⟩⟩)⟩)⟩) (fun h7=>⟨?a7,iQ (fun h8 =>?a8) (fun h8=>⟨fun h9 =>?a9,fun h9 h10 h11=>⟨?aa,?ab⟩⟩)⟩)⟩)⟩) (fun h5=>(by rw[wD (by omega) (fun i hi=>q_0.2 i (by omega))]))⟩))
 case a|b=>rw[yP (by omega)]
 case c|d|e|f|l|s|z|a0|a2|a7=>omega
 case g|m|a9=>
  simp only[bl,reduceCtorEq]at h9;rw[jN (i:=E) (by omega) (by omega) (nu.2 (by omega))]
 case h|j|aa=>
  simp only[bl,reduceCtorEq]at h9;omega
 case i|k|r|ab=>
  simp only[bl,reduceCtorEq]at h9;exact⟨E+1,⟨by omega,qt q_0.2 (mJ.2 (by omega))⟩,by omega,⟨by omega,ba⟩,ba⟩
 case n=>
  simp only[bl,reduceCtorEq]at h9 h11;rw[jN (i:=E) (by omega) (by omega) (nu.2 (by omega))]
 case o=>
  simp only[bl,reduceCtorEq]at h9 h11;omega
 case p=>
  simp only[bl,reduceCtorEq]at h9 h11;exact⟨E+1,⟨by omega,qt q_0.2 (mJ.2 (by omega))⟩,by omega,⟨by omega,ba⟩,ba⟩
 case q=>
  simp only[bl,reduceCtorEq]at h9;simp only[aF,aI]at*;omega
 case t=>
  simp only[bl,reduceCtorEq]at h8;rw[jN (i:=E) (by omega) (by omega) (nu.2 (by omega))]
 case u=>
  simp only[bl,reduceCtorEq]at h8 h10;rw[jN (i:=E) (by omega) (by omega) (nu.2 (by omega))]
 case v=>
  simp only[bl,reduceCtorEq]at h8 h10;omega
 case w=>
  simp only[bl,reduceCtorEq]at h8 h10;exact⟨E+1,⟨by omega,qt q_0.2 (mJ.2 (by omega))⟩,by omega,⟨by omega,ba⟩,ba⟩
 case x=>
  simp only[bl,reduceCtorEq]at h8;omega
 case y=>
  simp only[bl,reduceCtorEq]at h8;exact⟨E+1,⟨by omega,qt q_0.2 (mJ.2 (by omega))⟩,by omega,⟨by omega,ba⟩,ba⟩
 case a1|a3|a8=>rw[jN (i:=E) (by omega) (by omega) (nu.2 (by omega))]
 case a4=>
  simp only[bl,reduceCtorEq]at h10;rw[jN (i:=E) (by omega) (by omega) (nu.2 (by omega))]
 case a5=>
  simp only[bl,reduceCtorEq]at h10;simp only[aF,aI]at*;omega
 case a6=>
  simp only[bl,reduceCtorEq]at h10;exact⟨E+1,⟨by omega,qt q_0.2 (mJ.2 (by omega))⟩,by omega,⟨by omega,ba⟩,ba⟩
def Tryz.fI:bO Tryz.prog Tryz.B.eT Tryz.X 50 [.str] [.int .i64] (fun _=>True) (fun x y=>y=(fun s=>aJ s) x):=
 bP (X:=Tryz.X) (bJ Tryz.bI) Tryz.func50 (by kernel_rfl) (fun x=>MK x) (fun x hw hp=>MM x hw)
def abK(s:List UInt8)(hw:eD [.str] s):(cL Tryz.B [] Tryz.f156 (Qv s) [.str] [.int .u32] (fun x y=>y=(fun s=>(kq s:Int)) x) s).holds:=by
 refine holds_of (p:=
  let za:=bb s
  let zb:=b3 cp
  let zc:=fun(G:Int)=>b5 zb G
  za<=aI->(∃(x:Nat),x<=za/\((0:Int)=(↑x:Int)/\(0:Int)=(↑(kq (bf x s)):Int)/\True)/\True)/\∀E:Nat,E<=za->((decide ((↑E:Int)<(↑za:Int)))=true->(0:Int)<=(4:Int)/\∀F:Int,F=bh cp ((↑(kq (bf E s)):Int)*(2:Int)^min 4 zb)->((0:Int)<=(↑E:Int)/\(↑E:Int)<(↑za:Int))/\∀G:Int,G=bh cp (F+(↑(br (bR s E)):Int))->∀I:Int,I=bh cp (↑(cd (zc G&&&b5 zb (4026531840:Int))):Int)->(0:Int)<=(24:Int)/\∀K:Int,K=bu I ((2:Int)^min 24 zb)->∀M:Int,M=bh cp (↑(cd (zc G^^^zc K)):Int)->∀Q:Int,Q=bh cp (↑(cd (zc M&&&~~~zc I)):Int)->aF (↑E:Int)->aF (1:Int)->aF ((↑E:Int)+(1:Int))/\∃(x':Nat),x'<=za/\za-x'<za-E/\((↑E:Int)+(1:Int)=(↑x':Int)/\Q=(↑(kq (bf x' s)):Int)/\True)/\True)/\((decide ((↑E:Int)<(↑za:Int)))=false->(↑(kq (bf E s)):Int)=(↑(kq s):Int))) (by kernel_rfl) ?_
 dsimp -iota -proj -eta only;refine fun h0=>⟨(⟨0,by omega,⟨rfl,rfl,ba⟩,ba⟩),fun E q_0=>iL (fun h1=>⟨?a,fun F q_1=>⟨(by omega),fun G q_2 I q_3=>⟨?b,fun K q_4 M q_5 Q q_6 h2 h3=>⟨(by simp only[aF,aI]at*;omega),(by exact⟨E+1,by omega,by omega,⟨by omega,by rw[E2 (by omega)];exact UH (DD _) q_1 q_2 q_3 q_4 q_5 q_6,ba⟩,ba⟩)⟩⟩⟩⟩) (fun h1=>(by rw[dd (by omega)]))⟩
 case a|b=>trivial
def Tryz.kE:bO Tryz.prog Tryz.B.eT Tryz.X 156 [.str] [.int .u32] (fun _=>True) (fun x y=>y=(fun s=>(kq s:Int)) x):=
 bP (X:=Tryz.X) (bJ Tryz.bI) Tryz.func156 (by kernel_rfl) (fun x=>Qv x) (fun x hw hp=>abK x hw)
def ZJ(s:List UInt8)(hw:eD [.str] s):(cL Tryz.B [] Tryz.f83 (ML s) [.str] [.int .i64] (fun x y=>y=(fun s=>(kq s:Int)) x) s).holds:=by
 refine holds_of (p:=
  let za:=bb s
  let zb:=fun(E:Nat)=>(↑(kq (bf E s)):Int)
  let zc:=(268435456:Int)≠(0:Int)
  (∃(x:Nat),x<=za/\((0:Int)=(↑x:Int)/\(0:Int)=(↑(kq (bf x s)):Int)/\True)/\True)/\∀E:Nat,E<=za->za<=aI->((decide ((↑E:Int)<(↑za:Int)))=true->∀F:Int,F=(16:Int)*zb E->aF (16:Int)->aF (zb E)->aF F/\((0:Int)<=(↑E:Int)/\(↑E:Int)<(↑za:Int))/\(aF F->aF (↑(br (bR s E)):Int)->aF (F+(↑(br (bR s E)):Int))/\(4294967296:Int)≠(0:Int)/\∀G:Int,G=cq (F+(↑(br (bR s E)):Int)) (4294967296:Int)->zc/\∀I:Int,I=Int.tdiv G (268435456:Int)->aF G->aF (268435456:Int)->aF I/\zc/\∀K:Int,K=cq G (268435456:Int)->∀M:Int,M=(16:Int)*I->aF (16:Int)->aF I->aF M/\∀Q:Int,Q=bh bn (↑(cd (b5 (b3 bn) K^^^b5 (b3 bn) M)):Int)->aF (↑E:Int)->aF (1:Int)->aF ((↑E:Int)+(1:Int))/\∃(x':Nat),x'<=za/\za-x'<za-E/\((↑E:Int)+(1:Int)=(↑x':Int)/\Q=(↑(kq (bf x' s)):Int)/\True)/\True))/\((decide ((↑E:Int)<(↑za:Int)))=false->zb E=(↑(kq s):Int))) (by kernel_rfl) ?_
 dsimp -iota -proj -eta only;refine⟨(⟨0,by omega,⟨rfl,rfl,ba⟩,ba⟩),fun E q_0 h0=>iL (fun h1 F q_1 h2 h3=>⟨(by have:=DD (s.take E);simp only[aF];omega),(by omega),fun h4 h5=>⟨(by have:=DD (s.take E);have:=(bR s E).toNat_lt;simp only[aF];omega),?a,fun G q_2=>⟨?b,fun I q_3 h6 h7=>⟨?c,?d,fun K q_4 M q_5 h8 h9=>⟨?e,fun Q q_6 h10 h11=>⟨(by simp only[aF,aI]at*;omega),(by exact⟨E+1,by omega,by omega,⟨by omega,by rw[E2 (by omega)];exact RI q_1 q_2 q_3 q_4 q_5 q_6,ba⟩,ba⟩)⟩⟩⟩⟩⟩⟩) (fun h1=>(by rw[dd (by omega)]))⟩
 case a|b|d=>trivial
 case c|e=>have q:=rh4 (rh3 q_1 q_2) q_3;simp only[aF];omega
def Tryz.jt:bO Tryz.prog Tryz.B.eT Tryz.X 83 [.str] [.int .i64] (fun _=>True) (fun x y=>y=(fun s=>(kq s:Int)) x):=
 bP (X:=Tryz.X) (bJ Tryz.bI) Tryz.func83 (by kernel_rfl) (fun x=>ML x) (fun x hw hp=>ZJ x hw)
def abL(e:aS)(n:Int)(hw:eD [.err,.int .i64] (e,n)):(cL Tryz.B [] Tryz.f11 [] [.err,.int .i64] [.bool] (fun x y=>y=(fun x=>fJ x.1 x.2) x) (e,n)).holds:=by
 refine holds_of (p:=
  let za:=fJ e n
  ((aS.isNil e)=true->(n == 0)=za)/\((aS.isNil e)=false->((aS.Q1 e)=true->((decide (n > 0))=true->(aS.num e == n)=za)/\((decide (n > 0))=false->false=za))/\((aS.Q1 e)=false->false=za))) (by kernel_rfl) ?_
 dsimp -iota -proj -eta only;refine⟨fun h0 =>?a,fun h0=>⟨fun h1=>iL (fun h2 =>?b) (fun h2 =>?c),fun h1 =>?d⟩⟩
 case a|b|c|d=>cases e <;> simp_all [aS.isNil,aS.Q1,aS.num,fJ] <;> omega
def Tryz.kG:bO Tryz.prog Tryz.B.eT Tryz.X 11 [.err,.int .i64] [.bool] (fun _=>True) (fun x y=>y=(fun x=>fJ x.1 x.2) x):=
 bP (X:=Tryz.X) (bJ Tryz.bI) Tryz.func11 (by kernel_rfl) (fun _=>[]) (fun x hw hp=>abL x.1 x.2 hw)
def Tryz.spZ0:Bool×aX:=(true,bX [.str] [.err] (fun _=>True) (fun s=>aL (aJ s)))
def Tryz.spZ1:Bool×aX:=(true,bX [.str] [.int .i64] (fun _=>True) (fun s=>aJ s))
def Tryz.spZ2:Bool×aX:=(true,bX [.str] [.int .u32] (fun _=>True) (fun s=>(kq s:Int)))
def Tryz.spZ3:Bool×aX:=(true,bX [.str] [.int .i64] (fun _=>True) (fun s=>(kq s:Int)))
def Tryz.spZ4:Bool×aX:=(true,bX [.err,.int .i64] [.bool] (fun _=>True) (fun x=>fJ x.1 x.2))
def Tryz.Qw:List (FuncId×(Bool×aX)):=[(49,Tryz.spZ0),(50,Tryz.spZ1),(156,Tryz.spZ2),(83,Tryz.spZ3),(11,Tryz.spZ4)]
def Tryz.Wp:bL Tryz.prog Tryz.B Tryz.X Tryz.Qw:=
 aM (aE Tryz.js) (aM (aE Tryz.fI) (aM (aE Tryz.kE) (aM (aE Tryz.jt) (aM (aE Tryz.kG) (bJ Tryz.bI)))))
def Qx(e:D aB):cU:=[
 (0,fun st=>{X:=Nat,inv:=fun i=>i<=bb e.2.1/\∀j,j<i->eH (nth aG e.2.1 j)=0,bF:=fun i=>bb e.2.1-i,aY:=fun i=>[(34,sI i)],keep:=[1,32,33]}),
 (2,fun st=>{X:=Nat,inv:=fun i=>i<=bb e.2.2.1/\∀j,j<i->dS e.2.1.length (nth aN e.2.2.1 j)=0,bF:=fun i=>bb e.2.2.1-i,aY:=fun i=>[(73,sI i)],keep:=[1,71,72]})]
def Wq(e:D aB)(hw:eD [aB] e):(cL Tryz.B Tryz.Qw Tryz.f30 (Qx e) [aB] [.err] (fun x y=>y=(fun e=>aL (bE e)) x) e).holds:=by
 refine holds_of (p:=
  let za:=aL (aJ e.1)
  let zb:=aL (bE e)
  let zc:=e.2.1
  let zd:=bb zc
  let ze:=zd<=aI
  let zf:=(↑zd:Int)
  let zg:=aS.no (2:Int)=zb
  let zh:=e.2.2.1
  let zi:=bb zh
  let zj:=fun(E:Nat)=>aL (aJ (nth aG zc E).1)
  let zk:=aS.no (1:Int)=zb
  let zl:=fun(E:Nat)=>(nth aG zc E).2.2.1
  let zm:=fun(E:Nat)=>(↑E:Int)+(1:Int)
  let zn:=(e.1=e.1/\zc=zc/\zh=zh/\True)/\True
  True/\((!aS.isNil za)=true->za=zb)/\((!aS.isNil za)=false->ze->((decide (zf<(1:Int)))=true->zg)/\((decide (zf<(1:Int)))=false->ze->((decide (zf > (6:Int)))=true->zg)/\((decide (zf > (6:Int)))=false->zi<=aI->((decide ((↑zi:Int) > (36:Int)))=true->zg)/\((decide ((↑zi:Int) > (36:Int)))=false->ze->(∃(x:Nat),(x<=zd/\∀(j:Nat),j<x->eH (nth aG zc j)=(0:Int))/\((0:Int)=(↑x:Int)/\True)/\True)/\∀E:Nat,(E<=zd/\∀(j:Nat),j<E->eH (nth aG zc j)=(0:Int))->((decide ((↑E:Int)<zf))=true->((0:Int)<=(↑E:Int)/\(↑E:Int)<zf)/\True/\((!aS.isNil (zj E))=true->zj E=zb)/\((!aS.isNil (zj E))=false->((decide ((nth aG zc E).2.1<(1:Int)))=true->zk)/\((decide ((nth aG zc E).2.1<(1:Int)))=false->((decide ((nth aG zc E).2.1 > (1000000:Int)))=true->zk)/\((decide ((nth aG zc E).2.1 > (1000000:Int)))=false->((decide (zl E<(0:Int)))=true->zk)/\((decide (zl E<(0:Int)))=false->((decide (zl E>=(256:Int)))=true->zk)/\((decide (zl E>=(256:Int)))=false->(16:Int)≠(0:Int)/\∀F:Int,F=cq (zl E) (16:Int)->((F != (0:Int))=true->zk)/\((F != (0:Int))=false->aF (↑E:Int)->aF (1:Int)->aF (zm E)/\∃(x':Nat),(x'<=zd/\∀(j:Nat),j<x'->eH (nth aG zc j)=(0:Int))/\zd-x'<zd-E/\(zm E=(↑x':Int)/\True)/\zn)))))))/\((decide ((↑E:Int)<zf))=false->zi<=aI->(∃(x:Nat),(x<=zi/\∀(j:Nat),j<x->dS zd (nth aN zh j)=(0:Int))/\((0:Int)=(↑x:Int)/\True)/\True)/\∀F:Nat,(F<=zi/\∀(j:Nat),j<F->dS zd (nth aN zh j)=(0:Int))->((decide ((↑F:Int)<(↑zi:Int)))=true->((0:Int)<=(↑F:Int)/\(↑F:Int)<(↑zi:Int))/\((decide ((nth aN zh F).1<(0:Int)))=true->zk)/\((decide ((nth aN zh F).1<(0:Int)))=false->ze->((decide ((nth aN zh F).1>=zf))=true->zk)/\((decide ((nth aN zh F).1>=zf))=false->((decide ((nth aN zh F).2.1<(0:Int)))=true->zk)/\((decide ((nth aN zh F).2.1<(0:Int)))=false->((decide ((nth aN zh F).2.1>=(40:Int)))=true->zk)/\((decide ((nth aN zh F).2.1>=(40:Int)))=false->((decide ((nth aN zh F).2.2.1<(-2147483648:Int)))=true->zk)/\((decide ((nth aN zh F).2.2.1<(-2147483648:Int)))=false->((decide ((nth aN zh F).2.2.1 > (2147483647:Int)))=true->zk)/\((decide ((nth aN zh F).2.2.1 > (2147483647:Int)))=false->aF (↑F:Int)->aF (1:Int)->aF (zm F)/\∃(x':Nat),(x'<=zi/\∀(j:Nat),j<x'->dS zd (nth aN zh j)=(0:Int))/\zi-x'<zi-F/\(zm F=(↑x':Int)/\True)/\zn)))))))/\((decide ((↑F:Int)<(↑zi:Int)))=false->aS.nil=zb))))))) (by kernel_rfl) ?_
 dsimp -iota -proj -eta only;refine⟨ba,iB (fun h0=>(by rw[vQ (o1 (cQ _) h0)])) (fun h0 h1=>iL (fun h2=>(by rw[mN (dW (by assumption:(aL (aJ e.1)).isNil=true)) (.inl (by omega))];rfl)) (fun h2 h3=>iL (fun h4=>(by rw[mN (dW (by assumption:(aL (aJ e.1)).isNil=true)) (.inr (.inl (by omega)))];rfl)) (fun h4 h5=>iL (fun h6=>(by rw[mN (dW (by assumption:(aL (aJ e.1)).isNil=true)) (.inr (.inr (by omega)))];rfl)) (fun h6 h7=>⟨?a,fun E q_0=>iL (fun h8=>⟨?b,ba,iB (fun h9=>(by have hp:=o1 (cQ _) h9;rw[(fV (dW (by assumption:(aL (aJ e.1)).isNil=true)) (eI (by omega) (by omega) (by omega)) q_0.2 (by omega) (FJ hp) (by omega))])) (fun h9=>iL (fun h10=>(by rw[(fV (dW (by assumption:(aL (aJ e.1)).isNil=true)) (eI (by omega) (by omega) (by omega)) q_0.2 (by omega) (lM (dW h9) (.inl ‹_›)) (by decide))];rfl)) (fun h10=>iL (fun h11=>(by rw[(fV (dW (by assumption:(aL (aJ e.1)).isNil=true)) (eI (by omega) (by omega) (by omega)) q_0.2 (by omega) (lM (dW h9) (.inr (.inl ‹_›))) (by decide))];rfl)) (fun h11=>iL (fun h12=>(by rw[(fV (dW (by assumption:(aL (aJ e.1)).isNil=true)) (eI (by omega) (by omega) (by omega)) q_0.2 (by omega) (lM (dW h9) (.inr (.inr (.inl ‹_›)))) (by decide))];rfl)) (fun h12=>iE (fun h13=>(by rw[(fV (dW (by assumption:(aL (aJ e.1)).isNil=true)) (eI (by omega) (by omega) (by omega)) q_0.2 (by omega) (lM (dW h9) (.inr (.inr (.inr (.inl ‹_›))))) (by decide))];rfl)) (fun h13=>⟨(by trivial),fun F q_1=>iN (fun h14=>(by have hb:=yh h12 q_1;rw[(fV (dW (by assumption:(aL (aJ e.1)).isNil=true)) (eI (by omega) (by omega) (by omega)) q_0.2 (by omega) (lM (dW h9) (.inr (.inr (.inr (.inr (by rw[hb]at h14;exact(Int.lt_iff_le_and_ne.2 ⟨Int.emod_nonneg _ (by decide),fun e'=>h14 e'.symm⟩))))))) (by decide))];rfl)) (fun h14 h15 h16=>⟨?c,(by have hb:=yh h12 q_1;exact⟨E+1,⟨by omega,jD q_0.2 (D0 (dW h9) h10 h11 h12 (eg (show _<(255:Int)+1 from h13)) (hb.symm.trans h14))⟩,by omega,⟨by omega,ba⟩,(by trivial)⟩)⟩)⟩)))))⟩) (fun h8 h9=>⟨?d,fun F q_1=>iL (fun h10=>⟨?e,iL (fun h11=>(by rw[(gJ (dW (by assumption:(aL (aJ e.1)).isNil=true)) (eI (by omega) (by omega) (by omega)) (fun j hj=>q_0.2 j (by omega)) q_1.2 (by omega) (lN (.inl ‹_›)))];rfl)) (fun h11 h12=>iE (fun h13=>(by rw[(gJ (dW (by assumption:(aL (aJ e.1)).isNil=true)) (eI (by omega) (by omega) (by omega)) (fun j hj=>q_0.2 j (by omega)) q_1.2 (by omega) (lN (.inr (.inl ‹_›))))];rfl)) (fun h13=>iL (fun h14=>(by rw[(gJ (dW (by assumption:(aL (aJ e.1)).isNil=true)) (eI (by omega) (by omega) (by omega)) (fun j hj=>q_0.2 j (by omega)) q_1.2 (by omega) (lN (.inr (.inr (.inl ‹_›)))))];rfl)) (fun h14=>iE (fun h15=>(by rw[(gJ (dW (by assumption:(aL (aJ e.1)).isNil=true)) (eI (by omega) (by omega) (by omega)) (fun j hj=>q_0.2 j (by omega)) q_1.2 (by omega) (lN (.inr (.inr (.inr (.inl ‹_›))))))];rfl)) (fun h15=>iL (fun h16=>(by rw[(gJ (dW (by assumption:(aL (aJ e.1)).isNil=true)) (eI (by omega) (by omega) (by omega)) (fun j hj=>q_0.2 j (by omega)) q_1.2 (by omega) (lN (.inr (.inr (.inr (.inr (.inl ‹_›)))))))];rfl)) (fun h16=>iL (fun h17=>(by rw[(gJ (dW (by assumption:(aL (aJ e.1)).isNil=true)) (eI (by omega) (by omega) (by omega)) (fun j hj=>q_0.2 j (by omega)) q_1.2 (by omega) (lN (.inr (.inr (.inr (.inr (.inr ‹_›)))))))];rfl)) (fun h17 h18 h19=>⟨?f,(⟨F+1,⟨by omega,jD q_1.2 (FK ‹_› ‹_› ‹_› (eg (show _<(39:Int)+1 from h15)) ‹_› ‹_›)⟩,by omega,⟨by omega,ba⟩,(by trivial)⟩)⟩))))))⟩) (fun h10=>(by rw[A7 (dW (by assumption:(aL (aJ e.1)).isNil=true)) (eI (by omega) (by omega) (by omega)) (fun j hj=>q_0.2 j (by omega)) (fun j hj=>q_1.2 j (by omega))];rfl))⟩)⟩))))⟩
 case a|d=>exact⟨0,⟨b7 _,fun j hj=>absurd hj (cz _)⟩,⟨rfl,ba⟩,ba⟩
 case b|e=>omega
 case c|f=>simp only[aF,aI]at*;omega
def Tryz.IW:bO Tryz.prog Tryz.B.eT Tryz.X 30 [aB] [.err] (fun _=>True) (fun x y=>y=(fun e=>aL (bE e)) x):=
 bP (X:=Tryz.X) Tryz.Wp Tryz.func30 (by kernel_rfl) (fun x=>Qx x) (fun x hw hp=>Wq x hw)
end Go.Proofs.YtgokjhhcfemnhabGreatDoor

namespace Go.Proofs.YtgokjhhcfemnhabGreatDoor
open Go.Shelf
def Tryz.OO:c6:=⟨fun|103=>145|210=>190|206=>219|n=>n,fun|9=>9|4=>4|24=>208|3=>3|n=>n,fun|n=>n⟩
def Tryz.abM:fa Tryz.prog Tryz.OO:={
 mixed:=by kernel_rfl
 f103:=Tryz.func145.trans (congrArg some (by kernel_rfl))
 f206:=Tryz.func219.trans (congrArg some (by kernel_rfl))
 f210:=Tryz.func190.trans (congrArg some (by kernel_rfl))
 t3:=Tryz.underlying3
 a3:=Tryz.isAgg3
 z3:=Tryz.sizeOf3
 v3:=Tryz.zeroValue3
 t4:=Tryz.underlying4
 a4:=Tryz.isAgg4
 z4:=Tryz.sizeOf4
 v4:=Tryz.zeroValue4
 t9:=Tryz.underlying9
 a9:=Tryz.isAgg9
 z9:=Tryz.sizeOf9
 v9:=Tryz.zeroValue9
 t24:=Tryz.underlying208
 a24:=Tryz.isAgg208
 z24:=Tryz.sizeOf208
 v24:=Tryz.zeroValue208}
open Go.RowKit in
def Tryz.strings_CutPrefix(s p:ByteArray)(w:World) :
  Calls Tryz.prog 145 #[.string s,.string p] w fun e w'=>e=.returned (.tuple #[.string ⟨(cf s.data.toList p.data.toList).toArray⟩,.bool (c7 s.data.toList p.data.toList)])/\w'=w:=Any.strings_CutPrefix Tryz.abM s p w
def Tryz.MN:c6:=⟨fun|171=>61|243=>103|246=>132|283=>161|284=>162|285=>163|286=>164|129=>184|317=>199|318=>200|319=>201|320=>202|337=>224|338=>225|n=>n,fun|3=>3|9=>9|2=>2|4=>4|171=>255|0=>0|53=>44|37=>181|5=>5|173=>258|212=>286|51=>248|20=>20|213=>287|46=>212|232=>316|233=>317|n=>n,fun|17=>0|18=>6|19=>7|n=>n⟩
def Tryz.ZK:fb Tryz.prog Tryz.MN:={
 mixed:=by kernel_rfl
 f129:=Tryz.func184.trans (congrArg some (by kernel_rfl))
 f171:=Tryz.func61.trans (congrArg some (by kernel_rfl))
 f243:=Tryz.func103.trans (congrArg some (by kernel_rfl))
 f246:=Tryz.func132.trans (congrArg some (by kernel_rfl))
 f283:=Tryz.func161.trans (congrArg some (by kernel_rfl))
 f284:=Tryz.func162.trans (congrArg some (by kernel_rfl))
 f285:=Tryz.func163.trans (congrArg some (by kernel_rfl))
 f286:=Tryz.func164.trans (congrArg some (by kernel_rfl))
 f317:=Tryz.func199.trans (congrArg some (by kernel_rfl))
 f318:=Tryz.func200.trans (congrArg some (by kernel_rfl))
 f319:=Tryz.func201.trans (congrArg some (by kernel_rfl))
 f320:=Tryz.func202.trans (congrArg some (by kernel_rfl))
 f337:=Tryz.func224.trans (congrArg some (by kernel_rfl))
 f338:=Tryz.func225.trans (congrArg some (by kernel_rfl))
 t0:=Tryz.underlying0
 a0:=Tryz.isAgg0
 z0:=Tryz.sizeOf0
 v0:=Tryz.zeroValue0
 t2:=Tryz.underlying2
 a2:=Tryz.isAgg2
 z2:=Tryz.sizeOf2
 v2:=Tryz.zeroValue2
 t3:=Tryz.underlying3
 a3:=Tryz.isAgg3
 z3:=Tryz.sizeOf3
 v3:=Tryz.zeroValue3
 t4:=Tryz.underlying4
 a4:=Tryz.isAgg4
 z4:=Tryz.sizeOf4
 v4:=Tryz.zeroValue4
 t5:=Tryz.underlying5
 a5:=Tryz.isAgg5
 z5:=Tryz.sizeOf5
 v5:=Tryz.zeroValue5
 t9:=Tryz.underlying9
 a9:=Tryz.isAgg9
 z9:=Tryz.sizeOf9
 v9:=Tryz.zeroValue9
 t20:=Tryz.underlying20
 a20:=Tryz.isAgg20
 z20:=Tryz.sizeOf20
 v20:=Tryz.zeroValue20
 t37:=Tryz.underlying181
 a37:=Tryz.isAgg181
 z37:=Tryz.sizeOf181
 v37:=Tryz.zeroValue181
 t46:=Tryz.underlying212
 a46:=Tryz.isAgg212
 z46:=Tryz.sizeOf212
 v46:=Tryz.zeroValue212
 t51:=Tryz.underlying248
 a51:=Tryz.isAgg248
 z51:=Tryz.sizeOf248
 v51:=Tryz.zeroValue248
 t53:=Tryz.underlying44
 a53:=Tryz.isAgg44
 z53:=Tryz.sizeOf44
 v53:=Tryz.zeroValue44
 t171:=Tryz.underlying255
 a171:=Tryz.isAgg255
 z171:=Tryz.sizeOf255
 v171:=Tryz.zeroValue255
 t173:=Tryz.underlying258
 a173:=Tryz.isAgg258
 z173:=Tryz.sizeOf258
 v173:=Tryz.zeroValue258
 t212:=Tryz.underlying286
 a212:=Tryz.isAgg286
 z212:=Tryz.sizeOf286
 v212:=Tryz.zeroValue286
 t213:=Tryz.underlying287
 a213:=Tryz.isAgg287
 z213:=Tryz.sizeOf287
 t232:=Tryz.underlying316
 a232:=Tryz.isAgg316
 z232:=Tryz.sizeOf316
 v232:=Tryz.zeroValue316
 t233:=Tryz.underlying317
 a233:=Tryz.isAgg317
 z233:=Tryz.sizeOf317
 v233:=Tryz.zeroValue317
 g17:=by kernel_rfl
 g18:=by kernel_rfl
 g19:=by kernel_rfl
 i0:=by kernel_rfl
 i2:=by kernel_rfl
 i3:=by kernel_rfl
 i4:=by kernel_rfl
 i5:=by kernel_rfl
 i9:=by kernel_rfl
 i20:=by kernel_rfl
 i37:=by kernel_rfl
 i46:=by kernel_rfl
 i51:=by kernel_rfl
 i53:=by kernel_rfl
 i171:=by kernel_rfl
 i173:=by kernel_rfl
 i212:=by kernel_rfl
 i232:=by kernel_rfl
 i233:=by kernel_rfl
 m17:=by kernel_rfl
 m18:=by kernel_rfl
 m19:=by kernel_rfl}
open Go.RowKit Go.Sort Go.Lib in
def Tryz.strconv_Itoa(n:Int)(h0 : -9223372036854775808<=n)(h1:n<=9223372036854775807)(w:World)(htab:dp Tryz.prog w "internal/strconv.uint64pow10" .u64 dq) :
  Calls Tryz.prog 61 #[.int .i64 n] w fun e w'=>e=.returned (.string ⟨(bo n).toArray⟩)/\∃k os,w'=grow (w.drewN k) os:=Any.strconv_Itoa Tryz.ZK n h0 h1 w htab
def Tryz.MO:c6:=⟨fun|172=>106|244=>137|245=>138|247=>169|279=>170|280=>171|281=>172|282=>173|287=>208|316=>209|171=>61|205=>210|321=>228|322=>229|243=>103|246=>132|283=>161|284=>162|285=>163|286=>164|129=>184|317=>199|318=>200|319=>201|320=>202|337=>224|338=>225|n=>n,fun|9=>9|3=>3|75=>33|76=>183|4=>4|5=>5|167=>263|37=>181|0=>0|85=>264|2=>2|168=>266|53=>44|175=>288|46=>212|210=>291|127=>282|145=>312|143=>310|21=>21|171=>255|173=>258|212=>286|51=>248|20=>20|213=>287|232=>316|233=>317|80=>246|n=>n,fun|15=>2|16=>3|17=>0|18=>6|19=>7|n=>n⟩
def Tryz.D8:fc Tryz.prog Tryz.MO:={
 mixed:=by kernel_rfl
 f129:=Tryz.func184.trans (congrArg some (by kernel_rfl))
 f171:=Tryz.func61.trans (congrArg some (by kernel_rfl))
 f172:=Tryz.func106.trans (congrArg some (by kernel_rfl))
 f205:=Tryz.func210.trans (congrArg some (by kernel_rfl))
 f243:=Tryz.func103.trans (congrArg some (by kernel_rfl))
 f244:=Tryz.func137.trans (congrArg some (by kernel_rfl))
 f245:=Tryz.func138.trans (congrArg some (by kernel_rfl))
 f246:=Tryz.func132.trans (congrArg some (by kernel_rfl))
 f247:=Tryz.func169.trans (congrArg some (by kernel_rfl))
 f279:=Tryz.func170.trans (congrArg some (by kernel_rfl))
 f280:=Tryz.func171.trans (congrArg some (by kernel_rfl))
 f281:=Tryz.func172.trans (congrArg some (by kernel_rfl))
 f282:=Tryz.func173.trans (congrArg some (by kernel_rfl))
 f283:=Tryz.func161.trans (congrArg some (by kernel_rfl))
 f284:=Tryz.func162.trans (congrArg some (by kernel_rfl))
 f285:=Tryz.func163.trans (congrArg some (by kernel_rfl))
 f286:=Tryz.func164.trans (congrArg some (by kernel_rfl))
 f287:=Tryz.func208.trans (congrArg some (by kernel_rfl))
 f316:=Tryz.func209.trans (congrArg some (by kernel_rfl))
 f317:=Tryz.func199.trans (congrArg some (by kernel_rfl))
 f318:=Tryz.func200.trans (congrArg some (by kernel_rfl))
 f319:=Tryz.func201.trans (congrArg some (by kernel_rfl))
 f320:=Tryz.func202.trans (congrArg some (by kernel_rfl))
 f321:=Tryz.func228.trans (congrArg some (by kernel_rfl))
 f322:=Tryz.func229.trans (congrArg some (by kernel_rfl))
 f337:=Tryz.func224.trans (congrArg some (by kernel_rfl))
 f338:=Tryz.func225.trans (congrArg some (by kernel_rfl))
 t0:=Tryz.underlying0
 a0:=Tryz.isAgg0
 z0:=Tryz.sizeOf0
 v0:=Tryz.zeroValue0
 t2:=Tryz.underlying2
 a2:=Tryz.isAgg2
 z2:=Tryz.sizeOf2
 v2:=Tryz.zeroValue2
 t3:=Tryz.underlying3
 a3:=Tryz.isAgg3
 z3:=Tryz.sizeOf3
 v3:=Tryz.zeroValue3
 t4:=Tryz.underlying4
 a4:=Tryz.isAgg4
 z4:=Tryz.sizeOf4
 v4:=Tryz.zeroValue4
 t5:=Tryz.underlying5
 a5:=Tryz.isAgg5
 z5:=Tryz.sizeOf5
 v5:=Tryz.zeroValue5
 t9:=Tryz.underlying9
 a9:=Tryz.isAgg9
 z9:=Tryz.sizeOf9
 v9:=Tryz.zeroValue9
 t20:=Tryz.underlying20
 a20:=Tryz.isAgg20
 z20:=Tryz.sizeOf20
 v20:=Tryz.zeroValue20
 t21:=Tryz.underlying21
 a21:=Tryz.isAgg21
 z21:=Tryz.sizeOf21
 v21:=Tryz.zeroValue21
 t37:=Tryz.underlying181
 a37:=Tryz.isAgg181
 z37:=Tryz.sizeOf181
 v37:=Tryz.zeroValue181
 t46:=Tryz.underlying212
 a46:=Tryz.isAgg212
 z46:=Tryz.sizeOf212
 v46:=Tryz.zeroValue212
 t51:=Tryz.underlying248
 a51:=Tryz.isAgg248
 z51:=Tryz.sizeOf248
 v51:=Tryz.zeroValue248
 t53:=Tryz.underlying44
 a53:=Tryz.isAgg44
 z53:=Tryz.sizeOf44
 v53:=Tryz.zeroValue44
 t75:=Tryz.underlying33
 a75:=Tryz.isAgg33
 z75:=Tryz.sizeOf33
 v75:=Tryz.zeroValue33
 t76:=Tryz.underlying183
 a76:=Tryz.isAgg183
 z76:=Tryz.sizeOf183
 v76:=Tryz.zeroValue183
 t85:=Tryz.underlying264
 a85:=Tryz.isAgg264
 z85:=Tryz.sizeOf264
 v85:=Tryz.zeroValue264
 t127:=Tryz.underlying282
 a127:=Tryz.isAgg282
 z127:=Tryz.sizeOf282
 v127:=Tryz.zeroValue282
 t143:=Tryz.underlying310
 a143:=Tryz.isAgg310
 z143:=Tryz.sizeOf310
 v143:=Tryz.zeroValue310
 t145:=Tryz.underlying312
 a145:=Tryz.isAgg312
 z145:=Tryz.sizeOf312
 v145:=Tryz.zeroValue312
 t167:=Tryz.underlying263
 a167:=Tryz.isAgg263
 z167:=Tryz.sizeOf263
 v167:=Tryz.zeroValue263
 t168:=Tryz.underlying266
 a168:=Tryz.isAgg266
 z168:=Tryz.sizeOf266
 v168:=Tryz.zeroValue266
 t171:=Tryz.underlying255
 a171:=Tryz.isAgg255
 z171:=Tryz.sizeOf255
 v171:=Tryz.zeroValue255
 t173:=Tryz.underlying258
 a173:=Tryz.isAgg258
 z173:=Tryz.sizeOf258
 v173:=Tryz.zeroValue258
 t175:=Tryz.underlying288
 a175:=Tryz.isAgg288
 z175:=Tryz.sizeOf288
 v175:=Tryz.zeroValue288
 t210:=Tryz.underlying291
 a210:=Tryz.isAgg291
 z210:=Tryz.sizeOf291
 v210:=Tryz.zeroValue291
 t212:=Tryz.underlying286
 a212:=Tryz.isAgg286
 z212:=Tryz.sizeOf286
 v212:=Tryz.zeroValue286
 t213:=Tryz.underlying287
 a213:=Tryz.isAgg287
 z213:=Tryz.sizeOf287
 t232:=Tryz.underlying316
 a232:=Tryz.isAgg316
 z232:=Tryz.sizeOf316
 v232:=Tryz.zeroValue316
 t233:=Tryz.underlying317
 a233:=Tryz.isAgg317
 z233:=Tryz.sizeOf317
 v233:=Tryz.zeroValue317
 g15:=by kernel_rfl
 g16:=by kernel_rfl
 g17:=by kernel_rfl
 g18:=by kernel_rfl
 g19:=by kernel_rfl
 t80:=Tryz.underlying246
 a80:=Tryz.isAgg246
 z80:=Tryz.sizeOf246
 v80:=Tryz.zeroValue246
 i0:=by kernel_rfl
 i2:=by kernel_rfl
 i3:=by kernel_rfl
 i4:=by kernel_rfl
 i5:=by kernel_rfl
 i9:=by kernel_rfl
 i20:=by kernel_rfl
 i21:=by kernel_rfl
 i37:=by kernel_rfl
 i46:=by kernel_rfl
 i51:=by kernel_rfl
 i53:=by kernel_rfl
 i75:=by kernel_rfl
 i76:=by kernel_rfl
 i80:=by kernel_rfl
 i85:=by kernel_rfl
 i127:=by kernel_rfl
 i143:=by kernel_rfl
 i145:=by kernel_rfl
 i167:=by kernel_rfl
 i168:=by kernel_rfl
 i171:=by kernel_rfl
 i173:=by kernel_rfl
 i175:=by kernel_rfl
 i210:=by kernel_rfl
 i212:=by kernel_rfl
 i232:=by kernel_rfl
 i233:=by kernel_rfl
 m15:=by kernel_rfl
 m16:=by kernel_rfl
 m17:=by kernel_rfl
 m18:=by kernel_rfl
 m19:=by kernel_rfl
 c0:=by kernel_rfl
 c2:=by kernel_rfl
 c3:=by kernel_rfl
 c4:=by kernel_rfl
 c5:=by kernel_rfl
 c9:=by kernel_rfl
 c20:=by kernel_rfl
 c21:=by kernel_rfl
 c37:=by kernel_rfl
 c46:=by kernel_rfl
 c51:=by kernel_rfl
 c53:=by kernel_rfl
 c75:=by kernel_rfl
 c76:=by kernel_rfl
 c80:=by kernel_rfl
 c85:=by kernel_rfl
 c127:=by kernel_rfl
 c143:=by kernel_rfl
 c145:=by kernel_rfl
 c167:=by kernel_rfl
 c168:=by kernel_rfl
 c171:=by kernel_rfl
 c173:=by kernel_rfl
 c175:=by kernel_rfl
 c210:=by kernel_rfl
 c212:=by kernel_rfl
 c213:=by kernel_rfl
 c232:=by kernel_rfl
 c233:=by kernel_rfl}
open Go.RowKit in
def Tryz.strconv_Atoi_ok(s:ByteArray)(hmax:s.size<=9223372036854775806)(v:Int)(h:de s.data.toList=.ok v)(w:World) :
  Calls Tryz.prog 106 #[.string s] w fun e w'=>e=.returned (.tuple #[.int .i64 v,.nilIface])/\(w'=w\/∃t,w'=Lib.bytesWorld w 5 t):=Any.strconv_Atoi_ok Tryz.D8 s hmax v h w
open Go.RowKit in
def Tryz.strconv_Atoi_syntax(s:ByteArray)(hlim:s.size<=281474976710656)(h:de s.data.toList=Go.Lib.NumEnd.syntax)(ev:Value)(w:World)(hv:w.cell? ⟨2,0,none⟩=some ev)(hev:ev=.nilIface\/∃te pe,ev=.iface te pe) :
  Calls Tryz.prog 106 #[.string s] w fun e w'=>∃N,e=.returned (.tuple #[.int .i64 (0),.iface 266 (.pointer (some ⟨N,0,none⟩))])/\w.heap.size<=N/\w'.heap[N]?=some (.cells #[.string ⟨#[65,116,111,105]⟩,.string s,ev] 291 (0,0))/\Below w.heap.size w w':=Any.strconv_Atoi_syntax Tryz.D8 s hlim h ev w hv hev
open Go.RowKit in
def Tryz.strconv_Atoi_range(s:ByteArray)(hlim:s.size<=281474976710656)(h:de s.data.toList=.range)(ev:Value)(w:World)(hv:w.cell? ⟨3,0,none⟩=some ev)(hev:ev=.nilIface\/∃te pe,ev=.iface te pe) :
  Calls Tryz.prog 106 #[.string s] w fun e w'=>∃N,e=.returned (.tuple #[.int .i64 (ds s.data.toList),.iface 266 (.pointer (some ⟨N,0,none⟩))])/\w.heap.size<=N/\w'.heap[N]?=some (.cells #[.string ⟨#[65,116,111,105]⟩,.string s,ev] 291 (0,0))/\Below w.heap.size w w':=Any.strconv_Atoi_range Tryz.D8 s hlim h ev w hv hev
def Tryz.OP:c6:=⟨fun|102=>64|209=>105|207=>136|n=>n,fun|9=>9|4=>4|3=>3|n=>n,fun|n=>n⟩
def Tryz.abN:fe Tryz.prog Tryz.OP:={
 mixed:=by kernel_rfl
 f102:=Tryz.func64.trans (congrArg some (by kernel_rfl))
 f207:=Tryz.func136.trans (congrArg some (by kernel_rfl))
 f209:=Tryz.func105.trans (congrArg some (by kernel_rfl))
 t3:=Tryz.underlying3
 a3:=Tryz.isAgg3
 z3:=Tryz.sizeOf3
 v3:=Tryz.zeroValue3
 t4:=Tryz.underlying4
 a4:=Tryz.isAgg4
 z4:=Tryz.sizeOf4
 v4:=Tryz.zeroValue4
 t9:=Tryz.underlying9
 a9:=Tryz.isAgg9
 z9:=Tryz.sizeOf9
 v9:=Tryz.zeroValue9}
open Go.RowKit Go.Lib in
def Tryz.strings_TrimSuffix(s p:ByteArray)(w:World)(hs:s.size<=9223372036854775807) :
  Calls Tryz.prog 64 #[.string s,.string p] w fun e w'=>e=.returned (.string ⟨(bt s.data.toList p.data.toList).toArray⟩)/\w'=w:=Any.strings_TrimSuffix Tryz.abN s p w hs
def Tryz.OQ:c6:=⟨fun|146=>63|221=>104|268=>133|138=>134|143=>135|195=>165|197=>166|218=>167|219=>168|260=>203|217=>204|225=>205|224=>206|267=>207|266=>226|314=>227|n=>n,fun|9=>9|31=>64|3=>3|4=>4|0=>0|105=>260|21=>21|5=>5|46=>212|119=>304|139=>307|138=>306|146=>250|51=>248|n=>n,fun|1=>1|3=>4|4=>5|n=>n⟩
def Tryz.Qy:fg Tryz.prog Tryz.OQ:={
 mixed:=by kernel_rfl
 f138:=Tryz.func134.trans (congrArg some (by kernel_rfl))
 f143:=Tryz.func135.trans (congrArg some (by kernel_rfl))
 f146:=Tryz.func63.trans (congrArg some (by kernel_rfl))
 f195:=Tryz.func165.trans (congrArg some (by kernel_rfl))
 f197:=Tryz.func166.trans (congrArg some (by kernel_rfl))
 f217:=Tryz.func204.trans (congrArg some (by kernel_rfl))
 f218:=Tryz.func167.trans (congrArg some (by kernel_rfl))
 f219:=Tryz.func168.trans (congrArg some (by kernel_rfl))
 f221:=Tryz.func104.trans (congrArg some (by kernel_rfl))
 f224:=Tryz.func206.trans (congrArg some (by kernel_rfl))
 f225:=Tryz.func205.trans (congrArg some (by kernel_rfl))
 f260:=Tryz.func203.trans (congrArg some (by kernel_rfl))
 f266:=Tryz.func226.trans (congrArg some (by kernel_rfl))
 f267:=Tryz.func207.trans (congrArg some (by kernel_rfl))
 f268:=Tryz.func133.trans (congrArg some (by kernel_rfl))
 f314:=Tryz.func227.trans (congrArg some (by kernel_rfl))
 t0:=Tryz.underlying0
 a0:=Tryz.isAgg0
 z0:=Tryz.sizeOf0
 v0:=Tryz.zeroValue0
 t3:=Tryz.underlying3
 a3:=Tryz.isAgg3
 z3:=Tryz.sizeOf3
 v3:=Tryz.zeroValue3
 t4:=Tryz.underlying4
 a4:=Tryz.isAgg4
 z4:=Tryz.sizeOf4
 v4:=Tryz.zeroValue4
 t5:=Tryz.underlying5
 a5:=Tryz.isAgg5
 z5:=Tryz.sizeOf5
 v5:=Tryz.zeroValue5
 t9:=Tryz.underlying9
 a9:=Tryz.isAgg9
 z9:=Tryz.sizeOf9
 v9:=Tryz.zeroValue9
 t21:=Tryz.underlying21
 a21:=Tryz.isAgg21
 z21:=Tryz.sizeOf21
 v21:=Tryz.zeroValue21
 t31:=Tryz.underlying64
 a31:=Tryz.isAgg64
 z31:=Tryz.sizeOf64
 v31:=Tryz.zeroValue64
 t46:=Tryz.underlying212
 a46:=Tryz.isAgg212
 z46:=Tryz.sizeOf212
 v46:=Tryz.zeroValue212
 t51:=Tryz.underlying248
 a51:=Tryz.isAgg248
 z51:=Tryz.sizeOf248
 v51:=Tryz.zeroValue248
 t105:=Tryz.underlying260
 a105:=Tryz.isAgg260
 z105:=Tryz.sizeOf260
 v105:=Tryz.zeroValue260
 t119:=Tryz.underlying304
 a119:=Tryz.isAgg304
 z119:=Tryz.sizeOf304
 t138:=Tryz.underlying306
 a138:=Tryz.isAgg306
 z138:=Tryz.sizeOf306
 v138:=Tryz.zeroValue306
 t139:=Tryz.underlying307
 a139:=Tryz.isAgg307
 z139:=Tryz.sizeOf307
 v139:=Tryz.zeroValue307
 t146:=Tryz.underlying250
 a146:=Tryz.isAgg250
 z146:=Tryz.sizeOf250
 v146:=Tryz.zeroValue250
 g1:=by kernel_rfl
 g3:=by kernel_rfl
 g4:=by kernel_rfl}
open Go.RowKit Go.Lib in
def Tryz.strings_Split(s sep:ByteArray)(m:Int)(w:World)(hs:s.size<4294967281)(hm:w.cell? ⟨1,0,none⟩=some (.int .i64 m))(h1:1<=sep.size) :
  Calls Tryz.prog 63 #[.string s,.string sep] w fun e w'=>
   e=.returned (.slice (some ⟨w.heap.size,0,none⟩) (bp s sep+1) (bp s sep+1))/\w'=w.alloc (.cells ((ca sep 0 (bp s sep) s).map cr).toArray 9):=Any.strings_Split Tryz.Qy (by kernel_rfl) s sep m w hs hm h1
end Go.Proofs.YtgokjhhcfemnhabGreatDoor

namespace Go.Proofs.YtgokjhhcfemnhabGreatDoor
open Go.Vg Go.Mrl
def Ta(w:World)(k:Nat)(os:Array Obj):Vg.Below w.heap.size w (Sort.grow (w.drewN k) os):=by
 refine⟨rfl,rfl,?_,fun i hi =>?_⟩
 ·show w.heap.size<=(w.heap++os).size
  simp
 ·show(w.heap++os)[i]?=w.heap[i]?
  rw[Array.getElem?_append,if_pos hi]
def abO{eT:TypeId}{n:Int}{O:aK}{w:World}{v:Value}(h:VR eT (.int .i64) n O w v):v=.int .i64 n/\-9223372036854775808<=n/\n<=9223372036854775807:=by
 obtain⟨h1,h2,h3⟩:=VR.one rfl h;exact⟨by simpa using h1,h2,h3⟩
def pI{eT:TypeId}{s:List UInt8}{O:aK}{w:World}{v:Value}(h:VR eT .str s O w v):v=.string ⟨s.toArray⟩/\s.length<=aI:=by
 obtain⟨h1,h2⟩:=VR.one rfl h;exact⟨by simpa using h1,h2⟩
def MP{eT:TypeId}{s:List UInt8}{O:aK}{w:World}(h:s.length<=aI):VR eT .str s O w (.string ⟨s.toArray⟩):=VR.cZ rfl ⟨rfl,h⟩
def yx:∀(k u:Nat),u<10^(k+1)->Lib.nDigits u<=k+1
 |0,u,h=>by rw[eh (by simpa using h)];exact cb _
 |k+1,u,h=>by
  by_cases hu:u<10
  ·rw[eh hu];omega
  ·rw[Lib.nDigits_big hu]
   have:=yx k (u / 10) (by rw[Nat.pow_succ]at h;omega);omega
def ZL{n:Int}(h0 : -9223372036854775808<=n)(h1:n<=9223372036854775807):(bo n).length<=21:=by
 unfold bo;split
 ·rw[bx,ei]
  have:=yx 19 n.natAbs (by omega);omega
 ·rw[ei]
  have:=yx 19 n.toNat (by omega);omega
def Tryz.qA:bO Tryz.prog Tryz.B.eT Tryz.X 61 [.int .i64] [.str] (fun _=>True) (fun n y=>y=bo n):=by
 refine⟨⟨Tryz.f61,Tryz.func61,by kernel_rfl,by kernel_rfl⟩,fun O w n vs hG hO ha _ =>?_⟩;obtain⟨v,rfl,hv⟩:=ha;obtain⟨rfl,h0,h1⟩:=abO hv;refine(Tryz.strconv_Itoa n h0 h1 w hG.pow).mono ?_;rintro e w' ⟨rfl,k,os,rfl⟩;exact⟨[.string ⟨(bo n).toArray⟩],bo n,rfl,rfl,⟨_,rfl,MP (by have:=ZL h0 h1;unfold aI;omega)⟩,Ta w k os⟩
def Tryz.uw:bO Tryz.prog Tryz.B.eT Tryz.X 106 [.str] [.int .i64,.err] (fun s=>s.length<=281474976710656) (fun s y=>y=eX s):=by
 refine⟨⟨Tryz.f106,Tryz.func106,by kernel_rfl,by kernel_rfl⟩,fun O w s vs hG hO ha hs =>?_⟩;obtain⟨v,rfl,hv⟩:=ha;obtain⟨rfl,hl⟩:=pI hv;have hsz:(⟨s.toArray⟩:ByteArray).size=s.length:=by simp[df]
 have hsl:(⟨s.toArray⟩:ByteArray).data.toList=s:=by simp
 cases ha:de s with
 |ok n=>
  refine(Tryz.strconv_Atoi_ok ⟨s.toArray⟩ (by rw[hsz];omega) n (by rw[hsl];exact ha) w).mono ?_;rintro e w' ⟨rfl,hw⟩;obtain⟨b0,b1⟩:=Lib.atoiAll_bounds ha;refine⟨[.int .i64 n,.nilIface],(n,.nil),rfl,by unfold eX;rw[ha],⟨_,_,rfl,VR.cZ rfl ⟨rfl,b0,b1⟩,⟨_,rfl,VR.cZ rfl ⟨_,rfl,rfl⟩⟩⟩,?_⟩;rcases hw with rfl|⟨t,rfl⟩
  ·exact Vg.Below.refl _ _
  ·exact .of (Lib.bytesWorld_below _ _ _)
 |range=>
  obtain⟨ev,hv,he⟩:=hG.rng;obtain⟨b0,b1⟩:=Lib.atoiSat_bounds s;have hA:=Tryz.strconv_Atoi_range ⟨s.toArray⟩ (by rw[hsz];exact hs) (by rw[hsl];exact ha) ev w hv he;rw[hsl]at hA;refine hA.mono ?_;rintro e w' ⟨N,rfl,_,_,hb⟩;exact⟨[.int .i64 (ds s),_],(ds s,.other),rfl,by unfold eX;rw[ha],⟨_,_,rfl,VR.cZ rfl ⟨rfl,b0,b1⟩,⟨_,rfl,VR.cZ rfl ⟨_,rfl,_,_,rfl,by decide+kernel⟩⟩⟩,.of hb⟩
 |_=>
  obtain⟨ev,hv,he⟩:=hG.syn;refine(Tryz.strconv_Atoi_syntax ⟨s.toArray⟩ (by rw[hsz];exact hs) (by rw[hsl];exact ha) ev w hv he).mono ?_;rintro e w' ⟨N,rfl,_,_,hb⟩;exact⟨[.int .i64 0,_],(0,.other),rfl,by unfold eX;rw[ha],⟨_,_,rfl,VR.cZ rfl ⟨rfl,by decide,by decide⟩,⟨_,rfl,VR.cZ rfl ⟨_,rfl,_,_,rfl,by decide+kernel⟩⟩⟩,.of hb⟩
def Tryz.pf:bO Tryz.prog Tryz.B.eT Tryz.X 145 [.str,.str] [.str,.bool] (fun _=>True) (fun x y=>y=(cf x.1 x.2,c7 x.1 x.2)):=by
 refine⟨⟨Tryz.f145,Tryz.func145,by kernel_rfl,by kernel_rfl⟩,fun O w x vs hG hO ha _ =>?_⟩;obtain⟨s,p⟩:=x;obtain⟨v,vs',rfl,hv,u,rfl,hu⟩:=ha;obtain⟨rfl,hl⟩:=pI hv;obtain⟨rfl,_⟩:=pI hu;refine(Tryz.strings_CutPrefix ⟨s.toArray⟩ ⟨p.toArray⟩ w).mono ?_;rintro e w' ⟨rfl,rfl⟩;have hle:(cf s p).length<=s.length:=by unfold cf;split <;> simp
 exact⟨[.string ⟨(cf s p).toArray⟩,.bool (c7 s p)],_,rfl,rfl,⟨_,_,rfl,MP (b8 hle hl),_,rfl,VR.cZ rfl rfl⟩,Vg.Below.refl _ _⟩
def Tryz.n9:bO Tryz.prog Tryz.B.eT Tryz.X 64 [.str,.str] [.str] (fun _=>True) (fun x y=>y=bt x.1 x.2):=by
 refine⟨⟨Tryz.f64,Tryz.func64,by kernel_rfl,by kernel_rfl⟩,fun O w x vs hG hO ha _ =>?_⟩;obtain⟨s,p⟩:=x;obtain⟨v,vs',rfl,hv,u,rfl,hu⟩:=ha;obtain⟨rfl,hl⟩:=pI hv;obtain⟨rfl,_⟩:=pI hu;have hl:s.length<=aI:=hl;have hsz:(⟨s.toArray⟩:ByteArray).size=s.length:=by simp[df]
 refine(Tryz.strings_TrimSuffix ⟨s.toArray⟩ ⟨p.toArray⟩ w (by rw[hsz];exact hl)).mono ?_;rintro e w' ⟨rfl,rfl⟩;have hle:(bt s p).length<=s.length:=by unfold bt;split <;> simp
 exact⟨[.string ⟨(bt s p).toArray⟩],_,rfl,rfl,⟨_,rfl,MP (b8 hle hl)⟩,Vg.Below.refl _ _⟩
def Tryz.ux:bO Tryz.prog Tryz.B.eT Tryz.X 63 [.str,.str] [.slice .str] (fun x=>x.1.length<4294967281/\x.2.length=1) (fun x y=>y=parts (Lv x.2) x.1):=by
 refine⟨⟨Tryz.f63,Tryz.func63,by kernel_rfl,by kernel_rfl⟩,fun O w x vs hG hO ha hp =>?_⟩;obtain⟨s,p⟩:=x;obtain⟨hs,hp⟩:=hp;obtain⟨c,rfl⟩:∃c,p=[c]:=dt.1 hp
 obtain⟨v,vs',rfl,hv,u,rfl,hu⟩:=ha;obtain⟨rfl,hl⟩:=pI hv;obtain⟨rfl,_⟩:=pI hu;obtain⟨m,hm⟩:=hG.max;have hsz:(⟨s.toArray⟩:ByteArray).size=s.length:=by simp[df]
 have h1:1<=(⟨#[c]⟩:ByteArray).size:=cb 1;refine(Tryz.strings_Split ⟨s.toArray⟩ ⟨#[c]⟩ m w (by rw[hsz];exact hs) hm h1).mono ?_;rintro e w' ⟨rfl,rfl⟩;have hlen:=ej ⟨#[c]⟩ h1 0 _ ⟨s.toArray⟩ rfl;have hdat:=ek ⟨#[c]⟩ 0 (bp ⟨s.toArray⟩ ⟨#[c]⟩) ⟨s.toArray⟩;have hcb:=Lib.countB_le ⟨#[c]⟩ h1 _ ⟨s.toArray⟩ (cb _);have hd:(ca ⟨#[c]⟩ 0 (bp ⟨s.toArray⟩ ⟨#[c]⟩) ⟨s.toArray⟩).map (·.data.toList)=parts c s:=by rw[hdat,<-uh,<-Lib.count_one]
 have hlf:(parts c s).length=bp ⟨s.toArray⟩ ⟨#[c]⟩ +1:=by rw[<-hd,bz,hlen]
 refine⟨[_],parts c s,rfl,rfl,⟨_,rfl,VR.cZ rfl ⟨_,rfl,?_,.inr ⟨w.heap.size,0,bp ⟨s.toArray⟩ ⟨#[c]⟩ +1,by rw[hlf],by rw[hlf];exact cb _,fun i y hy =>?_⟩⟩⟩,(Vg.Below.refl _ w).alloc (cb _) _⟩
 ·rw[hlf];have hs:s.length<4294967281:=hs;rw[hsz]at hcb;unfold aI;omega
 ·have hyl:=oY c s y (en hy)
  refine⟨[.string ⟨y.toArray⟩],⟨rfl,b8 hyl hl⟩,fun j u hj=>⟨?_,fun hh =>?_⟩⟩
  ·have hj0:j=0:=by
    rcases j with _|j
    ·rfl
    ·simp at hj
   subst hj0;simp at hj;subst hj;rw[<-hd,List.getElem?_map,c8]at hy;obtain⟨q,hq,rfl⟩:=hy;have hh:(w.alloc (.cells ((ca ⟨#[c]⟩ 0 (bp ⟨s.toArray⟩ ⟨#[c]⟩) ⟨s.toArray⟩).map cr).toArray 9)).heap[w.heap.size]?=some (.cells ((ca ⟨#[c]⟩ 0 (bp ⟨s.toArray⟩ ⟨#[c]⟩) ⟨s.toArray⟩).map cr).toArray 9 (0,0)):=heap_alloc_new w _;rw[cg hh];simp only[Ty.size,Nat.mul_one,Nat.zero_add,du,List.getElem?_toArray,List.getElem?_map,hq,eo]
  ·have:=hO _ _ hh
   simp at this
def Tryz.spZ5:Bool×aX:=(true,bX [.int .i64] [.str] (fun _=>True) (fun n=>bo n))
def Tryz.spZ6:Bool×aX:=(true,bX [aB] [.err] (fun _=>True) (fun e=>aL (bE e)))
def Tryz.MQ:List (FuncId×(Bool×aX)):=[(49,Tryz.spZ0),(50,Tryz.spZ1),(156,Tryz.spZ2),(83,Tryz.spZ3),(11,Tryz.spZ4),(61,Tryz.spZ5),(30,Tryz.spZ6)]
def Tryz.Tb:bL Tryz.prog Tryz.B Tryz.X Tryz.MQ:=
 aM (aE Tryz.js) (aM (aE Tryz.fI) (aM (aE Tryz.kE) (aM (aE Tryz.jt) (aM (aE Tryz.kG) (aM (aE Tryz.qA) (aM (aE Tryz.IW) (bJ Tryz.bI)))))))
def MR(e:D aB):cU:=[
 (0,fun st=>{X:=Nat,inv:=fun i=>i<=bb e.2.1,bF:=fun i=>bb e.2.1-i,aY:=fun i=>[(35,sI i),(6,sS (ld e i))],keep:=[1,2,3,5,33,34]}),
 (2,fun st=>{X:=Nat,inv:=fun i=>i<=bb e.2.2.1,bF:=fun i=>bb e.2.2.1-i,aY:=fun i=>[(60,sI i),(6,sS (kP e i))],keep:=[2,3,5,58,59]})]
def ZM(e:D aB)(hw:eD [aB] e):(cL (jl Tryz.B [23,30,47,53,68,74,80]) Tryz.MQ Tryz.f29 (MR e) [aB] [.str,.err] (fun x y=>y=(fun e=>dY e) x) e).holds:=by
 refine holds_of (p:=
  let za:=aL (bE e)
  let zb:=[(32:UInt8)]
  let zc:=bb zb
  let zd:=e.2.1
  let ze:=bb zd
  let zf:=e.2.2.1
  let zg:=bb zf
  let zh:=bo (↑ze:Int)
  let zi:=e.1++zb++zh
  let zj:=bo (↑zg:Int)
  let zk:=fun(E:Nat)=>zb++(nth aG zd E).1
  let zl:=fun(E:Nat)=>bo (nth aG zd E).2.1
  let zm:=fun(E:Nat)=>zk E++zb++zl E++zb
  let zn:=fun(E:Nat)=>bo (nth aG zd E).2.2.1
  let zo:=fun(E:Nat)=>(↑E:Int)+1
  let zp:=(e.1=e.1/\zd=zd/\zf=zf/\True)/\True
  let zq:=fun(F:Nat)=>zb++bo (nth aN zf F).1
  let zr:=fun(F:Nat)=>zq F++zb++bo (nth aN zf F).2.1
  let zs:=fun(F:Nat)=>bo (nth aN zf F).2.2.1
  True/\((!aS.isNil za)=true->([],za)=dY e)/\((!aS.isNil za)=false->bb e.1+zc<=aI/\(ze<=aI->zg<=aI->True/\bb (e.1++zb)+bb zh<=aI/\bb zi+zc<=aI/\True/\bb (zi++zb)+bb zj<=aI/\(ze<=aI->(∃(x:Nat),x<=ze/\(0=(↑x:Int)/\zi++zb++zj=ld e x/\True)/\True)/\∀E:Nat,E<=ze->((decide ((↑E:Int)<(↑ze:Int)))=true->(0<=(↑E:Int)/\(↑E:Int)<(↑ze:Int))/\zc+bb (nth aG zd E).1<=aI/\bb (zk E)+zc<=aI/\True/\bb (zk E++zb)+bb (zl E)<=aI/\bb (zk E++zb++zl E)+zc<=aI/\True/\bb (zm E)+bb (zn E)<=aI/\bb (ld e E)+bb (zm E++zn E)<=aI/\(aF (↑E:Int)->aF 1->aF (zo E)/\∃(x':Nat),x'<=ze/\ze-x'<ze-E/\(zo E=(↑x':Int)/\ld e E++(zm E++zn E)=ld e x'/\True)/\zp))/\((decide ((↑E:Int)<(↑ze:Int)))=false->zg<=aI->(∃(x:Nat),x<=zg/\(0=(↑x:Int)/\ld e E=kP e x/\True)/\True)/\∀F:Nat,F<=zg->((decide ((↑F:Int)<(↑zg:Int)))=true->(0<=(↑F:Int)/\(↑F:Int)<(↑zg:Int))/\True/\zc+bb (bo (nth aN zf F).1)<=aI/\bb (zq F)+zc<=aI/\True/\bb (zq F++zb)+bb (bo (nth aN zf F).2.1)<=aI/\bb (zr F)+zc<=aI/\True/\bb (zr F++zb)+bb (zs F)<=aI/\bb (kP e F)+bb (zr F++zb++zs F)<=aI/\(aF (↑F:Int)->aF 1->aF (zo F)/\∃(x':Nat),x'<=zg/\zg-x'<zg-F/\(zo F=(↑x':Int)/\kP e F++(zr F++zb++zs F)=kP e x'/\True)/\zp))/\((decide ((↑F:Int)<(↑zg:Int)))=false->bb (kP e F)+bb [(10:UInt8)]<=aI/\(kP e F++[(10:UInt8)],aS.nil)=dY e)))))) (by kernel_rfl) ?_
 dsimp -iota -proj -eta only;refine⟨ba,iB (fun h0=>(SF (fun e=>by rw[aV.2 e]at h0;cases h0))) (fun h0=>⟨?a,fun h1 h2=>⟨ba,?b,?c,ba,?d,fun h3=>⟨(⟨0,by omega,⟨rfl,(Sx e).symm,ba⟩,ba⟩),fun E q_0=>iL (fun h4=>⟨?e,?f,?g,ba,?h,?i,ba,?j,?k,fun h5 h6=>⟨?l,(⟨E+1,by omega,by omega,⟨by omega,SD (by omega),ba⟩,(by trivial)⟩)⟩⟩) (fun h4 h5=>⟨(⟨0,by omega,⟨rfl,by rw[Sy,show E=e.2.1.length by omega],ba⟩,ba⟩),fun F q_1=>iL (fun h6=>⟨?m,ba,?n,?o,ba,?p,?q,ba,?r,?s,fun h7 h8=>⟨?t,(⟨F+1,by omega,by omega,⟨by omega,SE (by omega),ba⟩,(by trivial)⟩)⟩⟩) (fun h6=>⟨(by have a:=(nn (aV.1 h0)).DM F;simp only[bw,bx,b4,aI];omega),(VB (aV.1 h0) (by omega))⟩)⟩)⟩⟩⟩)⟩
 case a|b|c|d=>have a:=(nn (aV.1 h0)).lens;simp only[bw,bx,b4,aI];omega
 case e|m=>omega
 case f|g|h|i|j|k=>have a:=(nn (aV.1 h0)).adM (i:=E) (by omega);simp only[bw,bx,b4,aI];omega
 case l|t=>simp only[aF,aI]at*;omega
 case n|o|p|q|r|s=>have a:=(nn (aV.1 h0)).adN (i:=F) (by omega);simp only[bw,bx,b4,aI];omega
def Tryz.MS:bO Tryz.prog Tryz.B.eT Tryz.X 29 [aB] [.str,.err] (fun _=>True) (fun x y=>y=(fun e=>dY e) x):=
 bP (B:=(jl Tryz.B [23,30,47,53,68,74,80])) (X:=Tryz.X) (bL.hint (l:=[23,30,47,53,68,74,80]) Tryz.Tb) Tryz.func29 (by kernel_rfl) (fun x=>MR x) (fun x hw hp=>ZM x hw)
end Go.Proofs.YtgokjhhcfemnhabGreatDoor

namespace Go.Proofs.YtgokjhhcfemnhabGreatDoor
open Go.RowKit Go.Vg
def Tryz.szB:(Tryz.prog.info? 244).map (·.size)=some 2:=by kernel_rfl
def Tryz.lyB:liesAt Tryz.prog Tryz.prog.depth 244 (2 / Tryz.prog.cellsOf 244) 0 244 1=true:=by kernel_rfl
set_option maxHeartbeats 1000000 in
set_option maxRecDepth 100000 in
def Tryz.Td(b:Nat)(v:Value)(w:World)(hb:w.heap[b]?=some (.cells #[.pointer (some ⟨b,0,none⟩),v] 244 (0,0))) :
  Calls Tryz.prog 194 #[.pointer (some ⟨b,0,none⟩)] w fun e w'=>e=.returned (.tuple #[])/\w'=w:=by
 obtain⟨j,hj,_⟩:=c8.1 Tryz.szB;have h0:w.cell? ⟨b,0,none⟩=some (.pointer (some ⟨b,0,none⟩)):=by rw[cg hb];rfl
 go_enter Tryz.func194,Tryz.ntmps194
 go_wp2
 rw[Lib.run_neq_ptr_same w _ Tryz.underlying242 hj]
 go_wp2
 go_end0
 exact⟨rfl,rfl⟩
set_option maxHeartbeats 1000000 in
set_option maxRecDepth 100000 in
def Tryz.OS(b:Nat)(v:Value)(w:World)(hb:w.heap[b]?=some (.cells #[.pointer none,v] 244 (0,0))) :
  Calls Tryz.prog 194 #[.pointer (some ⟨b,0,none⟩)] w fun e w'=>e=.returned (.tuple #[])/\w'=w.setCell ⟨b,0,none⟩ (.pointer (some ⟨b,0,none⟩)):=by
 obtain⟨j,hj,hjs⟩:=c8.1 Tryz.szB;have h0:w.cell? ⟨b,0,none⟩=some (.pointer none):=by rw[cg hb];rfl
 have hsh:w.shape? b=some (244,2):=by simp[ep,hb]
 have hfz:w.frozen? ⟨b,0,none⟩=false:=dh hb 0
 go_enter Tryz.func194,Tryz.ntmps194
 go_wp2
 rw[Lib.run_to_unsafe w ⟨b,0,none⟩ Tryz.underlying242 Tryz.underlying302 hj (by rw[hjs];decide) hsh (Nat.zero_lt_succ 1)];simp only[dv];rw[dw]
 go_wp2
 rw[run_callFunc_extern Tryz.func222 (by kernel_rfl) (by kernel_rfl) (by kernel_rfl) (e:=fh) (by kernel_rfl)];rw[Lib.run_noEscape];simp only[dv];rw[dw]
 go_wp2
 rw[Lib.run_from_unsafe w ⟨b,0,none⟩ Tryz.underlying302 Tryz.underlying242 hj hsh Tryz.lyB];simp only[dv];rw[dw]
 go_wp2
 go_end0
 exact⟨rfl,rfl⟩
def Tryz.byI:(Tryz.prog.info? 5).map (fun i=>(i.zero,i.size,i.bytes))=some (some (.int .u8 0),1,1):=by kernel_rfl
def Tryz.aed:Tryz.prog.cellsOf 5=1:=by kernel_rfl
set_option maxHeartbeats 2000000 in
set_option maxRecDepth 100000 in
def Tryz.Wr(b:Nat)(p v:Value)(xs:List Value)(s:ByteArray)(w:World)(hb:w.heap[b]?=some (.cells #[p,v] 244 (0,0)))(hp:p=.pointer none\/p=.pointer (some ⟨b,0,none⟩))
  (hown:w.ownsRow 0 5 1 v xs.length xs)(hne:v.ownBlock≠some b)(hcap:∀a n c,v=.slice (some a) n c->0<c)(hlen:xs.length+s.size<=140737488355328) :
  Calls Tryz.prog 148 #[.pointer (some ⟨b,0,none⟩),.string s] w fun e w'=>e=.returned (.tuple #[.int .i64 s.size,.nilIface])/\
   ∃v',w'.heap[b]?=some (.cells #[.pointer (some ⟨b,0,none⟩),v'] 244 (0,0))/\w'.ownsRow 0 5 1 v' (xs.length+s.size) (xs++Lib.strCells s)/\v'.ownBlock≠some b/\Kept b v w w'/\
    (∀a n c,v'=.slice (some a) n c->0<c)/\(∀g,v'.ownBlock=some g->v.ownBlock=some g\/w.heap.size<=g):=by
 obtain⟨i0,hi,hz0⟩:=c8.1 Tryz.byI;simp only[Prod.mk.injEq]at hz0;obtain⟨hz0,hz1,hz2⟩:=hz0;have hchk:Calls Tryz.prog 194 #[.pointer (some ⟨b,0,none⟩)] w fun e w1=>e=.returned (.tuple #[])/\w1.heap[b]?=some (.cells #[.pointer (some ⟨b,0,none⟩),v] 244 (0,0))/\
   w1.os=w.os/\w1.output=w.output/\w1.heap.size=w.heap.size/\∀k,k≠b->w1.heap[k]?=w.heap[k]?:=by
  rcases hp with rfl|rfl
  ·refine(Tryz.OS b v w hb).mono ?_
   rintro e w1 ⟨rfl,rfl⟩;exact⟨rfl,(Yw hb).trans (by simp),rfl,rfl,dx _ _ _,fun k hk=>dy _ _ _ _ hk⟩
  ·refine(Tryz.Td b v w hb).mono ?_
   rintro e w1 ⟨rfl,rfl⟩;exact⟨rfl,hb,rfl,rfl,rfl,fun _ _=>rfl⟩
 go_enter Tryz.func148,Tryz.ntmps148
 go_wp2_with (go_at_call 194;refine hchk.mono ?_)
 rintro e w1 ⟨rfl,hb1,ho1,hu1,hs1,hk1⟩;have hown1:w1.ownsRow 0 5 1 v xs.length xs:=by
  refine⟨hown.1,?_⟩;rcases hown.2 with h|⟨g,cap,cur,h1,h2,h3,h4⟩
  ·exact .inl h
  ·refine .inr ⟨g,cap,cur,h1,h2,?_,h4⟩
   rw[hk1 g (fun e=>hne (by rw[h1,e];rfl))];exact h3
 have c0:w1.cell? ⟨b,0,none⟩=some (.pointer (some ⟨b,0,none⟩)):=by rw[cg hb1];rfl
 have c1:w1.cell? ⟨b,1,none⟩=some v:=by rw[cg hb1];rfl
 obtain⟨v',w2,hrun,hown',hgrow,hcap',hnew⟩:=abl (t:=181) (u:=9) (ty:=181) Tryz.underlying181 Tryz.underlying9 hi hz0 hz1 hz2 hown1 hcap s hlen;have hlt:b<w1.heap.size:=(Array.getElem?_eq_some_iff.1 hb1).1;have hb2:w2.heap[b]?=some (.cells #[.pointer (some ⟨b,0,none⟩),v] 244 (0,0)):=by rw[hgrow.block b hlt (fun e=>hne e.symm)];exact hb1
 have d1:w2.cell? ⟨b,1,none⟩=some v:=by rw[cg hb2];rfl
 have f1:w2.frozen? ⟨b,1,none⟩=false:=dh hb2 1;have hne':v'.ownBlock≠some b:=by
  intro e;rcases hown'.2 with⟨h,_⟩|⟨g',cap,cur,h,_,h3,_⟩
  ·rw[h]at e;cases e
  ·rw[h]at e
   cases e;rw[hb2]at h3;cases h3
 have hv1:∃a n c,v'=.slice a n c:=by
  rcases hown'.2 with⟨h,_⟩|⟨g',cap,cur,h,_⟩ <;> exact⟨_,_,_,h⟩
 obtain⟨va,vn,vc,rfl⟩:=hv1;rw[hs1]at hnew
 go_wp2_with (at_builtin;refine Cd rfl _ _ 181 9 rfl rfl rfl hrun ?_)
 go_ret2
 refine⟨rfl,.slice va vn vc,(Yw hb2).trans (by simp),⟨hown'.1,?_⟩,hne',⟨hgrow.os.trans ho1,hgrow.output.trans hu1,?_,fun k h1 h2 h3 =>?_⟩,hcap',hnew⟩
 ·rcases hown'.2 with h|⟨g,cap,cur,h1,h2,h3,h4⟩
  ·exact .inl h
  ·refine .inr ⟨g,cap,cur,h1,h2,?_,h4⟩
   rw[dy _ _ _ _ (fun e=>hne' (by rw[h1,show g=b from e];rfl))];exact h3
 ·rw[dx];have:=hgrow.size;omega
 ·rw[dy _ _ _ _ (show k≠b from h2),hgrow.block k (by omega) (fun e=>h3 e.symm),hk1 k h2]
set_option maxHeartbeats 2000000 in
set_option maxRecDepth 100000 in
def Tryz.Te(b:Nat)(p v:Value)(l:List UInt8)(w:World)(hb:w.heap[b]?=some (.cells #[p,v] 244 (0,0)))(hown:w.ownsRow 0 5 1 v l.length (l.map fun c=>Value.int .u8 c.toNat))(hcap:∀a n c,v=.slice (some a) n c->0<c) :
  Calls Tryz.prog 151 #[.pointer (some ⟨b,0,none⟩)] w fun e w'=>e=.returned (.string ⟨l.toArray⟩)/\RD v w w':=by
 have c1:w.drew.cell? ⟨b,1,none⟩=some v:=by
  have:w.drew.heap[b]?=some (.cells #[p,v] 244 (0,0)):=hb;rw[cg this];rfl
 have mixed:Tryz.prog.follows .mixedOrders=true:=by kernel_rfl
 by_cases h0:l=[]
 ·subst h0
  obtain⟨q,n,c,rfl,hn,hSD⟩:∃q n c,v=.slice q n c/\n=0/\(er #[181] 282 #[v]).run Tryz.prog w.drew=.ok (.pointer q) w.drew:=by
   rcases hown.2 with⟨rfl,_⟩|⟨g,cap,cur,rfl,_⟩
   ·exact⟨none,0,0,rfl,rfl,Lib.run_unsafeSliceData_nil _ _ _ _ _⟩
   ·exact⟨_,_,_,rfl,rfl,eu _ _ _ _ _ _ (by have:=hcap _ _ _ rfl;omega)⟩
  subst hn;have hUS:(ew #[282,3] 9 #[.pointer q,.int .i64 0]).run Tryz.prog w.drew=.ok (.string .empty) w.drew:=Lib.run_unsafeString_none _ _ _ _ q
  go_enter Tryz.func151,Tryz.ntmps151
  go_wp2
  go_region_o
  all_goals (go_wp2;go_ret;exact⟨rfl,rfl,rfl,rfl,fun _ _=>rfl⟩)
 ·have hl0:l.length≠0:=by simpa using h0
  rcases hown.2 with⟨_,hz⟩|⟨g,cap,cur,rfl,hbg,hg,hnc,hcm,hcs,htake⟩
  ·exact absurd hz hl0
  have hSD:(er #[181] 282 #[.slice (some ⟨g,0,none⟩) l.length cap]).run Tryz.prog w.drew=.ok (.pointer (some ⟨g,0,none⟩)) w.drew:=eu _ _ _ _ _ _ (by omega);have hUS:(ew #[282,3] 9 #[.pointer (some ⟨g,0,none⟩),.int .i64 l.length]).run Tryz.prog w.drew=.ok (.string ⟨l.toArray⟩) (w.drew.freeze ⟨g,0,none⟩ l.length):=by
   refine Lib.run_unsafeString_row w.drew 282 3 9 5 Tryz.underlying282 Tryz.aed g cur.size (by have hg':w.drew.heap[g]?=some (.cells cur 5 (0,0)):=hg;simp[ep,hg']) l h0 (by omega) (by unfold maxLen at hcm;omega) ?_;intro j x hx;exact hown.cells (g:=g) rfl j (.int .u8 x.toNat) (by simp[hx])
  go_enter Tryz.func151,Tryz.ntmps151
  go_wp2
  go_region_o
  all_goals (go_wp2;go_ret;exact⟨rfl,N2⟩)
def Tryz.abP(b:Nat)(p _q:Value)(a:Option Addr)(n c:Nat)(w:World)(hb:w.heap[b]?=some (.cells #[p,.slice a n c] 244 (0,0))) :
  Calls Tryz.prog 150 #[.pointer (some ⟨b,0,none⟩)] w fun r w'=>r=.returned (.int .i64 n)/\w'=w:=by
 have c1:w.cell? ⟨b,1,none⟩=some (.slice a n c):=by rw[cg hb];rfl
 go_enter Tryz.func150,Tryz.ntmps150
 go_wp2
 go_ret
 exact⟨rfl,rfl⟩
def Tryz.C6:bY Tryz.prog Tryz.B.eT Tryz.X 148 false (tV 244 5):=
 E1 ⟨Tryz.f148,Tryz.func148,by kernel_rfl,by kernel_rfl⟩ Tryz.Wr
def Tryz.Bl:bY Tryz.prog Tryz.B.eT Tryz.X 151 false (sF 244 5):=
 DC ⟨Tryz.f151,Tryz.func151,by kernel_rfl,by kernel_rfl⟩ Tryz.Te
def Tryz.IX:bY Tryz.prog Tryz.B.eT Tryz.X 150 true (Ah 244 5):=
 JS ⟨Tryz.f150,Tryz.func150,by kernel_rfl,by kernel_rfl⟩ Tryz.abP
end Go.Proofs.YtgokjhhcfemnhabGreatDoor

namespace Go.Proofs.YtgokjhhcfemnhabGreatDoor
open Go.Vg Go.Mrl
@[reducible] def Tryz.bM:List Ob:=[.box 164 [.obj 1,.obj 2,.obj 3,.d (.int .i64),.d .bool],.row true .str,.row true .str,.tok kJ]
def abQ(s:List UInt8)(hw:eD [.str] s)(hp:(fun s=>s.length<=64) s):(cL Tryz.B [] Tryz.f85 [] [.str] [.str] (fun x y=>y=(fun s=>fK s) x) s).holds:=by
 refine holds_of (p:=
  let za:=bb s
  let zb:=64-(↑za:Int)
  let zc:=cj (bd zb) (cB (Ty.int b6))
  za<=aI->aF 64->aF (↑za:Int)->aF zb/\(0<=zb/\zb=zb/\zb<=1000000000)/\bb zc<=aI/\za+bb (bytesOf zc)<=aI/\s++bytesOf zc=fK s) (by kernel_rfl) ?_
 dsimp -iota -proj -eta only;exact fun h0 h1 h2=>⟨(by simp only[aF,aI]at*;omega),(by omega),(by simp only[ct,Kg];omega),(by simp only[bytesOf,bz,ct,Kg];omega),(by show s++bytesOf (cj _ 0)=_;rw[RQ,fK,show bd (64-(s.length:Int))=64-s.length by omega])⟩
def Tryz.Qz:bO Tryz.prog Tryz.B.eT Tryz.X 85 [.str] [.str] (fun s=>s.length<=64) (fun x y=>y=(fun s=>fK s) x):=
 bP (X:=Tryz.X) (bJ Tryz.bI) Tryz.func85 (by kernel_rfl) (fun _=>[]) (fun x hw hp=>abQ x hw hp)
def ZN(x:Int)(y:Int)(hw:eD [.int .u64,.int .u64] (x,y))(hp:(fun z=>z.1=1/\0<=z.2/\z.2<=1000000) (x,y)):(cL Tryz.B [] Tryz.f159 [] [.int .u64,.int .u64] [.int .u64,.int .u64] (fun x y=>y=(fun z=>Ay z) x) (x,y)).holds:=by
 refine holds_of (p:=
  let za:=b3 bq
  let zb:=b5 za (4294967295:Int)
  let zc:=(0:Int)<=(32:Int)
  let zd:=(2:Int)^min 32 za
  let ze:=fun(M K:Int)=>M=bh bq K
  ∀E:Int,E=bh bq (↑(cd (b5 za x&&&zb)):Int)->zc/\∀F:Int,F=bu x zd->∀G:Int,G=bh bq (↑(cd (b5 za y&&&zb)):Int)->zc/\∀I:Int,I=bu y zd->∀K:Int,K=E*G->∀M:Int,ze M K->∀Q:Int,Q=F*G->∀U:Int,ze U Q->zc/\∀Y:Int,Y=bu M zd->∀R:Int,R=bh bq (U+Y)->∀V:Int,V=bh bq (↑(cd (b5 za R&&&zb)):Int)->zc/\∀x_11:Int,x_11=bu R zd->∀Z:Int,Z=E*I->∀x_13:Int,ze x_13 Z->∀x_14:Int,x_14=bh bq (V+x_13)->∀x_15:Int,x_15=F*I->∀x_16:Int,ze x_16 x_15->∀x_17:Int,x_17=bh bq (x_16+x_11)->zc/\∀x_18:Int,x_18=bu x_14 zd->∀x_19:Int,x_19=bh bq (x_17+x_18)->∀x_20:Int,x_20=x*y->∀x_21:Int,ze x_21 x_20->(x_19,x_21)=Ay (x,y)) (by kernel_rfl) ?_
 dsimp -iota -proj -eta only;dsimp only at hp;refine fun E q_0=>⟨?a,fun F q_1 G q_2=>⟨?b,fun I q_3 K q_4 M q_5 Q q_6 U q_7=>⟨?c,fun Y q_8 R q_9 V q_10=>⟨?d,fun x_11 q_11 Z q_12 x_13 q_13 x_14 q_14 x_15 q_15 x_16 q_16 x_17 q_17=>⟨?e,fun x_18 q_18 x_19 q_19 x_20 q_20 x_21 q_21 =>?f⟩⟩⟩⟩⟩
 case a|b|c|d|e=>trivial
 case f=>
  have a0:=YJ q_0 (by omega) (by omega);have a1:=Ll q_1 rfl (by omega) (by omega);have a2:=YJ q_2 (by omega) (by omega);have a3:=Ll q_3 rfl (by omega) (by omega);have a4:K=y:=by rw[q_4,a0,a2,hp.1,dz]
  have a5:M=y:=by rw[q_5,a4];exact lQ (by omega) (by omega)
  have a6:Q=0:=by rw[q_6,a1,Int.zero_mul]
  have a7:U=0:=by rw[q_7,a6];rfl
  have a8:=Ll q_8 rfl (by omega) (by omega);have a9:R=0:=by rw[q_9,a7,a8];rfl
  have a10:V=0:=by rw[YJ q_10 (by omega) (by omega)];exact a9
  have a11:=Ll q_11 rfl (by omega) (by omega);have a12:Z=0:=by rw[q_12,a3,Int.mul_zero]
  have a13:x_13=0:=by rw[q_13,a12];rfl
  have a14:x_14=0:=by rw[q_14,a10,a13];rfl
  have a15:x_15=0:=by rw[q_15,a1,Int.zero_mul]
  have a16:x_16=0:=by rw[q_16,a15];rfl
  have a17:x_17=0:=by rw[q_17,a16,a11];rfl
  have a18:=Ll q_18 rfl (by omega) (by omega);have a19:x_19=0:=by rw[q_19,a17,a18];rfl
  have a21:x_21=y:=by rw[q_21,q_20,hp.1,dz];exact lQ (by omega) (by omega)
  rw[a19,a21];simp[Ay,hp.1]
def Tryz.ZO:bO Tryz.prog Tryz.B.eT Tryz.X 159 [.int .u64,.int .u64] [.int .u64,.int .u64] (fun z=>z.1=1/\0<=z.2/\z.2<=1000000) (fun x y=>y=(fun z=>Ay z) x):=
 bP (X:=Tryz.X) (bJ Tryz.bI) Tryz.func159 (by kernel_rfl) (fun _=>[]) (fun x hw hp=>ZN x.1 x.2 hw hp)
def Tryz.spZ7:Bool×aX:=(true,bX [.int .u64,.int .u64] [.int .u64,.int .u64] (fun z=>z.1=1/\0<=z.2/\z.2<=1000000) (fun z=>Ay z))
def Tryz.MT:List (FuncId×(Bool×aX)):=[(159,Tryz.spZ7)]
def Tryz.Tf:bL Tryz.prog Tryz.B Tryz.X Tryz.MT:=
 aM (aE Tryz.ZO) (bJ Tryz.bI)
def adk(x:Int)(y:Int)(hw:eD [.int .u64,.int .u64] (x,y))(hp:(fun z=>z.1=1/\0<=z.2/\z.2<=1000000) (x,y)):(cL Tryz.B Tryz.MT Tryz.f121 [] [.int .u64,.int .u64] [.int .u64,.int .u64] (fun x y=>y=(fun z=>Ay z) x) (x,y)).holds:=by
 refine holds_of (p:=
  (x=1/\0<=y/\y<=1000000)/\(0,x*y)=Ay (x,y)) (by kernel_rfl) ?_
 dsimp only at hp;refine⟨?a,?b⟩
 case a|b=>trivial
def Tryz.adl:bO Tryz.prog Tryz.B.eT Tryz.X 121 [.int .u64,.int .u64] [.int .u64,.int .u64] (fun z=>z.1=1/\0<=z.2/\z.2<=1000000) (fun x y=>y=(fun z=>Ay z) x):=
 bP (X:=Tryz.X) Tryz.Tf Tryz.func121 (by kernel_rfl) (fun _=>[]) (fun x hw hp=>adk x.1 x.2 hw hp)
def Tryz.Wt:List (FuncId×(Bool×aX)):=[(121,Tryz.spZ7)]
def Tryz.ZP:bL Tryz.prog Tryz.B Tryz.X Tryz.Wt:=
 aM (aE Tryz.adl) (bJ Tryz.bI)
def IY(x:List (List UInt8))(n:Int):cU:=[(0,fun st=>{X:=Nat,inv:=fun k=>1<=k/\k<=n.toNat,bF:=fun k=>n.toNat-k,aY:=fun k=>[(8,sI k)],aH:=fun k=>[(aT st 7,.bC .str (nG (nth .str x 0) n.toNat k))],keep:=[4,7],eA:=[aT st 7]})]
def yy:List (Alt [] [.d (.slice .str),.d (.int .i64)]):=[{bS:=[.row false .str],res:=[.obj 0],out:=fun a _=>(cj a.2.1.toNat (nth .str a.1 0),()),ret:=fun _ _=>()}]
def Wu(x:List (List UInt8))(n:Int)(hw:fM [.d (.slice .str),.d (.int .i64)] (x,n,()))(hp:(fun a _=>a.1.length=1/\1<=a.2.1/\a.2.1<=1000000) (x,n,()) ()):(cO Tryz.B Tryz.Wt Tryz.f84 (IY x n) [] [.d (.slice .str),.d (.int .i64)] yy (x,n,()) ()).holds:=by
 refine holds_of (p:=
  let za:=bb x
  let zb:=bh bq (↑za:Int)
  let zc:=bh bq n
  let zd:=bh bn (zb*zc)
  let ze:=cj (bd zd) (cB Ty.str)
  let zf:=bb ze
  let zg:=bd n
  let zh:=min za zf
  let zi:=nth Ty.str x 0
  let zj:=fun(E:Nat)=>nG zi zg E
  let zk:=fun(E:Nat)=>bb (zj E)
  let zl:=fun(E:Nat)=>(↑(zk E):Int)
  let zm:=fun(E:Nat)=>bf (E-0) (bk 0 (zj E))
  let zn:=fun(E:Nat)=>min (bb (zm E)) (zk E-E)
  let zo:=fun(E:Nat)=>(↑E:Int)+(↑(zn E):Int)
  ((decide (n<(0:Int)))=true->False)/\((decide (n<(0:Int)))=false->za<=aI->(zb=(1:Int)/\(0:Int)<=zc/\zc<=(1000000:Int))/\((decide ((0:Int) > (0:Int)))=true->False)/\((decide ((0:Int) > (0:Int)))=false->((decide (zb*zc > (9223372036854775807:Int)))=true->False)/\((decide (zb*zc > (9223372036854775807:Int)))=false->((0:Int)<=zd/\zd=zd/\zd<=(1000000000:Int))/\(True/\0+zf<=zf)/\(∃(F:Nat),(1<=F/\F<=zg)/\((↑zh:Int)=(↑F:Int)/\True)/\bf 0 ze++bf zh x++bk (0+zh) ze=nG zi zg F/\True)/\∀E:Nat,1<=E/\E<=zg->zk E<=aI->((decide ((↑E:Int)<zl E))=true->((0:Int)<=(↑E:Int)/\(↑E:Int)<=zl E/\zl E<=zl E)/\((0:Int)<=(0:Int)/\(0:Int)<=(↑E:Int)/\(↑E:Int)<=zl E)/\(0+(E-0)<=zk E/\E+(zk E-E)<=zk E)/\(aF (↑E:Int)->aF (↑(zn E):Int)->aF (zo E)/\∃(x':Nat),(1<=x'/\x'<=zg)/\zg-x'<zg-E/\(zo E=(↑x':Int)/\True)/\bf E (zj E)++bf (zn E) (zm E)++bk (E+zn E) (zj E)=nG zi zg x'/\@bc (List UInt8)=@bc (List UInt8)/\True))/\((decide ((↑E:Int)<zl E))=false->True/\(zj E,())=(cj zg zi,())/\()=()))))) (by kernel_rfl) ?_
 dsimp -iota -proj -eta only;dsimp only at hp;have e1:bh bq n=n:=lQ (by omega) (by omega);have e2:bh bq (x.length:Int)=1:=by rw[hp.1];exact lQ (by decide) (by decide)
 have e3:bh bn (1*n)=n:=by rw[dz];exact nf (by omega) (by omega)
 refine iL (fun h0 =>?a) (fun h0 h1=>⟨(by rw[e1,e2];omega),⟨fun h2=>absurd (show false=true from h2) (by decide),fun h2=>iL (fun h3=>(by rw[e1,e2]at*;omega)) (fun h3=>⟨(by rw[e1,e2,e3];omega),(by simp_all),?b,fun E q_0 h4=>iL (fun h5=>⟨?c,?d,?e,fun h6 h7=>⟨(by simp only[aF,aI]at*;omega),?f⟩⟩) (fun h5=>(by rw[show E=bd n by have hl:=Lm (s:=nth .str x 0) (n:=bd n) (k:=E) (by omega);omega,US];exact⟨ba,rfl,rfl⟩))⟩)⟩⟩)
 case a|c|d|e=>omega
 case b=>
  rw[e1,e2,e3];obtain⟨s,rfl⟩:=dt.1 hp.1;refine⟨1,by omega,⟨?_,ba⟩,?_,(by trivial)⟩
  ·simp only[b9,ct];omega
  ·have hm:min (bb [s]) (bb (cj (bd n) (cB Ty.str)))=1:=by simp only[b9,ct];omega
   rw[hm];exact RR (n:=bd n) (by omega) rfl [s] rfl
 case f=>
  have hl:=Lm (s:=nth .str x 0) (n:=bd n) (k:=E) (by omega);have e6:min (bb (bf (E-0) (bk 0 (nG (nth .str x 0) (bd n) E)))) (bb (nG (nth .str x 0) (bd n) E)-E)=min E (bd n-E):=by
   simp only[cc,da];omega
  rw[e6];refine⟨E+min E (bd n-E),by omega,by omega,⟨by omega,ba⟩,?_,(by trivial)⟩;rw[Nat.sub_zero,da];exact UR (by omega) (by omega)
def Tryz.Wv:bY Tryz.prog Tryz.B.eT Tryz.X 84 false (aW [] [.d (.slice .str),.d (.int .i64)] (fun a _=>a.1.length=1/\1<=a.2.1/\a.2.1<=1000000) yy):=
 aZ (X:=Tryz.X) Tryz.ZP Tryz.func84 (by kernel_rfl) (fun(a:CD [.d (.slice .str),.d (.int .i64)]) (x:PD [])=>IY a.1 a.2.1) (fun(a:CD [.d (.slice .str),.d (.int .i64)]) (x:PD []) hw hp=>Wu a.1 a.2.1 hw hp)
def Bm:List (Alt [.row true .str] [.obj 0]):=[{bS:=[.row true .str,.row false .str],res:=[.obj 1],ok:=fun _ x=>x.1≠[],out:=fun _ x=>(x.1,x.1,()),ret:=fun _ _=>()}]
def Ww(l:List (List UInt8))(hw:fM [.obj 0] ())(hp:(fun _ x=>x.1≠[]/\x.1.length<=1000000) () (l,())):(cO Tryz.B [] Tryz.f86 [] [.row true .str] [.obj 0] Bm () (l,())).holds:=by
 refine holds_of (p:=
  ∀E:Bool,(0<bb l->E=false)->(E=true->False)/\(E=false->bb l<=1000000000/\l≠@bc (List UInt8)/\(l,l,())=(l,l,())/\()=())) (by kernel_rfl) ?_
 dsimp only at hp;refine fun E q_0=>⟨fun h0 =>?a,fun h0=>⟨(by omega),?b⟩⟩
 case a|b=>simp_all
def Tryz.Wx:bY Tryz.prog Tryz.B.eT Tryz.X 86 false (aW [.row true .str] [.obj 0] (fun _ x=>x.1≠[]/\x.1.length<=1000000) Bm):=
 aZ (X:=Tryz.X) (bJ Tryz.bI) Tryz.func86 (by kernel_rfl) (fun(a:CD [.obj 0]) (x:PD [.row true .str])=>[]) (fun(a:CD [.obj 0]) (x:PD [.row true .str]) hw hp=>Ww x.1 hw hp)
def Tryz.spZ8:Bool×aX:=(true,bX [.str] [.str] (fun s=>s.length<=64) (fun s=>fK s))
def Tryz.MU:List (FuncId×(Bool×aX)):=[(85,Tryz.spZ8),(84,(false,aW [] [.d (.slice .str),.d (.int .i64)] (fun a _=>a.1.length=1/\1<=a.2.1/\a.2.1<=1000000) yy)),(86,(false,aW [.row true .str] [.obj 0] (fun _ x=>x.1≠[]/\x.1.length<=1000000) Bm))]
def Tryz.Tg:bL Tryz.prog Tryz.B Tryz.X Tryz.MU:=
 aM (aE Tryz.Qz) (aM (Tryz.Wv) (aM (Tryz.Wx) (bJ Tryz.bI)))
def Tryz.D9:List (Alt Tryz.bM [.obj 0]):=[{bS:=Tryz.bM,res:=[.d .err],out:=fun _ x=>(stepOf x).1,ret:=fun _ x=>(aL (stepOf x).2,())}]
def abR(d:Dk)(hw:fM [.obj 0] ())(hp:(fun _ x =>-1<=x.1.1) () d):(cO Tryz.B [] Tryz.f122 [] Tryz.bM [.obj 0] Tryz.D9 () d).holds:=by
 refine holds_of (p:=
  let za:=d.2.2.2.1=d.2.2.2.1
  let zb:=(-1:Int)
  let zc:=(stepOf d).1
  let zd:=(aL (stepOf d).2,())
  let ze:=(aS.no 9,())=zd
  let zf:=zb-1
  let zg:=(aS.nil,())=zd
  let zh:=d.1.1-1
  let zi:=((d.1.2.1)=true->za/\True/\d=zc/\ze)/\((d.1.2.1)=false->aF d.1.1->aF 1->aF zh/\za/\True/\((if zb > zh then zb else zh,d.1.2),d.2)=zc/\zg)
  ((!d.1.2.1)=true->((d.1.1 == 0)=true->(true=true->za/\True/\((zb,true,()),d.2)=zc/\ze)/\(true=false->aF zb->aF 1->aF zf/\za/\True/\((if zb > zf then zb else zf,true,()),d.2)=zc/\zg))/\((d.1.1 == 0)=false->zi))/\((!d.1.2.1)=false->zi)) (by kernel_rfl) ?_
 dsimp -iota -proj -eta only;refine iB (fun h0=>iQ (fun h1=>⟨fun h2=>(by rw[Oe (by simp_all) ‹_›];exact⟨rfl,ba,rfl,rfl⟩),fun h2=>absurd (show true=false from h2) (by decide)⟩) (fun h1=>⟨fun h2 =>?a,fun h2 h3 h4=>⟨?b,(by rw[UW (by simp_all) ‹_› hp];exact⟨rfl,ba,rfl,rfl⟩)⟩⟩)) (fun h0=>⟨fun h1 =>?c,fun h1 h2 h3=>⟨?d,(by simp_all)⟩⟩)
 case a|c=>rw[Od (by simp_all)];exact⟨rfl,ba,rfl,rfl⟩
 case b|d=>simp only[aF]at*;omega
def Tryz.abS:bY Tryz.prog Tryz.B.eT Tryz.X 122 false (aW Tryz.bM [.obj 0] (fun _ x =>-1<=x.1.1) Tryz.D9):=
 aZ (X:=Tryz.X) (bJ Tryz.bI) Tryz.func122 (by kernel_rfl) (fun(a:CD [.obj 0]) (x:PD Tryz.bM)=>[]) (fun(a:CD [.obj 0]) (x:PD Tryz.bM) hw hp=>abR x hw hp)
def Tryz.Ea:List (FuncId×(Bool×aX)):=[(85,Tryz.spZ8),(122,(false,aW Tryz.bM [.obj 0] (fun _ x =>-1<=x.1.1) Tryz.D9))]
def Tryz.F7:bL Tryz.prog Tryz.B Tryz.X Tryz.Ea:=
 aM (aE Tryz.Qz) (aM (Tryz.abS) (bJ Tryz.bI))
def Tryz.Bn:List (Alt Tryz.bM [.obj 0,.d (.int .i64),.d .str]):=[{bS:=Tryz.bM,res:=[.d .err],out:=fun a x=>(bZ x a.1 a.2.1).1,ret:=fun a x=>(aL (bZ x a.1 a.2.1).2,())}]
def Wy(at_:Int)(s:List UInt8)(d:Dk)(hw:fM [.obj 0,.d (.int .i64),.d .str] (at_,s,()))(hp:(fun _ x =>-1<=x.1.1/\x.2.2.2.1.length<=900000000) (at_,s,()) d):(cO Tryz.B Tryz.Ea Tryz.f88 [] Tryz.bM [.obj 0,.d (.int .i64),.d .str] Tryz.Bn (at_,s,()) d).holds:=by
 refine holds_of (p:=
  let za:=d.2.2.2.1=d.2.2.2.1
  let zb:=bZ d at_ s
  let zc:=(aL zb.2,())
  let zd:=za/\True/\d=zb.1/\(aS.no 1,())=zc
  let ze:=bb d.2.2.1
  let zf:=bb s
  let zg:=aL (stepOf d).2
  let zh:=(stepOf d).1
  let zi:=bb zh.2.2.1
  let zj:=bd at_
  let zk:=db zh.2.2.1 zj (fK s)
  let zl:=zh.2.2.2.1
  let zm:=[(at_,nth Ty.str zk zj,())]
  let zn:=zl++zm
  let zo:=(zg,())=zc
  ((decide (at_<0))=true->zd)/\((decide (at_<0))=false->ze<=aI->((decide (at_>=(↑ze:Int)))=true->zd)/\((decide (at_>=(↑ze:Int)))=false->zf<=aI->((decide ((↑zf:Int) > 64))=true->zd)/\((decide ((↑zf:Int) > 64))=false->za/\(-1:Int)<=d.1.1/\(True->((aS.isNil zg)=true->zf<=64/\(0<=at_/\at_<(↑zi:Int))/\zj<zi/\(0<=at_/\at_<(↑(bb zk):Int))/\zj<bb zk/\(zl=zl/\bb zl+bb zm<=1000000000)/\zn=zn/\True/\(zh.1,zh.2.1,zk,zn,())=zb.1/\zo)/\((aS.isNil zg)=false->zl=zl/\True/\zh=zb.1/\zo)))))) (by kernel_rfl) ?_
 dsimp -iota -proj -eta only;refine iL (fun h0 =>?a) (fun h0 h1=>iE (fun h2 =>?b) (fun h2 h3=>iL (fun h4 =>?c) (fun h4=>⟨rfl,?d,fun h5=>⟨fun h6=>⟨?e,?f,?g,?h,?i,?j,?k⟩,fun h6=>(by rw[Oc (by omega) (fun h=>by have:=aV.2 h;simp_all)];exact⟨rfl,ba,rfl,rfl⟩)⟩⟩)))
 case a|b|c=>rw[RT (by omega)];exact⟨rfl,ba,rfl,rfl⟩
 case d|e=>omega
 case f|g=>
  have hlen:(stepOf d).fst.snd.snd.fst=d.snd.snd.fst:=congrArg (fun z=>z.2.1) (fY d);have hwt:(stepOf d).fst.snd.snd.snd.fst=d.snd.snd.snd.fst:=congrArg (fun z=>z.2.2.1) (fY d);have hkp:(stepOf d).fst.snd.fst=d.snd.fst:=congrArg (fun z=>z.1) (fY d);rw[hlen];omega
 case h|i=>
  have hlen:(stepOf d).fst.snd.snd.fst=d.snd.snd.fst:=congrArg (fun z=>z.2.1) (fY d);have hwt:(stepOf d).fst.snd.snd.snd.fst=d.snd.snd.snd.fst:=congrArg (fun z=>z.2.2.1) (fY d);have hkp:(stepOf d).fst.snd.fst=d.snd.fst:=congrArg (fun z=>z.1) (fY d);rw[dT,hlen];omega
 case j=>
  have hlen:(stepOf d).fst.snd.snd.fst=d.snd.snd.fst:=congrArg (fun z=>z.2.1) (fY d);have hwt:(stepOf d).fst.snd.snd.snd.fst=d.snd.snd.snd.fst:=congrArg (fun z=>z.2.2.1) (fY d);have hkp:(stepOf d).fst.snd.fst=d.snd.fst:=congrArg (fun z=>z.1) (fY d);rw[hwt];simp only[b9,true_and];omega
 case k=>
  have hlen:(stepOf d).fst.snd.snd.fst=d.snd.snd.fst:=congrArg (fun z=>z.2.1) (fY d);have hwt:(stepOf d).fst.snd.snd.snd.fst=d.snd.snd.snd.fst:=congrArg (fun z=>z.2.2.1) (fY d);have hkp:(stepOf d).fst.snd.fst=d.snd.fst:=congrArg (fun z=>z.1) (fY d);rw[UT (by omega) (aV.1 ‹_›),abn (t:=.str) (by rw[hlen];omega),hlen,hwt,hkp];exact⟨rfl,ba,rfl,by simp[aV.1 ‹(aL (stepOf d).snd).isNil=true›]⟩
def Tryz.Bo:bY Tryz.prog Tryz.B.eT Tryz.X 88 false (aW Tryz.bM [.obj 0,.d (.int .i64),.d .str] (fun _ x =>-1<=x.1.1/\x.2.2.2.1.length<=900000000) Tryz.Bn):=
 aZ (X:=Tryz.X) Tryz.F7 Tryz.func88 (by kernel_rfl) (fun(a:CD [.obj 0,.d (.int .i64),.d .str]) (x:PD Tryz.bM)=>[]) (fun(a:CD [.obj 0,.d (.int .i64),.d .str]) (x:PD Tryz.bM) hw hp=>Wy a.1 a.2.1 x hw hp)
def Tryz.Eb:List (Alt Tryz.bM [.obj 0,.d (.int .i64)]):=[{bS:=Tryz.bM,res:=[.d .str,.d .err],out:=fun _ x=>x,ret:=fun a x=>((sh x a.1).1,aL (sh x a.1).2,())}]
def ZQ(at_:Int)(d:Dk)(hw:fM [.obj 0,.d (.int .i64)] (at_,())):(cO Tryz.B [] Tryz.f92 [] Tryz.bM [.obj 0,.d (.int .i64)] Tryz.Eb (at_,()) d).holds:=by
 refine holds_of (p:=
  let za:=d.2.2.2.1=d.2.2.2.1
  let zb:=((sh d at_).1,aL (sh d at_).2,())
  let zc:=za/\True/\d=d/\([],aS.no 1,())=zb
  let zd:=bb d.2.2.1
  ((d.1.2.1)=true->za/\True/\d=d/\([],aS.no 9,())=zb)/\((d.1.2.1)=false->((decide (at_<0))=true->zc)/\((decide (at_<0))=false->zd<=aI->((decide (at_>=(↑zd:Int)))=true->zc)/\((decide (at_>=(↑zd:Int)))=false->(0<=at_/\at_<(↑zd:Int))/\bd at_<zd/\za/\True/\d=d/\(nth Ty.str d.2.2.1 (bd at_),aS.nil,())=zb)))) (by kernel_rfl) ?_
 dsimp -iota -proj -eta only;refine⟨fun h0=>(by rw[RU ‹_›];exact⟨rfl,ba,rfl,rfl⟩),fun h0=>iL (fun h1 =>?a) (fun h1 h2=>iE (fun h3 =>?b) (fun h3=>⟨(by trivial),(by omega),(by rw[YM ‹_› (by omega)];exact⟨rfl,ba,rfl,rfl⟩)⟩))⟩
 case a|b=>rw[UX ‹_› (by omega)];exact⟨rfl,ba,rfl,rfl⟩
def Tryz.ZR:bY Tryz.prog Tryz.B.eT Tryz.X 92 false (aW Tryz.bM [.obj 0,.d (.int .i64)] (fun _ _=>True) Tryz.Eb):=
 aZ (X:=Tryz.X) (bJ Tryz.bI) Tryz.func92 (by kernel_rfl) (fun(a:CD [.obj 0,.d (.int .i64)]) (x:PD Tryz.bM)=>[]) (fun(a:CD [.obj 0,.d (.int .i64)]) (x:PD Tryz.bM) hw hp=>ZQ a.1 x hw)
def Tryz.Bp:List (Alt Tryz.bM [.obj 0]):=[{bS:=Tryz.bM,res:=[.d .err],out:=fun _ x=>(cD x).1,ret:=fun _ x=>(aL (cD x).2,())}]
def Wz(d:Dk)(hw:fM [.obj 0] ())(hp:(fun _ x =>-1<=x.1.1/\x.2.1.length=x.2.2.1.length) () d):(cO Tryz.B Tryz.Ea Tryz.f89 [] Tryz.bM [.obj 0] Tryz.Bp () d).holds:=by
 refine holds_of (p:=
  let za:=aL (stepOf d).2
  let zb:=(stepOf d).1
  let zc:=bb zb.2.1
  let zd:=zb.2.2.1
  let ze:=min (bb zd) zc
  let zf:=(za,())=(aL (cD d).2,())
  d.2.2.2.1=d.2.2.2.1/\(-1:Int)<=d.1.1/\(True->((aS.isNil za)=true->(True/\0+zc<=zc)/\(@bc (Int×List UInt8×Unit)=@bc (Int×List UInt8×Unit)/\True/\(zb.1,bf 0 zb.2.1++bf ze zd++bk (0+ze) zb.2.1,zd,[],())=(cD d).1/\zf))/\((aS.isNil za)=false->zb.2.2.2.1=zb.2.2.2.1/\True/\zb=(cD d).1/\zf))) (by kernel_rfl) ?_
 dsimp -iota -proj -eta only;refine⟨rfl,(by omega),fun h0=>⟨fun h1=>⟨(by simp_all),?a⟩,fun h1=>(by rw[Of (fun h=>by have:=aV.2 h;simp_all)];exact⟨rfl,ba,rfl,rfl⟩)⟩⟩
 case a=>
  have hlen:(stepOf d).fst.snd.snd.fst=d.snd.snd.fst:=congrArg (fun z=>z.2.1) (fY d);have hwt:(stepOf d).fst.snd.snd.snd.fst=d.snd.snd.snd.fst:=congrArg (fun z=>z.2.2.1) (fY d);have hkp:(stepOf d).fst.snd.fst=d.snd.fst:=congrArg (fun z=>z.1) (fY d);have h0:=aV.1 ‹(aL (stepOf d).snd).isNil=true›;rw[UY h0,hlen,hkp,Ln hp.2,h0];exact⟨rfl,ba,rfl,rfl⟩
def Tryz.Bq:bY Tryz.prog Tryz.B.eT Tryz.X 89 false (aW Tryz.bM [.obj 0] (fun _ x =>-1<=x.1.1/\x.2.1.length=x.2.2.1.length) Tryz.Bp):=
 aZ (X:=Tryz.X) Tryz.F7 Tryz.func89 (by kernel_rfl) (fun(a:CD [.obj 0]) (x:PD Tryz.bM)=>[]) (fun(a:CD [.obj 0]) (x:PD Tryz.bM) hw hp=>Wz x hw hp)
def Tryz.G3:List (Alt Tryz.bM [.obj 0,.d (.int .i64)]):=[{bS:=Tryz.bM,res:=[],out:=fun a x=>acT x a.1,ret:=fun _ _=>()}]
def abT(n:Int)(d:Dk)(hw:fM [.obj 0,.d (.int .i64)] (n,())):(cO Tryz.B [] Tryz.f197 [] Tryz.bM [.obj 0,.d (.int .i64)] Tryz.G3 (n,()) d).holds:=by
 refine holds_of (p:=
  d.2.2.2.1=d.2.2.2.1/\True/\((if(-1:Int) > n then(-1:Int)else n,d.1.2),d.2)=acT d n/\()=()) (by kernel_rfl) ?_
 exact⟨rfl,ba,rfl,rfl⟩
def Tryz.abU:bY Tryz.prog Tryz.B.eT Tryz.X 197 false (aW Tryz.bM [.obj 0,.d (.int .i64)] (fun _ _=>True) Tryz.G3):=
 aZ (X:=Tryz.X) (bJ Tryz.bI) Tryz.func197 (by kernel_rfl) (fun(a:CD [.obj 0,.d (.int .i64)]) (x:PD Tryz.bM)=>[]) (fun(a:CD [.obj 0,.d (.int .i64)]) (x:PD Tryz.bM) hw hp=>abT a.1 x hw)
def Tryz.Ec:List (Alt Tryz.bM [.obj 0]):=[{bS:=Tryz.bM,res:=[.d .bool],out:=fun _ x=>x,ret:=fun _ x=>(x.1.2.1,())}]
def ZS(d:Dk)(hw:fM [.obj 0] ()):(cO Tryz.B [] Tryz.f91 [] Tryz.bM [.obj 0] Tryz.Ec () d).holds:=by
 refine holds_of (p:=
  d.2.2.2.1=d.2.2.2.1/\True/\d=d/\d.1.2=d.1.2) (by kernel_rfl) ?_
 exact(by trivial)
def Tryz.MV:bY Tryz.prog Tryz.B.eT Tryz.X 91 false (aW Tryz.bM [.obj 0] (fun _ _=>True) Tryz.Ec):=
 aZ (X:=Tryz.X) (bJ Tryz.bI) Tryz.func91 (by kernel_rfl) (fun(a:CD [.obj 0]) (x:PD Tryz.bM)=>[]) (fun(a:CD [.obj 0]) (x:PD Tryz.bM) hw hp=>ZS x hw)
def Tryz.vW:List (Alt Tryz.bM [.obj 0]):=[{bS:=Tryz.bM,res:=[.d (.int .i64)],out:=fun _ x=>x,ret:=fun _ x=>((x.2.2.1.length:Int),())}]
def OT(d:Dk)(hw:fM [.obj 0] ()):(cO Tryz.B [] Tryz.f87 [] Tryz.bM [.obj 0] Tryz.vW () d).holds:=by
 refine holds_of (p:=
  let za:=bb d.2.2.1
  let zb:=((↑za:Int),())
  za<=aI->d.2.2.2.1=d.2.2.2.1/\True/\d=d/\zb=zb) (by kernel_rfl) ?_
 dsimp -iota -proj -eta only;exact fun h0=>(by trivial)
def Tryz.vX:bY Tryz.prog Tryz.B.eT Tryz.X 87 false (aW Tryz.bM [.obj 0] (fun _ _=>True) Tryz.vW):=
 aZ (X:=Tryz.X) (bJ Tryz.bI) Tryz.func87 (by kernel_rfl) (fun(a:CD [.obj 0]) (x:PD Tryz.bM)=>[]) (fun(a:CD [.obj 0]) (x:PD Tryz.bM) hw hp=>OT x hw)
def Tryz.vY:List (Alt Tryz.bM [.obj 0,.d (.int .u64)]):=[{bS:=Tryz.bM,res:=[],out:=fun a x=>Lj x a.1,ret:=fun _ _=>()}]
def F8(k:Int)(d:Dk):cU:=[(0,fun st=>{X:=Nat,inv:=fun i=>i<=d.2.2.2.1.length,bF:=fun i=>d.2.2.2.1.length-i,aY:=fun i=>[(11,sI i)],aH:=fun i=>[(1,.bC .str (mA k d.2.2.2.1 d.2.1 i))],keep:=[0,1,9,10],eA:=[1]})]
def OU(k:Int)(d:Dk)(hw:fM [.obj 0,.d (.int .u64)] (k,()))(hp:(fun _ x=>x.2.1.length=x.2.2.1.length/\∀i,i<x.2.2.2.1.length->0<=((nth kJ x.2.2.2.1 i).1:Int)/\((nth kJ x.2.2.2.1 i).1:Int)<x.2.2.1.length) (k,()) d):(cO Tryz.B [] Tryz.f198 (F8 k d) Tryz.bM [.obj 0,.d (.int .u64)] Tryz.vY (k,()) d).holds:=by
 refine holds_of (p:=
  let za:=d.2.2.2.1
  let zb:=bb za
  let zc:=d.2.1
  let zd:=fun(E:Nat)=>(nth kJ za E).1
  let ze:=fun(E:Nat)=>mA k za zc E
  let zf:=fun(E:Nat)=>(↑E:Int)+(1:Int)
  let zg:=d.2.2.1
  let zh:=(C.bC 1=C.bC 1/\C.bC 2=C.bC 2/\za=za/\d.1.1=d.1.1/\d.1.2.1=d.1.2.1/\True)/\zg=zg/\za=za/\True
  let zi:=bb zg
  zb<=aI->(∃(x:Nat),x<=zb/\((0:Int)=(↑x:Int)/\True)/\zc=mA k za zc x/\True)/\∀E:Nat,E<=zb->((decide ((↑E:Int)<(↑zb:Int)))=true->((0:Int)<=(↑E:Int)/\(↑E:Int)<(↑zb:Int))/\(64:Int)≠(0:Int)/\∀F:Int,F=cq (↑E:Int) (64:Int)->(0:Int)<=F/\∀G:Int,G=bu k ((2:Int)^min (bd F) (b3 bq))->∀I:Int,I=bh bq (↑(cd (b5 (b3 bq) G&&&b5 (b3 bq) (1:Int))):Int)->((I == (1:Int))=true->((0:Int)<=zd E/\zd E<(↑(bb (ze E)):Int))/\bd (zd E)<bb (ze E)/\(aF (↑E:Int)->aF (1:Int)->aF (zf E)/\∃(x':Nat),x'<=zb/\zb-x'<zb-E/\(zf E=(↑x':Int)/\True)/\db (ze E) (bd (zd E)) (nth kJ za E).2.1=mA k za zc x'/\zh))/\((I == (1:Int))=false->aF (↑E:Int)->aF (1:Int)->aF (zf E)/\∃(x':Nat),x'<=zb/\zb-x'<zb-E/\(zf E=(↑x':Int)/\True)/\ze E=mA k za zc x'/\zh))/\((decide ((↑E:Int)<(↑zb:Int)))=false->(True/\0+zi<=zi)/\(@bc (Int×List UInt8×Unit)=@bc (Int×List UInt8×Unit)/\True/\(((-1:Int),false,()),ze E,bf 0 zg++bf (min (bb (ze E)) zi) (ze E)++bk (0+min (bb (ze E)) zi) zg,[],())=Lj d k/\()=()))) (by kernel_rfl) ?_
 dsimp -iota -proj -eta only;refine fun h0=>⟨?a,fun E q_0=>iL (fun h1=>⟨(by omega),(by trivial),fun F q_1=>⟨(by have:=aaN E;rw[Int.tmod_eq_emod_of_nonneg (by omega)]at*;omega),fun G q_2 I q_3=>iQ (fun h2=>⟨?b,?c,fun h3 h4=>⟨?d,?e⟩⟩) (fun h2 h3 h4=>⟨?f,?g⟩)⟩⟩) (fun h1=>⟨(by simp_all),?h⟩)⟩
 case a=>refine⟨0,?_⟩;(repeat' (first|exact trivial|rfl|omega|assumption|apply ec))
 case b|c=>have:=hp.2 E (by omega);rw[Az];(try dsimp only[D]at*);omega
 case d|f=>simp only[aF,aI]at*;omega
 case e|g=>
  have hb:=YK (k:=k) (i:=E) (x:=G) (y:=I) ‹_› (by rw[‹F=_›];exact aaN E) ‹_›
  first|exact⟨E+1,by omega,by omega,⟨by omega,ba⟩,YL (hb.1 ‹_›),(by trivial)⟩|exact⟨E+1,by omega,by omega,⟨by omega,ba⟩,UU ((not_congr hb).1 ‹_›),(by trivial)⟩
 case h=>
  obtain rfl:E=d.2.2.2.1.length:=by omega
  rw[Ln (by rw[Az];exact hp.1.symm)];exact⟨rfl,ba,rfl,rfl⟩
def Tryz.OV:bY Tryz.prog Tryz.B.eT Tryz.X 198 false (aW Tryz.bM [.obj 0,.d (.int .u64)] (fun _ x=>x.2.1.length=x.2.2.1.length/\∀i,i<x.2.2.2.1.length->0<=((nth kJ x.2.2.2.1 i).1:Int)/\((nth kJ x.2.2.2.1 i).1:Int)<x.2.2.1.length) Tryz.vY):=
 aZ (X:=Tryz.X) (bJ Tryz.bI) Tryz.func198 (by kernel_rfl) (fun(a:CD [.obj 0,.d (.int .u64)]) (x:PD Tryz.bM)=>F8 a.1 x) (fun(a:CD [.obj 0,.d (.int .u64)]) (x:PD Tryz.bM) hw hp=>OU a.1 x hw hp)
def Tryz.Ed:List (Alt [] [.d (.int .i64)]):=[
 {bS:=[],res:=[.iX,.d .err],ok:=fun a _=>a.1<1\/120<a.1,out:=fun _ _=>(),ret:=fun _ _=>(aS.no 1,())},
 {bS:=Tryz.bM,res:=[.obj 0,.d .err],ok:=fun a _=>1<=a.1/\a.1<=120,out:=fun a _=>DL a.1,ret:=fun _ _=>(aS.nil,())}]
def abV(n:Int)(hw:fM [.d (.int .i64)] (n,())):(cO Tryz.B Tryz.MU Tryz.f46 [] [] [.d (.int .i64)] Tryz.Ed (n,()) ()).holds:=by
 refine holds_of (p:=
  let za:=(aS.no 1,())
  let zb:=(n<1\/120<n)/\()=()/\za=za
  let zc:=[fK (@bc UInt8)]
  let zd:=cj (bd n) (nth Ty.str zc 0)
  let ze:=zd≠@bc (List UInt8)
  ((decide (n<1))=true->zb)/\((decide (n<1))=false->((decide (n > 120))=true->zb)/\((decide (n > 120))=false->bb (@bc UInt8)<=64/\(bb zc=1/\1<=n/\n<=1000000)/\(True->(ze/\bb zd<=1000000)/\(ze->(@bc (Int×List UInt8×Unit)=@bc (Int×List UInt8×Unit)/\(1<=n/\n<=120)/\(((-1:Int),false,()),zd,zd,[],())=DL n/\(aS.nil,())=(aS.nil,()))))))) (by kernel_rfl) ?_
 dsimp -iota -proj -eta only;refine iL (fun h0 =>?a) (fun h0=>iL (fun h1 =>?b) (fun h1=>⟨(by trivial),⟨rfl,by omega,by omega⟩,fun h2=>⟨?c,fun h3=>⟨rfl,by omega,rfl,rfl⟩⟩⟩))
 case a|b=>exact⟨by omega,rfl,rfl⟩
 case c=>
  refine⟨fun h =>?_,by simp only[ct];omega⟩;have:=congrArg bb h;simp only[ct,b4]at this;omega
def Tryz.abW:bY Tryz.prog Tryz.B.eT Tryz.X 46 false (aW [] [.d (.int .i64)] (fun _ _=>True) Tryz.Ed):=
 aZ (X:=Tryz.X) Tryz.Tg Tryz.func46 (by kernel_rfl) (fun(a:CD [.d (.int .i64)]) (x:PD [])=>[]) (fun(a:CD [.d (.int .i64)]) (x:PD []) hw hp=>abV a.1 hw)
def abX(n:Int)(hw:eD [.int .i64] n):(cL Tryz.B [] Tryz.f123 [] [.int .i64] [.str] (fun x y=>y=(fun n=>lG n) x) n).holds:=by
 refine holds_of (p:=
  (0:Int)<=(8:Int)/\∀E:Int,E=bu n ((2:Int)^min 8 (b3 bn))->(0:Int)<=(16:Int)/\∀F:Int,F=bu n ((2:Int)^min 16 (b3 bn))->(0:Int)<=(24:Int)/\∀G:Int,G=bu n ((2:Int)^min 24 (b3 bn))->bb [bh b6 n,bh b6 E,bh b6 F,bh b6 G]<=aI/\bytesOf [bh b6 n,bh b6 E,bh b6 F,bh b6 G]=lG n) (by kernel_rfl) ?_
 refine⟨?a,fun E q_0=>⟨?b,fun F q_1=>⟨?c,fun G q_2=>⟨((by decide:4<=aI)),(by subst q_0;subst q_1;subst q_2;rfl)⟩⟩⟩⟩
 case a|b|c=>trivial
def Tryz.abY:bO Tryz.prog Tryz.B.eT Tryz.X 123 [.int .i64] [.str] (fun _=>True) (fun x y=>y=(fun n=>lG n) x):=
 bP (X:=Tryz.X) (bJ Tryz.bI) Tryz.func123 (by kernel_rfl) (fun _=>[]) (fun x hw hp=>abX x hw)
def Tryz.QA:List (FuncId×(Bool×aX)):=[(123,(true,bX [.int .i64] [.str] (fun _=>True) (fun n=>lG n)))]
def Tryz.WA:bL Tryz.prog Tryz.B Tryz.X Tryz.QA:=
 aM (aE Tryz.abY) (bJ Tryz.bI)
def ZT(a:Int)(b:Int)(hw:eD [.int .i64,.int .i64] (a,b)):(cL Tryz.B Tryz.QA Tryz.f90 [] [.int .i64,.int .i64] [.str] (fun x y=>y=(fun x=>gM x.1 x.2) x) (a,b)).holds:=by
 refine holds_of (p:=
  let za:=[(83:UInt8)]++lG a
  True/\bb [(83:UInt8)]+bb (lG a)<=aI/\True/\bb za+bb (lG b)<=aI/\za++lG b=gM a b) (by kernel_rfl) ?_
 dsimp -iota -proj -eta only;exact⟨ba,(by rw[u7];exact(by decide:1+4<=aI)),ba,(by rw[bw,u7,u7];exact(by decide:1+4+4<=aI)),(by trivial)⟩
def Tryz.MW:bO Tryz.prog Tryz.B.eT Tryz.X 90 [.int .i64,.int .i64] [.str] (fun _=>True) (fun x y=>y=(fun x=>gM x.1 x.2) x):=
 bP (X:=Tryz.X) Tryz.WA Tryz.func90 (by kernel_rfl) (fun _=>[]) (fun x hw hp=>ZT x.1 x.2 hw)
def WB(s:List UInt8)(hw:eD [.str] s)(hp:(fun s=>4<=s.length) s):(cL Tryz.B [] Tryz.f93 [] [.str] [.int .i64] (fun s y=>(y:Int)=j9 s) s).holds:=by
 refine holds_of (p:=
  let za:=(↑(bb s):Int)
  let zb:=b3 bn
  let zc:=fun(I F G:Int)=>I=bh bn (↑(cd (b5 zb F ||| b5 zb G)):Int)
  ((0:Int)<=(0:Int)/\(0:Int)<za)/\((0:Int)<=(1:Int)/\(1:Int)<za)/\(0:Int)<=(8:Int)/\∀E:Int,E=bh bn ((↑(br (bR s 1)):Int)*(2:Int)^min 8 zb)->∀F:Int,F=bh bn (↑(cd (b5 zb (↑(br (bR s 0)):Int) ||| b5 zb E)):Int)->((0:Int)<=(2:Int)/\(2:Int)<za)/\(0:Int)<=(16:Int)/\∀G:Int,G=bh bn ((↑(br (bR s 2)):Int)*(2:Int)^min 16 zb)->∀I:Int,zc I F G->((0:Int)<=(3:Int)/\(3:Int)<za)/\(0:Int)<=(24:Int)/\∀K:Int,K=bh bn ((↑(br (bR s 3)):Int)*(2:Int)^min 24 zb)->∀M:Int,zc M I K->M=j9 s) (by kernel_rfl) ?_
 dsimp -iota -proj -eta only;refine⟨?a,?b,?c,fun E q_0 F q_1=>⟨?d,?e,fun G q_2 I q_3=>⟨?f,?g,fun K q_4 M q_5=>(by subst_vars;rfl)⟩⟩⟩
 case a|b|d|f=>omega
 case c|e|g=>trivial
def Tryz.WC:bO Tryz.prog Tryz.B.eT Tryz.X 93 [.str] [.int .i64] (fun s=>4<=s.length) (fun s y=>(y:Int)=j9 s):=
 bP (X:=Tryz.X) (bJ Tryz.bI) Tryz.func93 (by kernel_rfl) (fun _=>[]) (fun x hw hp=>WB x hw hp)
def Tryz.spZ9:Bool×aX:=(true,bX [aB] [.str,.err] (fun _=>True) (fun e=>dY e))
def Tryz.IZ:List (FuncId×(Bool×aX)):=[(148,(false,tV 244 5)),(151,(false,sF 244 5)),(150,(true,Ah 244 5)),(29,Tryz.spZ9)]
def Tryz.OW:bL Tryz.prog Tryz.B Tryz.X Tryz.IZ:=
 aM (Tryz.C6) (aM (Tryz.Bl) (aM (Tryz.IX) (aM (aE Tryz.MS) (bJ Tryz.bI))))
def I0(l:List (D aB)):cU:=[
 (0,fun st=>{X:=Nat,inv:=fun i=>i<=l.length/\∀j,j<i->bE (nth aB l j)=0,bF:=fun i=>l.length-i,aY:=fun i=>[(11,sI i)],keep:=[4,9,10],aH:=fun i=>[(aT st 4,.ext 2 me (bT (gO (l.take i)),(244:Int),(5:Int),()))],eA:=[aT st 4]})]
def ZU(l:List (D aB))(hw:eD [.slice aB] l)(hp:(fun l=>l.length<=100) l):(cL (jl Tryz.B [17]) Tryz.IZ Tryz.f128 (I0 l) [.slice aB] [.str,.err] (fun x y=>y=(fun l=>eK l) x) l).holds:=by
 refine holds_of (p:=
  let za:=bb l
  let zb:=(↑(244:Nat):Int)
  let zc:=fun(b:UInt8)=>(↑(br b):Int)
  let zd:=((244:Int),(5:Int),())
  let ze:=(↑(5:Nat):Int)
  let zf:=fun(E:Nat)=>bm zc (gO (bf E l))
  za<=aI->(∃(x:Nat),(x<=za/\∀(j:Nat),j<x->bE (nth aB l j)=(0:Int))/\((0:Int)=(↑x:Int)/\True)/\([],zb,(↑(5:TypeId):Int),())=(bm zc (gO (bf x l)),zd)/\True)/\∀E:Nat,(E<=za/\∀(j:Nat),j<E->bE (nth aB l j)=(0:Int))->((decide ((↑E:Int)<(↑za:Int)))=true->((0:Int)<=(↑E:Int)/\(↑E:Int)<(↑za:Int))/\True/\((!aS.isNil (dY (nth aB l E)).2)=true->([],(dY (nth aB l E)).2)=eK l)/\((!aS.isNil (dY (nth aB l E)).2)=false->((244:Int)=zb/\(5:Int)=ze/\bb (zf E)+bb (dY (nth aB l E)).1<=(140737488355328:Nat))/\(aF (↑E:Int)->aF (1:Int)->aF ((↑E:Int)+(1:Int))/\∃(x':Nat),(x'<=za/\∀(j:Nat),j<x'->bE (nth aB l j)=(0:Int))/\za-x'<za-E/\((↑E:Int)+(1:Int)=(↑x':Int)/\True)/\(zf E++bm zc (dY (nth aB l E)).1,zb,ze,())=(bm zc (gO (bf x' l)),zd)/\True)))/\((decide ((↑E:Int)<(↑za:Int)))=false->((244:Int)=zb/\(5:Int)=ze)/\(bytesOf (zf E),aS.nil)=eK l)) (by kernel_rfl) ?_
 dsimp -iota -proj -eta only;refine fun h0=>⟨(⟨0,⟨b7 _,fun j hj=>absurd hj (cz _)⟩,⟨rfl,ba⟩,rfl,ba⟩),fun E q_0=>iL (fun h1=>⟨(by omega),ba,iB (fun h2=>(V1 q_0.2 (by omega) h2)) (fun h2=>⟨?a,fun h3 h4=>⟨(by simp only[aF,aI]at*;omega),(⟨E+1,⟨by omega,jD q_0.2 (yl h2).1⟩,by omega,⟨by omega,ba⟩,qv (V2 (by omega) h2),ba⟩)⟩⟩)⟩) (fun h1=>⟨(by trivial),(by rw[show bytesOf (bm _ (gO (bf E l)))=_ from xF _];exact Zq q_0.2 (by omega))⟩)⟩
 case a=>refine⟨rfl,rfl,?_⟩;rw[bz];have h1:=V3 hp (i:=E) (by omega) q_0.2;have h2:=SK h2;omega
def Tryz.ZV:bO Tryz.prog Tryz.B.eT Tryz.X 128 [.slice aB] [.str,.err] (fun l=>l.length<=100) (fun x y=>y=(fun l=>eK l) x):=
 bP (B:=(jl Tryz.B [17])) (X:=Tryz.X) (bL.hint (l:=[17]) Tryz.OW) Tryz.func128 (by kernel_rfl) (fun x=>I0 x) (fun x hw hp=>ZU x hw hp)
end Go.Proofs.YtgokjhhcfemnhabGreatDoor

namespace Go.Proofs.YtgokjhhcfemnhabGreatDoor
open Go.Vg Go.Shelf Go.RowKit
attribute [local go_sem] Oper.semAt_some
def F9(p j k:Nat):Prop:=p=j*k
def adm{n k m:Nat}(h:min k n=m):(if n<k then((n:Nat):Int)else(k:Int))=(m:Int):=by split <;> omega
def Tryz.it0(b1 b2:Nat)(a:Option Addr)(len cap k:Nat)(w0:World)(h1k:1<=k)(hk9:k<=1000000000)(hl9:len<=1000000000)(hlc:len<=cap)(hsome:0<len->∃b o,a=some ⟨b,o,none⟩)
  (l:Nat)(J Jx:List Nat->World->Prop)(hJd:∀s W,J s W->J s W.drew)
  (hY:∀pre x W1,J pre W1->pre.length<gR len k->YieldAt Fence.wide 1 Tryz.prog l #[mb a len k x] W1 fun e W'=>
   (e=.returned (.bool true)/\J (pre++[x]) W'/\(W'.cell? ⟨b1,0,none⟩=W1.cell? ⟨b1,0,none⟩/\W'.cell? ⟨b2,0,none⟩=W1.cell? ⟨b2,0,none⟩))\/(e=.returned (.bool false)/\Jx (pre++[x]) W'))
  (W:World)(hc1:W.cell? ⟨b1,0,none⟩=some (.slice a len cap))(hc2:W.cell? ⟨b2,0,none⟩=some (.int .i64 k))(h0:J [] W) :
  CallsIn Fence.wide 2 Tryz.prog 160 #[.func (.yield l) #[] #[],.pointer (some ⟨b1,0,none⟩),.pointer (some ⟨b2,0,none⟩)] W fun e W'=>(∃v,e=.returned v)/\((∃xs,xs=cu (gR len k)/\J xs W')\/(∃pre,(∃j,pre=cu j)/\Jx pre W')):=by
 refine callsIn_of_wp Tryz.func160 rfl trivial ?_ rfl;have hn:Tryz.f160.ntmps=31:=rfl;simp only[hn,List.size_toArray,bx,b4,Nat.reduceAdd,Nat.reduceSub,Array.replicate_succ,Array.replicate_zero,List.push_toArray,List.append_toArray,List.nil_append,List.cons_append]
 gi_wp2
 gi_loopw [4] (fun i wr=>∃j p:Nat,F9 p j k/\j<=gR len k/\i=.int .i64 (p:Int)/\J (cu j) wr/\wr.cell? ⟨b1,0,none⟩=some (.slice a len cap)/\wr.cell? ⟨b2,0,none⟩=some (.int .i64 k))
  (fun i _=>len+k-(intOf i).toNat)
 case atStart=>exact⟨0,0,(Nat.zero_mul k).symm,b7 _,rfl,h0,hc1,hc2⟩
 case round=>
  obtain⟨j,p,hp,hj,rfl,hJs,hw1,hw2⟩:=hrel;by_cases hlt:p<len
  ·have hlt':(p:Int)<(len:Int):=Int.ofNat_lt.2 hlt
   obtain⟨b,o,rfl⟩:=hsome (by omega);obtain⟨m,hm⟩:∃m:Nat,m=min k (len-p):=⟨_,rfl⟩
   have hm0:0<m:=by omega
   have hm00:¬m=0:=by omega
   have hm2:p+m<=len:=by omega
   have hb1:(((p:Nat):Int)+(m:Int))<=1000000000:=by omega
   have hb0:(0:Int)<=((p:Nat):Int)+(m:Int):=by omega
   have hjN:j<gR len k:=by
    unfold gR;rw[ey (by omega)];unfold F9 at hp;omega
   obtain⟨fn,tmps,assign,body,hy,hR⟩:=hY (cu j) j wr.drew (hJd _ _ hJs) (by rw[List.length_range];exact hjN);rw[show mb (some ⟨b,o,none⟩) len k j=.slice (some ⟨b,o+p,none⟩) m m by unfold F9 at hp;subst hp;subst hm;rfl]at hy
   gi_wp2
   gi_region
   try rw[adm (show min k (len-p)=m from hm.symm)]
   try rw[show min ((k:Nat):Int) ((len-p:Nat):Int)=(m:Int) by omega]
   try rw[<-hm]
   clear hm
   gi_wp2
   refine hR.mono ?_;rintro e W3 (⟨rfl,hJ3,hk3⟩|⟨rfl,hJx3⟩)
   ·have hw3:=hk3.1.trans hw1
    have hw4:=hk3.2.trans hw2;have hs1:(0:Int)<=(p:Int)+(k:Int):=by omega
    have hs2:(p:Int)+(k:Int)<=2000000000:=by omega
    gi_wp2
    go_roundw
    case rel=>exact⟨j+1,p+k,by unfold F9 at*;rw[hp,Nat.add_mul,Nat.one_mul],hjN,by simp,by rw[e0];exact hJ3,hw3,hw4⟩
    case measure=>simp[intOf];omega
   ·gi_wp2
    refine bodyPost_ret (results_none rfl _ _ _) rfl ?_;exact⟨⟨_,rfl⟩,.inr ⟨_,⟨j+1,e0.symm⟩,hJx3⟩⟩
  ·have hjN:j=gR len k:=by
    refine Nat.le_antisymm hj (Nat.le_of_not_lt fun hc=>hlt ?_);unfold gR at hc;rw[ey (by omega)]at hc;unfold F9 at hp;omega
   gi_wp2
   go_end0
   exact⟨⟨_,rfl⟩,.inl ⟨_,rfl,by rw[<-hjN];exact hJs⟩⟩
def Tryz.abZ:wR Tryz.prog 160:=fun b1 b2 a len cap k w h1k hk9 hl9 hlc hsome hb1 hb2 hc1 hc2 l J Jx W hW hJ _ hY h0=>
 Tryz.it0 b1 b2 a len cap k w h1k hk9 hl9 hlc hsome l J Jx (fun s W hs=>hJ s W W.drew none hs ⟨rfl,rfl,rfl,cb _,fun _ _ _=>rfl⟩ (fun r e=>by cases e)) hY W
  ((hW.cell (p:=⟨b1,0,none⟩) hb1).trans hc1) ((hW.cell (p:=⟨b2,0,none⟩) hb2).trans hc2) h0
end Go.Proofs.YtgokjhhcfemnhabGreatDoor

namespace Go.Proofs.YtgokjhhcfemnhabGreatDoor
open Go.Vg Go.Mrl
@[reducible] def Tryz.cH:List Ob:=[.box 169 [.obj 1,.d (.int .i64),.d (.slice aB)],.box 164 [.obj 2,.obj 3,.obj 4,.d (.int .i64),.d .bool],.row true .str,.row true .str,.tok kJ]
@[reducible] def Tryz.ab0:List Ob:=[.box 26 [.obj 1],.box 169 [.obj 2,.d (.int .i64),.d (.slice aB)],.box 164 [.obj 3,.obj 4,.obj 5,.d (.int .i64),.d .bool],.row true .str,.row true .str,.tok kJ,.box 33 [.d .err],.box 33 [.d .err],.box 3 [.d (.int .i64)]]
def Tryz.spZ10:Bool×aX:=(true,bX [.int .i64,.int .i64] [.str] (fun _=>True) (fun x=>gM x.1 x.2))
def Tryz.spZ11:Bool×aX:=(false,aW Tryz.bM [.obj 0,.d (.int .i64),.d .str] (fun _ x =>-1<=x.1.1/\x.2.2.2.1.length<=900000000) Tryz.Bn)
def Tryz.spZ12:Bool×aX:=(false,aW Tryz.bM [.obj 0] (fun _ x =>-1<=x.1.1/\x.2.1.length=x.2.2.1.length) Tryz.Bp)
def Tryz.QB:List (FuncId×(Bool×aX)):=[(128,(true,bX [.slice aB] [.str,.err] (fun l=>l.length<=100) (fun l=>eK l))),(90,Tryz.spZ10),(129,(false,iS Tryz.B [] Tryz.f129 [])),(88,Tryz.spZ11),(89,Tryz.spZ12)]
def Tryz.WD:bL Tryz.prog Tryz.B Tryz.X Tryz.QB:=
 aM (aE Tryz.ZV) (aM (aE Tryz.MW) (aM (gz (bJ Tryz.bI) Tryz.func129 (by kernel_rfl) []) (aM (Tryz.Bo) (aM (Tryz.Bq) (bJ Tryz.bI)))))
def Tryz.MX(l:List (D aB))(r:Int)(o:List (D aB))(d:Dk):List (Nat×(St->np)):=[
 (0,fun st=>{inv:=fun pre=>(jz l r d pre).2=0,keep:=[1,2,4,5,6,7,8,29],aU:=Tryz.ab0,refs:=[(2,0),(4,6),(6,7),(8,8)],pd:=fun pre=>((),(r,o,()),(jz l r d pre).1.1,(jz l r d pre).1.2.1,(jz l r d pre).1.2.2.1,(jz l r d pre).1.2.2.2.1,(aS.nil,()),(aS.nil,()),((2+(r+1).tmod 2*55+(pre.length:Int):Int),()),())})]
def Tryz.Ee:List (Alt Tryz.cH [.obj 0,.d (.slice aB)]):=[{bS:=Tryz.cH,res:=[.d .err],out:=fun a x=>(if(gy x.2 x.1.1 a.1).2=0 then(x.1.1+1,a.1,())else x.1,(gy x.2 x.1.1 a.1).1),ret:=fun a x=>(aL (gy x.2 x.1.1 a.1).2,())}]
def ab1(l:List (D aB))(r:Int)(o:List (D aB))(d:Dk)(hw:fM [.obj 0,.d (.slice aB)] (l,()))(hp:(fun a x=>a.1.length<=100/\0<=(x.1.1:Int)/\(x.1.1:Int)<=1000000000/\dN x.2 1000000) (l,()) ((r,o,()),d)):(GW Tryz.B Tryz.QB 160 Tryz.f98 (Tryz.MX l r o d) Tryz.cH [.obj 0,.d (.slice aB)] Tryz.Ee (l,()) ((r,o,()),d)).holds:=by
 refine holds_of (p:=
  let za:=d.2.2.2.1
  let zb:=(r,o,())
  let zc:=gy d r l
  let zd:=r+(1:Int)
  let ze:=(zd,l,())
  let zf:=(if zc.2=(0:Int)then ze else zb,zc.1)
  let zg:=((eK l).2,())
  let zh:=(aL zc.2,())
  let zi:=(2:Int)≠(0:Int)
  let zj:=cq zd (2:Int)
  let zk:=bm (fun(b:UInt8)=>(↑(br b):Int)) (eK l).1
  let zl:=(aS.nil,())
  let zm:=(2:Int)+zj*(55:Int)
  let zn:=(bb zk+(64:Nat)-(1:Nat)) / (64:Nat)
  let zo:=fun(I:Nat)=>bf (64:Nat) (bk (I*(64:Nat)) zk)
  let zp:=fun(G:List Nat)=>(jz l r d G).1
  let zq:=(-1:Int)
  let zr:=fun(G:List Nat)=>zm+(↑(bb G):Int)
  let zs:=fun(G:List Nat) (I:Nat)=>aL (bZ (zp G) (zr G) (bytesOf (zo I))).2
  let zt:=fun(G:List Nat) (I:Nat)=>(bZ (zp G) (zr G) (bytesOf (zo I))).1
  let zu:=fun(I:Nat) (G:List Nat)=>(bb (zo I)<=aI)/\((zp G).2.2.2.1=(zp G).2.2.2.1)/\(zq<=(zp G).1.1/\bb (zp G).2.2.2.1<=(900000000:Nat))/\((True)->(((!aS.isNil (zs G I))=true->((G=cu I)->((zt G I).2.2.2.1=(zt G I).2.2.2.1/\True/\(zb,zt G I)=zf/\(zs G I,())=zh)))/\((!aS.isNil (zs G I))=false->((aF (zr G))->((aF (1:Int))->(aF (zr G+(1:Int)))/\((zt G I).2.2.2.1=(zt G I).2.2.2.1/\∃(x':List Nat),(jz l r d x').2=(0:Int)/\x'=G++[I]/\True/\True/\true=true/\((),zb,(zt G I).1,(zt G I).2.1,(zt G I).2.2.1,(zt G I).2.2.2.1,zl,(zs G I,()),(zr G+(1:Int),()),())=((),zb,(jz l r d x').1.1,(jz l r d x').1.2.1,(jz l r d x').1.2.2.1,(jz l r d x').1.2.2.2.1,zl,zl,(zm+(↑(bb x'):Int),()),())))))))
  let zv:=jz l r d (cu zn)
  let zw:=zv.1.2.2.2.1
  let zx:=aL (cD zv.1).2
  let zy:=aS.isNil zx
  let zz:=bb (eK l).1
  let zaa:=(cD zv.1).1
  let zab:=zaa.2.2.2.1
  let zac:=zab=zab
  let zad:=zq<=zaa.1.1
  let zae:=fun(G:Int)=>bZ zaa G (gM zd (↑zz:Int))
  let zaf:=fun(G:Int)=>(zae G).1.2.2.2.1=(zae G).1.2.2.2.1
  let zag:=fun(G:Int)=>(cD (zae G).1).1
  let zah:=fun(G:Int)=>(zag G).2.2.2.1=(zag G).2.2.2.1
  let zai:=fun(G:Int)=>(aL (cD (zae G).1).2,())=zh
  let zaj:=fun(G:Int)=>(aL (zae G).2,())=zh
  let zak:=aL (cD zaa).2
  let zal:=(cD zaa).1
  let zam:=zal.2.2.2.1=zal.2.2.2.1
  let zan:=(zak,())=zh
  let zao:=(zx,())=zh
  (bb l<=(100:Nat))/\(((!aS.isNil (eK l).2)=true->(za=za/\True/\(zb,d)=zf/\zg=zh))/\((!aS.isNil (eK l).2)=false->((aF r)->((aF (1:Int))->(aF zd)/\(zi)/\(∀E:Int,((E=zj)->(∀F:Int,((F=E*(55:Int))->((aF E)->((aF (55:Int))->(aF F)/\((aF (2:Int))->((aF F)->(aF ((2:Int)+F))/\(((decide ((64:Int)<(1:Int)))=true->(False))/\((decide ((64:Int)<(1:Int)))=false->((((1:Int)<=(64:Int)/\(64:Int)<=(1000000000:Int)/\bb zk<=(1000000000:Nat)))/\((za=za/\∃(x':List Nat),(jz l r d x').2=(0:Int)/\x'=@bc Nat/\True/\True/\true=true/\((),zb,d.1,d.2.1,d.2.2.1,za,zl,zg,((2:Int)+F,()),())=((),zb,(jz l r d x').1.1,(jz l r d x').1.2.1,(jz l r d x').1.2.2.1,(jz l r d x').1.2.2.2.1,zl,zl,(zm+(↑(bb x'):Int),()),())))/\((∀G:List Nat,(((jz l r d G).2=(0:Int))->(∀I:Nat,((bb G<zn)->((((fun a0 a1:Prop=>a0/\a0/\a1) (((fun a0:Prop=>a0/\a0) ((zu I G)))) ((zu I G))))/\(((((fun a0:Prop=>a0/\a0) ((zu I G))))/\((zu I G))))/\((zu I G))))))))/\(((zv.2=(0:Int))->(zw=zw)/\(zq<=zv.1.1.1/\bb zv.1.2.1=bb zv.1.2.2.1)/\((True)->(((zy)=true->(zi)/\(∀G:Int,((G=zj)->((zz<=aI)->(True)/\(zac)/\(zad/\bb zab<=(900000000:Nat))/\((True)->(((aS.isNil (aL (zae G).2))=true->(zaf G)/\(zq<=(zae G).1.1.1/\bb (zae G).1.2.1=bb (zae G).1.2.2.1)/\((True)->(((aS.isNil (aL (cD (zae G).1).2))=true->((fun a0:Prop=>a0/\a0) ((zah G/\True/\(ze,zag G)=zf/\zai G))))/\((aS.isNil (aL (cD (zae G).1).2))=false->(zah G/\True/\(zb,zag G)=zf/\zai G)))))/\((aS.isNil (aL (zae G).2))=false->(((aS.isNil (aL (zae G).2))=true->((fun a0:Prop=>a0/\a0) ((zaf G/\True/\(ze,(zae G).1)=zf/\zaj G))))/\((aS.isNil (aL (zae G).2))=false->(zaf G/\True/\(zb,(zae G).1)=zf/\zaj G))))))))))/\((zy)=false->(((zy)=true->(zac)/\(zad/\bb zaa.2.1=bb zaa.2.2.1)/\((True)->(((aS.isNil zak)=true->((fun a0:Prop=>a0/\a0) ((zam/\True/\(ze,zal)=zf/\zan))))/\((aS.isNil zak)=false->(zam/\True/\(zb,zal)=zf/\zan)))))/\((zy)=false->(((zy)=true->((fun a0:Prop=>a0/\a0) ((zac/\True/\(ze,zaa)=zf/\zao))))/\((zy)=false->(zac/\True/\(zb,zaa)=zf/\zao)))))))))))))))))))))))))) (by kernel_rfl) ?_
 dsimp -iota -proj -eta only;dsimp only at hp;refine⟨hp.1,iB (fun h0 =>?a) (fun h0 h1 h2=>⟨(by have hr:=hp.2.1;have hr2:=hp.2.2.1;simp only[aF]at*;dsimp only[D]at*;omega),?b,fun E q_0 F q_1 h3 h4=>⟨?c,fun h5 h6=>⟨?d,⟨fun h7=>absurd (show false=true from h7) (by decide),fun h7=>⟨?e,?f,fun G q_2 I q_3=>⟨(show ∀{a0 a1:Prop},a0->a1->a0/\a0/\a1 from fun g0 g1=>⟨g0,g0,g1⟩) ((show ∀{a0:Prop},a0->a0/\a0 from fun g0=>⟨g0,g0⟩) (⟨?g,rfl,?h,fun h8=>iB (fun h9 h10 =>?i) (fun h9 h10 h11=>⟨?j,?k⟩)⟩)) (⟨?l,rfl,?m,fun h8=>iB (fun h9 h10 =>?n) (fun h9 h10 h11=>⟨?o,?p⟩)⟩),⟨(show ∀{a0:Prop},a0->a0/\a0 from fun g0=>⟨g0,g0⟩) (⟨?q,rfl,?r,fun h8=>iB (fun h9 h10 =>?s) (fun h9 h10 h11=>⟨?t,?u⟩)⟩),⟨?v,rfl,?w,fun h8=>iB (fun h9 h10 =>?x) (fun h9 h10 h11=>⟨?y,?z⟩)⟩⟩,⟨?a0,rfl,?a1,fun h8=>iB (fun h9 h10 =>?a2) (fun h9 h10 h11=>⟨?a3,?a4⟩)⟩⟩,fun h8=>⟨rfl,(by have hf:=D5 (r:=r) hp.1 hp.2.2.2;exact⟨hf.nO,hf.len⟩),fun h9=>⟨fun h10=>⟨?a5,fun G q_2 h11=>⟨ba,rfl,(by have hf:=tm (D5 (r:=r) hp.1 hp.2.2.2);exact⟨hf.nO,b8 hf.o6 (by decide)⟩),fun h12=>⟨fun h13=>⟨rfl,(by have hf:=nP (tm (D5 (r:=r) hp.1 hp.2.2.2)) G (gM (r+1) (eK l).1.length);exact⟨hf.nO,hf.len⟩),fun h14=>⟨fun h15=>(show ∀{a0:Prop},a0->a0/\a0 from fun g0=>⟨g0,g0⟩) ((by subst q_2;exact⟨rfl,ba,V5 (IH h0 h8 (aV.1 h10) (aV.1 h13)) (aV.1 h15)⟩)),fun h15=>(by subst q_2;exact⟨rfl,ba,uu (IH h0 h8 (aV.1 h10) (aV.1 h13)) (fA h15)⟩)⟩⟩,fun h13=>⟨fun h14=>(show ∀{a0:Prop},a0->a0/\a0 from fun g0=>⟨g0,g0⟩) ((cw (h13.symm.trans h14))),fun h14=>(by subst q_2;exact⟨rfl,ba,uu (abD h0 h8 (aV.1 h10) (fA h13)) (fA h13)⟩)⟩⟩⟩⟩,fun h10=>⟨fun h11=>⟨rfl,?a6,fun h12=>⟨fun h13=>(show ∀{a0:Prop},a0->a0/\a0 from fun g0=>⟨g0,g0⟩) (?a7),fun h13 =>?a8⟩⟩,fun h11=>⟨fun h12=>(show ∀{a0:Prop},a0->a0/\a0 from fun g0=>⟨g0,g0⟩) ((cw (h10.symm.trans h12))),fun h12=>⟨rfl,ba,uu (abC h0 h8 (fA h10)) (fA h10)⟩⟩⟩⟩⟩⟩⟩⟩⟩⟩)⟩
 case a=>
  obtain⟨e1,e2,e3⟩:=V4 d r h0;rw[e3];exact⟨rfl,ba,uu (z:=(d,nq l)) e1 e2⟩
 case b|a5=>trivial
 case c|d=>have ht:=aaY (r:=r) hp.2.1;simp only[aF]at*;dsimp only[D]at*;omega
 case e=>refine⟨by decide,by decide,?_⟩;rw[bz];have:=IG hp.1;omega
 case f=>
  refine⟨rfl,[],rfl,rfl,ba,ba,rfl,?_⟩;rw[(sO h0).1,q_1,q_0];simp[jz,n7]
 case g|l|q|v|a0=>rw[cc];exact b8 (Nat.min_le_left _ _) (by decide)
 case h|m|r|w|a1=>
  have hf:=Mq (l:=l) (r:=r) hp.2.2.2 G;have h5000:=yp hp.1;exact⟨hf.nO,b8 hf.o6 (by have:G.length<gR (bT (eK l).1).length 64:=q_3;omega)⟩
 case i|n|s|x|a2=>exact⟨rfl,ba,uu (SR h0 q_2 h10 q_3 (fA h9)) (fA h9)⟩
 case j|o|t|y|a3=>
  have ht:=aaY (r:=r) hp.2.1;have h5000:=yp hp.1;have:G.length<gR (bT (eK l).1).length 64:=q_3;simp only[aF]at*;dsimp only[D]at*;omega
 case k|p|u|z|a4=>
  have hz:=aV.1 h9;refine⟨rfl,G++[I],?_,rfl,ba,ba,rfl,?_⟩
  ·rw[Ms I q_2];exact hz
  ·rw[Ms I q_2,bw]
   refine congrArg (fun z=>((),(r,o,()),z)) ?_;rw[show aL _=aS.nil from congrArg aL hz];simp only[b9,Int.natCast_add,Int.natCast_one,Int.add_assoc];rfl
 case a6|a7|a8=>exact cw (h10.symm.trans h11)
def Tryz.QC:bY Tryz.prog Tryz.B.eT Tryz.X 98 false (aW Tryz.cH [.obj 0,.d (.slice aB)] (fun a x=>a.1.length<=100/\0<=(x.1.1:Int)/\(x.1.1:Int)<=1000000000/\dN x.2 1000000) Tryz.Ee):=
 GX (X:=Tryz.X) Tryz.WD Tryz.abZ Tryz.func160 (by kernel_rfl) Tryz.func98 (by kernel_rfl) (fun(a:CD [.obj 0,.d (.slice aB)]) (x:PD Tryz.cH)=>Tryz.MX a.1 x.1.1 x.1.2.1 x.2) (fun(a:CD [.obj 0,.d (.slice aB)]) (x:PD Tryz.cH) hw hp=>ab1 a.1 x.1.1 x.1.2.1 x.2 hw hp)
def Tryz.Ga:List (FuncId×(Bool×aX)):=[(125,(false,iS Tryz.B [] Tryz.f125 []))]
def Tryz.MY:bL Tryz.prog Tryz.B Tryz.X Tryz.Ga:=
 aM (gz (bJ Tryz.bI) Tryz.func125 (by kernel_rfl) []) (bJ Tryz.bI)
def I1:cU:=[(0,fun st=>{X:=Nat,inv:=fun i=>i<=(bG (.slice aB) st 0).length/\∀j,j<i->(nth aB (bG (.slice aB) st 0) j).1≠Yu .str st (RC st 1 0),bF:=fun i=>(bG (.slice aB) st 0).length-i,aY:=fun i=>[(8,sI i)],keep:=[0,1,7]})]
def Tryz.QD:List (FuncId×(Bool×aX)):=[(124,(false,iS Tryz.B Tryz.Ga Tryz.f124 I1))]
def Tryz.WE:bL Tryz.prog Tryz.B Tryz.X Tryz.QD:=
 aM (gz Tryz.MY Tryz.func124 (by kernel_rfl) I1) (bJ Tryz.bI)
def Tryz.Ef:List (Alt Tryz.cH [.obj 0,.d .str]):=[{bS:=Tryz.cH,res:=[.d (.int .i64)],out:=fun _ x=>x,ret:=fun a x=>(eS x.1.2.1 a.1,())}]
def ab2(s:List UInt8)(r:Int)(o:List (D aB))(d:Dk)(hw:fM [.obj 0,.d .str] (s,())):(cO Tryz.B Tryz.QD Tryz.f96 [] Tryz.cH [.obj 0,.d .str] Tryz.Ef (s,()) ((r,o,()),d)).holds:=by
 refine holds_of (p:=
  let za:=bb o
  let zb:=d.2.2.2.1=d.2.2.2.1
  let zc:=((r,o,()),d)
  let zd:=(eS o s,())
  let ze:=C.ref 1 0
  za<=aI->(∃(x:Nat),(x<=za/\∀(j:Nat),j<x->(nth aB o j).1≠s)/\(0=(↑x:Int)/\True)/\True)/\∀E:Nat,(E<=za/\∀(j:Nat),j<E->(nth aB o j).1≠s)->((decide ((↑E:Int)<(↑za:Int)))=true->(0<=(↑E:Int)/\(↑E:Int)<(↑za:Int))/\(((nth aB o E).1 == s)=true->zb/\True/\zc=zc/\((↑E:Int),())=zd)/\(((nth aB o E).1 == s)=false->aF (↑E:Int)->aF 1->aF ((↑E:Int)+1)/\∃(x':Nat),(x'<=za/\∀(j:Nat),j<x'->(nth aB o j).1≠s)/\za-x'<za-E/\((↑E:Int)+1=(↑x':Int)/\True)/\(s=s/\True)/\(ze=ze/\r=r/\o=o/\True)/\(C.bC 2=C.bC 2/\C.bC 3=C.bC 3/\zb/\d.1.1=d.1.1/\d.1.2.1=d.1.2.1/\True)/\d.2.1=d.2.1/\d.2.2.1=d.2.2.1/\zb/\True))/\((decide ((↑E:Int)<(↑za:Int)))=false->zb/\True/\zc=zc/\((-1:Int),())=zd)) (by kernel_rfl) ?_
 dsimp -iota -proj -eta only;exact fun h0=>⟨(⟨0,⟨b7 _,fun j hj=>absurd hj (cz _)⟩,⟨rfl,ba⟩,ba⟩),fun E q_0=>iL (fun h1=>⟨(by omega),iQ (fun h2=>⟨rfl,ba,rfl,by rw[rU (by omega) q_0.2 h2]⟩) (fun h2 h3 h4=>⟨(by simp only[aF,aI]at*;omega),(⟨E+1,⟨by omega,jD q_0.2 h2⟩,by omega,⟨by omega,ba⟩,(by trivial)⟩)⟩)⟩) (fun h1=>⟨rfl,ba,rfl,by rw[rr fun j hj=>q_0.2 j (by omega)]⟩)⟩
def Tryz.G4:bY Tryz.prog Tryz.B.eT Tryz.X 96 false (aW Tryz.cH [.obj 0,.d .str] (fun _ _=>True) Tryz.Ef):=
 aZ (X:=Tryz.X) Tryz.WE Tryz.func96 (by kernel_rfl) (fun(a:CD [.obj 0,.d .str]) (x:PD Tryz.cH)=>[]) (fun(a:CD [.obj 0,.d .str]) (x:PD Tryz.cH) hw hp=>ab2 a.1 x.1.1 x.1.2.1 x.2 hw)
def Th(l:List (D aG))(hw:eD [.slice aG] l)(hp:(fun l=>l.length<=1000000) l):(cL Tryz.B [] Tryz.f126 [] [.slice aG] [.slice aG] (fun x y=>y=(fun l=>l) x) l).holds:=by
 refine holds_of (p:=
  ∀E:Bool,(0<bb l->E=false)->(E=true->(@bc (List UInt8×Int×Int×Unit)=l))/\(E=false->bb l<=1000000000/\l=l)) (by kernel_rfl) ?_
 exact fun E q_0=>⟨fun h0=>(by simp_all),fun h0=>⟨(by omega),rfl⟩⟩
def Tryz.Ti:bO Tryz.prog Tryz.B.eT Tryz.X 126 [.slice aG] [.slice aG] (fun l=>l.length<=1000000) (fun x y=>y=(fun l=>l) x):=
 bP (X:=Tryz.X) (bJ Tryz.bI) Tryz.func126 (by kernel_rfl) (fun _=>[]) (fun x hw hp=>Th x hw hp)
def Tj(l:List (D aN))(hw:eD [.slice aN] l)(hp:(fun l=>l.length<=1000000) l):(cL Tryz.B [] Tryz.f127 [] [.slice aN] [.slice aN] (fun x y=>y=(fun l=>l) x) l).holds:=by
 refine holds_of (p:=
  ∀E:Bool,(0<bb l->E=false)->(E=true->(@bc (Int×Int×Int×Unit)=l))/\(E=false->bb l<=1000000000/\l=l)) (by kernel_rfl) ?_
 exact fun E q_0=>⟨fun h0=>(by simp_all),fun h0=>⟨(by omega),rfl⟩⟩
def Tryz.Tk:bO Tryz.prog Tryz.B.eT Tryz.X 127 [.slice aN] [.slice aN] (fun l=>l.length<=1000000) (fun x y=>y=(fun l=>l) x):=
 bP (X:=Tryz.X) (bJ Tryz.bI) Tryz.func127 (by kernel_rfl) (fun _=>[]) (fun x hw hp=>Tj x hw hp)
def Tryz.I2:List (FuncId×(Bool×aX)):=[(126,(true,bX [.slice aG] [.slice aG] (fun l=>l.length<=1000000) (fun l=>l))),(127,(true,bX [.slice aN] [.slice aN] (fun l=>l.length<=1000000) (fun l=>l)))]
def Tryz.OX:bL Tryz.prog Tryz.B Tryz.X Tryz.I2:=
 aM (aE Tryz.Ti) (aM (aE Tryz.Tk) (bJ Tryz.bI))
def WG(e:D aB)(hw:eD [aB] e)(hp:(fun e=>e.2.1.length<=1000000/\e.2.2.1.length<=1000000) e):(cL Tryz.B Tryz.I2 Tryz.f97 [] [aB] [aB] (fun x y=>y=(fun e=>e) x) e).holds:=by
 refine holds_of (p:=
  bb e.2.1<=1000000/\bb e.2.2.1<=1000000/\e=e) (by kernel_rfl) ?_
 refine⟨?a,?b,rfl⟩
 case a|b=>omega
def Tryz.I3:bO Tryz.prog Tryz.B.eT Tryz.X 97 [aB] [aB] (fun e=>e.2.1.length<=1000000/\e.2.2.1.length<=1000000) (fun x y=>y=(fun e=>e) x):=
 bP (X:=Tryz.X) Tryz.OX Tryz.func97 (by kernel_rfl) (fun _=>[]) (fun x hw hp=>WG x hw hp)
def Tryz.spZ13:Bool×aX:=(false,iS Tryz.B [] Tryz.f95 [])
def Tryz.spZ14:Bool×aX:=(false,aW Tryz.cH [.obj 0,.d .str] (fun _ _=>True) Tryz.Ef)
def Tryz.spZ15:Bool×aX:=(true,bX [aB] [aB] (fun e=>e.2.1.length<=1000000/\e.2.2.1.length<=1000000) (fun e=>e))
def Tryz.spZ16:Bool×aX:=(false,aW Tryz.cH [.obj 0,.d (.slice aB)] (fun a x=>a.1.length<=100/\0<=(x.1.1:Int)/\(x.1.1:Int)<=1000000000/\dN x.2 1000000) Tryz.Ee)
def Tryz.MZ:List (FuncId×(Bool×aX)):=[(30,Tryz.spZ6),(95,Tryz.spZ13),(96,Tryz.spZ14),(97,Tryz.spZ15),(98,Tryz.spZ16)]
def Tryz.Tl:bL Tryz.prog Tryz.B Tryz.X Tryz.MZ:=
 aM (aE Tryz.IW) (aM (gz (bJ Tryz.bI) Tryz.func95 (by kernel_rfl) []) (aM (Tryz.G4) (aM (aE Tryz.I3) (aM (Tryz.QC) (bJ Tryz.bI)))))
def Tryz.G5:List (Alt Tryz.cH [.obj 0,.d aB]):=[{bS:=Tryz.cH,res:=[.d .err],out:=fun a x=>(mT x a.1).1,ret:=fun a x=>(aL (mT x a.1).2,())}]
def ZW(e:D aB)(r:Int)(o:List (D aB))(d:Dk)(hw:fM [.obj 0,.d aB] (e,()))(hp:(fun a x=>(a.1.2.1.length<=1000000/\a.1.2.2.1.length<=1000000)/\x.1.2.1.length<=99/\0<=(x.1.1:Int)/\(x.1.1:Int)<=1000000000/\dN x.2 1000000) (e,()) ((r,o,()),d)):(cO Tryz.B Tryz.MZ Tryz.f52 [] Tryz.cH [.obj 0,.d aB] Tryz.G5 (e,()) ((r,o,()),d)).holds:=by
 refine holds_of (p:=
  let za:=aL (bE e)
  let zb:=d.2.2.2.1=d.2.2.2.1
  let zc:=(r,o,())
  let zd:=mT (zc,d) e
  let ze:=(zc,d)=zd.1
  let zf:=(aL zd.2,())
  let zg:=bb o
  let zh:=eS o e.1
  let zi:=decide (zh>=0)
  let zj:=bb e.2.1<=1000000/\bb e.2.2.1<=1000000
  let zk:=0<=zh
  let zl:=bb (@bc (List UInt8×List (List UInt8×Int×Int×Unit)×List (Int×Int×Int×Unit)×Unit))
  let zm:=zb/\True/\ze/\(aS.no 2,())=zf
  let zn:=@bc (List UInt8×List (List UInt8×Int×Int×Unit)×List (Int×Int×Int×Unit)×Unit)++[e]
  let zo:=0<=r/\r<=1000000000/\dN d 1000000
  let zp:=gy d r zn
  let zq:=zp.1.2.2.2.1
  let zr:=r+1
  let zs:=db o (bd zh) e
  let zt:=gy d r zs
  let zu:=zt.1.2.2.2.1
  let zv:=o++[e]
  let zw:=gy d r zv
  let zx:=zw.1.2.2.2.1
  True/\((!aS.isNil za)=true->zb/\True/\ze/\(za,())=zf)/\((!aS.isNil za)=false->∀E:Bool,(0<zg->E=false)->(E=true->zb/\True/\(True->(zi=true->zj/\(zk/\zh<(↑zl:Int))/\False)/\(zi=false->zl<=aI->(((↑zl:Int) == 3)=true->zm)/\(((↑zl:Int) == 3)=false->zj/\(@bc (List UInt8×List (List UInt8×Int×Int×Unit)×List (Int×Int×Int×Unit)×Unit)=@bc (List UInt8×List (List UInt8×Int×Int×Unit)×List (Int×Int×Int×Unit)×Unit)/\zl+bb [e]<=1000000000)/\zb/\(bb zn<=100/\zo)/\(True->zq=zq/\True/\(if zp.2=0 then(zr,zn,())else zc,zp.1)=zd.1/\(aL zp.2,())=zf)))))/\(E=false->zg<=1000000000/\zb/\True/\(True->(zi=true->zj/\(zk/\zh<(↑zg:Int))/\bd zh<zg/\zb/\(bb zs<=100/\zo)/\(True->zu=zu/\True/\(if zt.2=0 then(zr,zs,())else zc,zt.1)=zd.1/\(aL zt.2,())=zf))/\(zi=false->zg<=aI->(((↑zg:Int) == 3)=true->zm)/\(((↑zg:Int) == 3)=false->zj/\(o=o/\zg+bb [e]<=1000000000)/\zb/\(bb zv<=100/\zo)/\(True->zx=zx/\True/\(if zw.2=0 then(zr,zv,())else zc,zw.1)=zd.1/\(aL zw.2,())=zf))))))) (by kernel_rfl) ?_
 dsimp -iota -proj -eta only;dsimp only at hp;refine⟨ba,iB (fun h0=>(by rw[II (fA h0)];exact⟨rfl,ba,rfl,rfl⟩)) (fun h0 E q_0=>⟨fun h1=>⟨rfl,ba,fun h2=>iE (fun h3=>⟨?a,(by exfalso;have:=Bf q_0 h1;subst this;exact qI _ h3),(by have:=Bf q_0 h1;subst this;exact qI _ h3)⟩) (fun h3 h4=>⟨fun h5=>absurd (show false=true from h5) (by decide),fun h5=>⟨?b,?c,rfl,?d,fun h6 =>?e⟩⟩)⟩,fun h1=>⟨?f,rfl,ba,fun h2=>iE (fun h3=>⟨?g,⟨by omega,(rV o e.1).1⟩,(by have:=(rV o e.1).1;omega),rfl,?h,fun h4=>(by rw[Qq (x:=((r,o,()),d)) (aV.1 h0) (by omega)];exact⟨rfl,ba,rfl,rfl⟩)⟩) (fun h3 h4=>iQ (fun h5=>(by rw[Mt (x:=((r,o,()),d)) (aV.1 h0) (show ¬0<=eS o e.1 by omega) h5];exact⟨rfl,ba,rfl,rfl⟩)) (fun h5=>⟨?i,(by have h99:o.length<=99:=hp.2.1;exact⟨rfl,by rw[b9];omega⟩),rfl,?j,fun h6=>(by rw[GY (x:=((r,o,()),d)) (aV.1 h0) (show ¬0<=eS o e.1 by omega) h5];exact⟨rfl,ba,rfl,rfl⟩)⟩))⟩⟩)⟩
 case a|b|f|g|i=>omega
 case c|d|j=>simp_all
 case e=>
  have ho:=Bf q_0 h1;subst ho;rw[GY (x:=((r,[],()),d)) (aV.1 h0) (qI _) (show ¬((([]:List (D aB)).length:Int)=3)from by decide)];exact⟨rfl,ba,rfl,rfl⟩
 case h=>refine⟨?_,hp.2.2.1,hp.2.2.2.1,hp.2.2.2.2⟩;rw[dT];exact b8 hp.2.1 (by decide)
def Tryz.ZX:bY Tryz.prog Tryz.B.eT Tryz.X 52 false (aW Tryz.cH [.obj 0,.d aB] (fun a x=>(a.1.2.1.length<=1000000/\a.1.2.2.1.length<=1000000)/\x.1.2.1.length<=99/\0<=(x.1.1:Int)/\(x.1.1:Int)<=1000000000/\dN x.2 1000000) Tryz.G5):=
 aZ (X:=Tryz.X) Tryz.Tl Tryz.func52 (by kernel_rfl) (fun(a:CD [.obj 0,.d aB]) (x:PD Tryz.cH)=>[]) (fun(a:CD [.obj 0,.d aB]) (x:PD Tryz.cH) hw hp=>ZW a.1 x.1.1 x.1.2.1 x.2 hw hp)
def Tryz.WH:List (FuncId×(Bool×aX)):=[(96,Tryz.spZ14),(97,Tryz.spZ15)]
def Tryz.ZY:bL Tryz.prog Tryz.B Tryz.X Tryz.WH:=
 aM (Tryz.G4) (aM (aE Tryz.I3) (bJ Tryz.bI))
def Tryz.G6:List (Alt Tryz.cH [.obj 0,.d .str]):=[{bS:=Tryz.cH,res:=[.d aB,.d .bool],out:=fun _ x=>x,ret:=fun a x=>((dA x.1.2.1 a.1).1,(dA x.1.2.1 a.1).2,())}]
def adn(s:List UInt8)(r:Int)(o:List (D aB))(d:Dk)(hw:fM [.obj 0,.d .str] (s,()))(hp:(fun _ x=>∀i,i<x.1.2.1.length->(nth aB x.1.2.1 i).2.1.length<=1000000/\(nth aB x.1.2.1 i).2.2.1.length<=1000000) (s,()) ((r,o,()),d)):(cO Tryz.B Tryz.WH Tryz.f55 [] Tryz.cH [.obj 0,.d .str] Tryz.G6 (s,()) ((r,o,()),d)).holds:=by
 refine holds_of (p:=
  let za:=d.2.2.2.1=d.2.2.2.1
  let zb:=eS o s
  let zc:=((r,o,()),d)
  let zd:=((dA o s).1,(dA o s).2,())
  let ze:=nth aB o (bd zb)
  za/\True/\(True->((decide (zb<0))=true->za/\True/\zc=zc/\(([],[],[],()),false,())=zd)/\((decide (zb<0))=false->(0<=zb/\zb<(↑(bb o):Int))/\(bb ze.2.1<=1000000/\bb ze.2.2.1<=1000000)/\za/\True/\zc=zc/\(ze,true,())=zd))) (by kernel_rfl) ?_
 dsimp -iota -proj -eta only;dsimp only at hp;exact⟨rfl,ba,fun h0=>iL (fun h1=>(by rw[FY (by omega)];exact⟨rfl,ba,rfl,rfl⟩)) (fun h1=>⟨⟨by omega,(rV o s).1⟩,(hp _ (by have:=(rV o s).1;omega)),(by rw[wT (by omega)];exact⟨rfl,ba,rfl,rfl⟩)⟩)⟩
def Tryz.ado:bY Tryz.prog Tryz.B.eT Tryz.X 55 false (aW Tryz.cH [.obj 0,.d .str] (fun _ x=>∀i,i<x.1.2.1.length->(nth aB x.1.2.1 i).2.1.length<=1000000/\(nth aB x.1.2.1 i).2.2.1.length<=1000000) Tryz.G6):=
 aZ (X:=Tryz.X) Tryz.ZY Tryz.func55 (by kernel_rfl) (fun(a:CD [.obj 0,.d .str]) (x:PD Tryz.cH)=>[]) (fun(a:CD [.obj 0,.d .str]) (x:PD Tryz.cH) hw hp=>adn a.1 x.1.1 x.1.2.1 x.2 hw hp)
def Tryz.M0(o:List (D aB)):cU:=[
 (0,fun st=>{X:=Nat,inv:=fun i=>i<=o.length,bF:=fun i=>o.length-i,aY:=fun i=>[(11,sI i),(3,.s (.one (.app .str (dH (o.take i)) (aT st 3))))],aH:=fun i=>[(aT st 3,.tok .str (dH (o.take i)))],keep:=[2,9,10],eA:=[aT st 3]})]
def Tryz.Br:List (Alt Tryz.cH [.obj 0]):=[{bS:=Tryz.cH,res:=[.d (.slice .str)],out:=fun _ x=>x,ret:=fun _ x=>(dH x.1.2.1,())}]
def ZZ(r:Int)(o:List (D aB))(d:Dk)(hw:fM [.obj 0] ())(hp:(fun _ x=>x.1.2.1.length<=1000000) () ((r,o,()),d)):(cO (jl Tryz.B [19]) [] Tryz.f59 ((fun(r:Int) (o:List (D aB)) (d:Dk)=>Tryz.M0 o) r o d) Tryz.cH [.obj 0] Tryz.Br () ((r,o,()),d)).holds:=by
 refine holds_of (p:=
  let za:=bb o
  let zb:=fun(E:Nat)=>dH (bf E o)
  let zc:=fun(E:Nat)=>zb E++[(nth aB o E).1]
  let zd:=C.ref 1 0
  let ze:=d.2.2.2.1=d.2.2.2.1
  let zf:=((r,o,()),d)
  za<=aI->(∃(x:Nat),x<=za/\(0=(↑x:Int)/\@bc (List UInt8)=dH (bf x o)/\True)/\@bc (List UInt8)=dH (bf x o)/\True)/\∀E:Nat,E<=za->((decide ((↑E:Int)<(↑za:Int)))=true->(0<=(↑E:Int)/\(↑E:Int)<(↑za:Int))/\(zb E=zb E/\bb (zb E)+bb [(nth aB o E).1]<=1000000000)/\(aF (↑E:Int)->aF 1->aF ((↑E:Int)+1)/\∃(x':Nat),x'<=za/\za-x'<za-E/\((↑E:Int)+1=(↑x':Int)/\zc E=dH (bf x' o)/\True)/\zc E=dH (bf x' o)/\@bc (List UInt8)=@bc (List UInt8)/\(zd=zd/\r=r/\o=o/\True)/\(C.bC 2=C.bC 2/\C.bC 3=C.bC 3/\ze/\d.1.1=d.1.1/\d.1.2.1=d.1.2.1/\True)/\d.2.1=d.2.1/\d.2.2.1=d.2.2.1/\ze/\True))/\((decide ((↑E:Int)<(↑za:Int)))=false->ze/\True/\zf=zf/\(zb E,())=(dH o,()))) (by kernel_rfl) ?_
 dsimp -iota -proj -eta only;dsimp only at hp;refine fun h0=>⟨(⟨0,b7 _,⟨rfl,rfl,ba⟩,rfl,ba⟩),fun E q_0=>iL (fun h1=>⟨(by omega),?a,fun h2 h3=>⟨(by simp only[aF,aI]at*;omega),(⟨E+1,by omega,by omega,⟨by omega,sk (by omega),ba⟩,sk (by omega),(by trivial)⟩)⟩⟩) (fun h1=>(by rw[dd (by omega)];exact⟨rfl,ba,rfl,rfl⟩))⟩
 case a=>refine⟨rfl,?_⟩;rw[FX,cc,b9];have:o.length<=1000000:=hp;omega
def Tryz.Z0:bY Tryz.prog Tryz.B.eT Tryz.X 59 false (aW Tryz.cH [.obj 0] (fun _ x=>x.1.2.1.length<=1000000) Tryz.Br):=
 aZ (B:=(jl Tryz.B [19])) (X:=Tryz.X) (bL.hint (l:=[19]) (bJ Tryz.bI)) Tryz.func59 (by kernel_rfl) (fun(a:CD [.obj 0]) (x:PD Tryz.cH)=>(fun(r:Int) (o:List (D aB)) (d:Dk)=>Tryz.M0 o) x.1.1 x.1.2.1 x.2) (fun(a:CD [.obj 0]) (x:PD Tryz.cH) hw hp=>ZZ x.1.1 x.1.2.1 x.2 hw hp)
def Tryz.spZ17:Bool×aX:=(true,bX [.str] [.int .i64,.err] (fun s=>s.length<=281474976710656) (fun s=>eX s))
def Tryz.spZ18:Bool×aX:=(true,bX [.str,.str] [.str,.bool] (fun _=>True) (fun x=>(cf x.1 x.2,c7 x.1 x.2)))
def Tryz.spZ19:Bool×aX:=(true,bX [.str,.str] [.str] (fun _=>True) (fun x=>bt x.1 x.2))
def Tryz.spZ20:Bool×aX:=(true,bX [.str,.str] [.slice .str] (fun x=>x.1.length<4294967281/\x.2.length=1) (fun x=>parts (Lv x.2) x.1))
def Tryz.Gb:List (FuncId×(Bool×aX)):=[(61,Tryz.spZ5),(106,Tryz.spZ17),(145,Tryz.spZ18),(64,Tryz.spZ19),(63,Tryz.spZ20)]
def Tryz.M1:bL Tryz.prog Tryz.B Tryz.X Tryz.Gb:=
 aM (aE Tryz.qA) (aM (aE Tryz.uw) (aM (aE Tryz.pf) (aM (aE Tryz.n9) (aM (aE Tryz.ux) (bJ Tryz.bI)))))
def Gc(l:List (List UInt8)):cU:=[
 (0,fun st=>{X:=Nat,inv:=fun i=>i<=l.length/\∀j,j<i->(dK (nth .str l j)).isNone=false,bF:=fun i=>l.length-i,aY:=fun i=>[(11,sI i),(4,.s (.one (.app (.int .i64) (nM (l.take i)) (aT st 4))))],aH:=fun i=>[(aT st 4,.tok (.int .i64) (nM (l.take i)))],keep:=[9,10],eA:=[aT st 4]})]
def OY(l:List (List UInt8))(hw:eD [.slice .str] l)(hp:(fun l=>l.length<=1000000/\∀i,(nth .str l i).length<=1000000) l):(cL Tryz.B Tryz.Gb Tryz.f65 (Gc l) [.slice .str] [.slice (.int .i64),.bool] (fun x y=>y=(fun l=>cG l) x) l).holds:=by
 refine holds_of (p:=
  let za:=bb l
  let zb:=([],false)=cG l
  let zc:=fun(E:Nat)=>nM (bf E l)
  let zd:=fun(E:Nat)=>zc E++[(eX (nth Ty.str l E)).1]
  za<=aI->(∃(x:Nat),(x<=za/\∀(j:Nat),j<x->ck (dK (nth Ty.str l j))=false)/\(0=(↑x:Int)/\@bc Int=nM (bf x l)/\True)/\@bc Int=nM (bf x l)/\True)/\∀E:Nat,(E<=za/\∀(j:Nat),j<E->ck (dK (nth Ty.str l j))=false)->((decide ((↑E:Int)<(↑za:Int)))=true->(0<=(↑E:Int)/\(↑E:Int)<(↑za:Int))/\bb (nth Ty.str l E)<=281474976710656/\((!aS.isNil (eX (nth Ty.str l E)).2)=true->zb)/\((!aS.isNil (eX (nth Ty.str l E)).2)=false->True/\((!bo (eX (nth Ty.str l E)).1 == nth Ty.str l E)=true->zb)/\((!bo (eX (nth Ty.str l E)).1 == nth Ty.str l E)=false->(zc E=zc E/\bb (zc E)+bb [(eX (nth Ty.str l E)).1]<=1000000000)/\(aF (↑E:Int)->aF 1->aF ((↑E:Int)+1)/\∃(x':Nat),(x'<=za/\∀(j:Nat),j<x'->ck (dK (nth Ty.str l j))=false)/\za-x'<za-E/\((↑E:Int)+1=(↑x':Int)/\zd E=nM (bf x' l)/\True)/\zd E=nM (bf x' l)/\@bc Int=@bc Int/\True))))/\((decide ((↑E:Int)<(↑za:Int)))=false->(zc E,true)=cG l)) (by kernel_rfl) ?_
 dsimp -iota -proj -eta only;refine fun h0=>⟨(⟨0,⟨b7 _,fun j hj=>absurd hj (cz _)⟩,⟨rfl,rfl,ba⟩,rfl,ba⟩),fun E q_0=>iL (fun h1=>⟨(by omega),(b8 (hp.2 _) (by decide)),iB (fun h2=>(CX (i:=E) (by omega) (by rw[sJ,h2];rfl))) (fun h2=>⟨ba,⟨fun h3 =>?a,fun h3=>⟨?b,fun h4 h5=>⟨?c,?d⟩⟩⟩⟩)⟩) (fun h1=>(SH (i:=E) (by omega) (fun j hj _=>q_0.2 j hj)))⟩
 case a=>
  simp only[bl,reduceCtorEq]at h3;exact CX (i:=E) (by omega) (by rw[sJ,decide_eq_false h3];simp)
 case b=>
  simp only[bl,reduceCtorEq]at h3;exact⟨rfl,by unfold nM;simp only[bz,cc,b9];omega⟩
 case c=>
  simp only[bl,reduceCtorEq]at h3;simp only[aF,aI]at*;omega
 case d=>
  simp only[bl,reduceCtorEq]at h3;exact⟨E+1,⟨by omega,jD q_0.2 (by rw[sJ,h2,decide_eq_true h3];rfl)⟩,by omega,⟨by omega,(FO (by omega)).symm,ba⟩,(FO (by omega)).symm,(by trivial)⟩
def Tryz.OZ:bO Tryz.prog Tryz.B.eT Tryz.X 65 [.slice .str] [.slice (.int .i64),.bool] (fun l=>l.length<=1000000/\∀i,(nth .str l i).length<=1000000) (fun x y=>y=(fun l=>cG l) x):=
 bP (X:=Tryz.X) Tryz.M1 Tryz.func65 (by kernel_rfl) (fun x=>Gc x) (fun x hw hp=>OY x hw hp)
def Tryz.I4:List (FuncId×(Bool×aX)):=[(61,Tryz.spZ5),(106,Tryz.spZ17),(145,Tryz.spZ18),(64,Tryz.spZ19),(63,Tryz.spZ20),(65,(true,bX [.slice .str] [.slice (.int .i64),.bool] (fun l=>l.length<=1000000/\∀i,(nth .str l i).length<=1000000) (fun l=>cG l))),(29,Tryz.spZ9)]
def Tryz.O0:bL Tryz.prog Tryz.B Tryz.X Tryz.I4:=
 aM (aE Tryz.qA) (aM (aE Tryz.uw) (aM (aE Tryz.pf) (aM (aE Tryz.n9) (aM (aE Tryz.ux) (aM (aE Tryz.OZ) (aM (aE Tryz.MS) (bJ Tryz.bI)))))))
def Tryz.I5(s:List UInt8):cU:=[
 (300004,fun st=>{X:=List Int×Bool,inv:=fun y=>s4 (parts 32 (bt s [10])) y,bF:=fun _=>0,aY:=fun y=>[(5,sD (.slice (.int .i64)) y.1),(6,sB y.2)],keep:=[0,2,3,4]}),
 (300005,fun st=>{X:=Bool,inv:=fun c=>c=false↔rS (parts 32 (bt s [10])),bF:=fun _=>0,aY:=fun c=>[(69,sB c)],keep:=[0,2,3,4,5]}),
 (300011,fun st=>{X:=List (List UInt8),inv:=fun x=>mS (parts 32 (bt s [10])) x (bd (bG (.int .i64) st 8)),bF:=fun _=>0,aY:=fun x=>[(9,sD (.slice .str) x)],keep:=[0,2,3,4,5,7,8,82,83,84,85]}),
 (0,fun st=>{X:=Nat,inv:=fun i=>i<=(bd (nth (.int .i64) (bG (.slice (.int .i64)) st 5) 0))+(bd (nth (.int .i64) (bG (.slice (.int .i64)) st 5) 1)),bF:=fun i=>(bd (nth (.int .i64) (bG (.slice (.int .i64)) st 5) 0))+(bd (nth (.int .i64) (bG (.slice (.int .i64)) st 5) 1))-i,aY:=fun i=>[(83,sI i)],aH:=fun i=>[(aT st 7,.cells 48 [.d .str (nth .str (parts 32 (bt s [10])) 0),.app aG (eW dQ (parts 32 (bt s [10])) (ch i (bd (nth (.int .i64) (bG (.slice (.int .i64)) st 5) 0)))) (iy st (aT st 7) 1),.app aN (dL dQ (parts 32 (bt s [10])) (bd (nth (.int .i64) (bG (.slice (.int .i64)) st 5) 0)) (i-(bd (nth (.int .i64) (bG (.slice (.int .i64)) st 5) 0)))) (iy st (aT st 7) 2)]),(iy st (aT st 7) 1,.tok aG (eW dQ (parts 32 (bt s [10])) (ch i (bd (nth (.int .i64) (bG (.slice (.int .i64)) st 5) 0))))),(iy st (aT st 7) 2,.tok aN (dL dQ (parts 32 (bt s [10])) (bd (nth (.int .i64) (bG (.slice (.int .i64)) st 5) 0)) (i-(bd (nth (.int .i64) (bG (.slice (.int .i64)) st 5) 0)))))],keep:=[0,2,4,5,7,82],eA:=[aT st 7,iy st (aT st 7) 1,iy st (aT st 7) 2]})]
def WI(s:List UInt8)(hw:eD [.str] s)(hp:(fun s=>s.length<=100000) s):(cL Tryz.B Tryz.I4 Tryz.f32 (Tryz.I5 s) [.str] [aB,.err] (fun x y=>y=(fun s=>iW s) x) s).holds:=by
 refine holds_of (p:=
  let za:=bt s [(10:UInt8)]
  let zb:=parts (32:UInt8) za
  let zc:=bb zb<=aI
  let zd:=(↑(bb zb):Int)
  let ze:=(([],[],[],()),aS.no (4:Int))=iW s
  let zf:=(0:Int)<=(1:Int)
  let zg:=bk 1 (bf 3 zb)
  let zh:=@bc (List UInt8×Int×Int×Unit)=@bc (List UInt8×Int×Int×Unit)
  let zi:=@bc (Int×Int×Int×Unit)=@bc (Int×Int×Int×Unit)
  let zj:=(@bc UInt8=@bc UInt8/\zh/\zi/\True)/\zi/\zh/\True
  let zk:=rS zb
  let zl:=∃(x':Bool),(x'=false↔zk)/\(true=x'/\True)/\zj
  let zm:=(0:Int)<=(0:Int)
  let zn:=fun(E:List Int×Bool)=>zm/\(0:Int)<(↑(bb E.1):Int)
  let zo:=Ty.int bn
  let zp:=fun(E:List Int×Bool)=>nth zo E.1 0
  let zq:=fun(E:List Int×Bool)=>zf/\(1:Int)<(↑(bb E.1):Int)
  let zr:=fun(E:List Int×Bool)=>nth zo E.1 1
  let zs:=fun(E:List Int×Bool)=>aF (zp E+zr E)
  let zt:=aF (3:Int)
  let zu:=fun(F:Int)=>(3:Int)+F
  let zv:=fun(E:List Int×Bool)=>bd (zp E)
  let zw:=fun(E:List Int×Bool)=>zv E+bd (zr E)
  let zx:=nth Ty.str zb 0
  let zy:=zx=zx
  let zz:=fun(G:Nat)=>aF (↑G:Int)
  let zaa:=fun(G:Nat) (E:List Int×Bool)=>eW dQ zb (ch G (zv E))
  let zab:=fun(E:List Int×Bool) (G:Nat)=>dL dQ zb (zv E) (G-zv E)
  let zac:=zi/\zh/\zj
  let zad:=fun(I:List (List UInt8))=>(↑(bb I):Int)
  let zae:=fun(I:List (List UInt8))=>bk 1 (bf (bb I) I)
  let zaf:=fun(I:List (List UInt8))=>(cG (zae I)).1
  let zag:=fun(I:List (List UInt8))=>[(nth Ty.str I 0,nth zo (zaf I) 0,nth zo (zaf I) 1,())]
  let zah:=fun(G:Nat)=>(↑G:Int)+(1:Int)
  let zai:=fun(I:List (List UInt8))=>(cG I).1
  let zaj:=fun(I:List (List UInt8))=>(↑(bb (zai I)):Int)
  let zak:=fun(I:List (List UInt8))=>[(nth zo (zai I) 0,nth zo (zai I) 1,nth zo (zai I) 2,())]
  True/\(bb za<4294967281/\bb [(32:UInt8)]=1)/\(zc->((decide (zd<(3:Int)))=true->ze)/\((decide (zd<(3:Int)))=false->((zf/\(1:Int)<=(3:Int)/\(3:Int)<=zd)/\(bb zg<=1000000/\∀(i:Nat),bb (nth Ty.str zg i)<=1000000)/\∃(x':List Int×Bool),s4 zb x'/\((cG zg).1=x'.1/\(cG zg).2=x'.2/\True)/\zj)/\∀E:List Int×Bool,s4 zb E->(((!E.2)=true->zl)/\((!E.2)=false->zn E/\((decide (zp E<(0:Int)))=true->zl)/\((decide (zp E<(0:Int)))=false->zn E/\((decide (zp E > (6:Int)))=true->zl)/\((decide (zp E > (6:Int)))=false->zq E/\((decide (zr E<(0:Int)))=true->zl)/\((decide (zr E<(0:Int)))=false->zq E/\((decide (zr E > (36:Int)))=true->zl)/\((decide (zr E > (36:Int)))=false->zc->zn E/\zq E/\(aF (zp E)->aF (zr E)->zs E/\∀F:Int,F=(3:Int)*(zp E+zr E)->zt->zs E->aF F/\(zt->aF F->aF (zu F)/\∃(x':Bool),(x'=false↔zk)/\((zd != zu F)=x'/\True)/\zj))))))))/\∀F:Bool,(F=false↔zk)->(F=true->ze)/\(F=false->(zm/\(0:Int)<zd)/\zn E/\zq E/\(aF (zp E)->aF (zr E)->zs E/\(∃(x:Nat),x<=zw E/\((0:Int)=(↑x:Int)/\True)/\(zy/\@bc (List UInt8×Int×Int×Unit)=eW dQ zb (ch x (zv E))/\@bc (Int×Int×Int×Unit)=dL dQ zb (zv E) (x-zv E)/\True)/\@bc (List UInt8×Int×Int×Unit)=eW dQ zb (ch x (zv E))/\@bc (Int×Int×Int×Unit)=dL dQ zb (zv E) (x-zv E)/\True)/\∀G:Nat,G<=zw E->((decide ((↑G:Int)<zp E+zr E))=true->(∀I:Int,I=(3:Int)*(↑G:Int)->zt->zz G->aF I/\(zt->aF I->aF (zu I)/\∀K:Int,K=(3:Int)*(↑G:Int)->zt->zz G->aF K/\(aF (6:Int)->aF K->aF ((6:Int)+K)/\((0:Int)<=zu I/\zu I<=(6:Int)+K/\(6:Int)+K<=zd)/\∃(x':List (List UInt8)),mS zb x' G/\(bk (bd (zu I)) (bf (bd ((6:Int)+K)) zb)=x'/\True)/\(zy/\zaa G E=zaa G E/\zab E G=zab E G/\True)/\zaa G E=zaa G E/\zab E G=zab E G/\zac)))/\∀I:List (List UInt8),mS zb I G->zn E/\((decide ((↑G:Int)<zp E))=true->(zf/\(1:Int)<=zad I/\zad I<=zad I)/\(bb (zae I)<=1000000/\∀(i:Nat),bb (nth Ty.str (zae I) i)<=1000000)/\((!(cG (zae I)).2)=true->ze)/\((!(cG (zae I)).2)=false->(zm/\(0:Int)<zad I)/\(zm/\(0:Int)<(↑(bb (zaf I)):Int))/\(zf/\(1:Int)<(↑(bb (zaf I)):Int))/\(zaa G E=zaa G E/\bb (zaa G E)+bb (zag I)<=1000000000)/\(zz G->aF (1:Int)->aF (zah G)/\∃(x':Nat),x'<=zw E/\zw E-x'<zw E-G/\(zah G=(↑x':Int)/\True)/\(zy/\zaa G E++zag I=eW dQ zb (ch x' (zv E))/\zab E G=dL dQ zb (zv E) (x'-zv E)/\True)/\zaa G E++zag I=eW dQ zb (ch x' (zv E))/\zab E G=dL dQ zb (zv E) (x'-zv E)/\zac)))/\((decide ((↑G:Int)<zp E))=false->(bb I<=1000000/\∀(i:Nat),bb (nth Ty.str I i)<=1000000)/\((!(cG I).2)=true->ze)/\((!(cG I).2)=false->(zm/\(0:Int)<zaj I)/\(zf/\(1:Int)<zaj I)/\((0:Int)<=(2:Int)/\(2:Int)<zaj I)/\(zab E G=zab E G/\bb (zab E G)+bb (zak I)<=1000000000)/\(zz G->aF (1:Int)->aF (zah G)/\∃(x':Nat),x'<=zw E/\zw E-x'<zw E-G/\(zah G=(↑x':Int)/\True)/\(zy/\zaa G E=eW dQ zb (ch x' (zv E))/\zab E G++zak I=dL dQ zb (zv E) (x'-zv E)/\True)/\zaa G E=eW dQ zb (ch x' (zv E))/\zab E G++zak I=dL dQ zb (zv E) (x'-zv E)/\zac))))/\((decide ((↑G:Int)<zp E+zr E))=false->True/\((!aS.isNil (dY (zx,zaa G E,zab E G,())).2)=true->ze)/\((!aS.isNil (dY (zx,zaa G E,zab E G,())).2)=false->((!(dY (zx,zaa G E,zab E G,())).1 == s)=true->ze)/\((!(dY (zx,zaa G E,zab E G,())).1 == s)=false->((zx,zaa G E,zab E G,()),aS.nil)=iW s)))))))) (by kernel_rfl) ?_
 dsimp -iota -proj -eta only;refine⟨ba,(by have:=BY s [10];exact⟨by omega,rfl⟩),fun h0=>iL (fun h1=>(L9 (by omega))) (fun h1=>⟨⟨(by trivial),(aby hp 1 3),(⟨_,abA (by omega),⟨rfl,rfl,ba⟩,(by trivial)⟩)⟩,fun E q_0=>⟨iB (fun h2=>(⟨_,L8 (q_0.2 h2),⟨rfl,ba⟩,(by trivial)⟩)) (fun h2=>⟨?a,iL (fun h3=>(⟨_,L8 (fun hd=>by have k0:=q_0.k0 hd;have:=hd.a0;omega),⟨rfl,ba⟩,(by trivial)⟩)) (fun h3=>⟨?b,iL (fun h4=>(⟨_,L8 (fun hd=>by have k0:=q_0.k0 hd;have:=hd.a6;omega),⟨rfl,ba⟩,(by trivial)⟩)) (fun h4=>⟨?c,iL (fun h5=>(⟨_,L8 (fun hd=>by have k1:=q_0.k1 hd;have:=hd.b0;omega),⟨rfl,ba⟩,(by trivial)⟩)) (fun h5=>⟨?d,iL (fun h6=>(⟨_,L8 (fun hd=>by have k1:=q_0.k1 hd;have:=hd.gK;omega),⟨rfl,ba⟩,(by trivial)⟩)) (fun h6 h7=>⟨?e,?f,fun h8 h9=>⟨?g,fun F q_1 h10 h11=>⟨?h,fun h12 h13=>⟨?i,(⟨_,adb (q_0.1 h2).2.1 (q_0.1 h2).2.2 (q_0.l0 h2) (q_0.l1 h2) (by omega) (by omega) (by omega) (by omega) q_1,⟨rfl,ba⟩,(by trivial)⟩)⟩⟩⟩⟩)⟩)⟩)⟩)⟩),fun F q_1=>⟨fun h2=>(OE (fun hd=>by rw[q_1.2 hd]at h2;cases h2)),fun h2=>⟨(by omega),?j,?k,fun h3 h4=>⟨?l,(⟨0,b7 _,⟨rfl,ba⟩,⟨rfl,VK _ _ _,aaT _ _ _,ba⟩,VK _ _ _,aaT _ _ _,(by trivial)⟩),fun G q_2=>iL (fun h5=>⟨fun I q_3 h6 h7=>⟨?m,fun h8 h9=>⟨?n,fun K q_4 h10 h11=>⟨?o,fun h12 h13=>⟨?p,(by have hd:=(q_1.1 h2);have k0:=q_0.k0 hd;have k1:=q_0.k1 hd;have a0:=hd.a0;have a6:=hd.a6;have b0:=hd.b0;have gK:=hd.gK;have hl:=hd.len;omega),(⟨_,VH q_3 q_4 (by have hd:=(q_1.1 h2);have k0:=q_0.k0 hd;have k1:=q_0.k1 hd;have a0:=hd.a0;have a6:=hd.a6;have b0:=hd.b0;have gK:=hd.gK;have hl:=hd.len;omega),⟨rfl,ba⟩,(by trivial)⟩)⟩⟩⟩⟩,fun I q_3=>⟨?q,iL (fun h6=>⟨?r,(SI q_3 (vS hp)),iB (fun h7=>(OF q_3 (by have hd:=(q_1.1 h2);have k0:=q_0.k0 hd;have k1:=q_0.k1 hd;have a0:=hd.a0;have a6:=hd.a6;have b0:=hd.b0;have gK:=hd.gK;have hl:=hd.len;omega) h7)) (fun h7=>⟨?s,?t,?u,⟨rfl,OG (by have hd:=(q_1.1 h2);have k0:=q_0.k0 hd;have k1:=q_0.k1 hd;have a0:=hd.a0;have a6:=hd.a6;have b0:=hd.b0;have gK:=hd.gK;have hl:=hd.len;omega)⟩,fun h8 h9=>⟨?v,(by exact⟨G+1,by have hd:=(q_1.1 h2);have k0:=q_0.k0 hd;have k1:=q_0.k1 hd;have a0:=hd.a0;have a6:=hd.a6;have b0:=hd.b0;have gK:=hd.gK;have hl:=hd.len;omega,by have hd:=(q_1.1 h2);have k0:=q_0.k0 hd;have k1:=q_0.k1 hd;have a0:=hd.a0;have a6:=hd.a6;have b0:=hd.b0;have gK:=hd.gK;have hl:=hd.len;omega,⟨by omega,ba⟩,⟨rfl,Iy q_3 h7 (by have hd:=(q_1.1 h2);have k0:=q_0.k0 hd;have k1:=q_0.k1 hd;have a0:=hd.a0;have a6:=hd.a6;have b0:=hd.b0;have gK:=hd.gK;have hl:=hd.len;omega),Iz (by have hd:=(q_1.1 h2);have k0:=q_0.k0 hd;have k1:=q_0.k1 hd;have a0:=hd.a0;have a6:=hd.a6;have b0:=hd.b0;have gK:=hd.gK;have hl:=hd.len;omega),ba⟩,Iy q_3 h7 (by have hd:=(q_1.1 h2);have k0:=q_0.k0 hd;have k1:=q_0.k1 hd;have a0:=hd.a0;have a6:=hd.a6;have b0:=hd.b0;have gK:=hd.gK;have hl:=hd.len;omega),Iz (by have hd:=(q_1.1 h2);have k0:=q_0.k0 hd;have k1:=q_0.k1 hd;have a0:=hd.a0;have a6:=hd.a6;have b0:=hd.b0;have gK:=hd.gK;have hl:=hd.len;omega),(by trivial)⟩)⟩⟩)⟩) (fun h6=>⟨(VI q_3 (vS hp)),iB (fun h7=>(Mc q_3 (by have hd:=(q_1.1 h2);have k0:=q_0.k0 hd;have k1:=q_0.k1 hd;have a0:=hd.a0;have a6:=hd.a6;have b0:=hd.b0;have gK:=hd.gK;have hl:=hd.len;omega) (by have hd:=(q_1.1 h2);have k0:=q_0.k0 hd;have k1:=q_0.k1 hd;have a0:=hd.a0;have a6:=hd.a6;have b0:=hd.b0;have gK:=hd.gK;have hl:=hd.len;omega) h7)) (fun h7=>⟨?w,?x,?y,⟨rfl,VM (by have hd:=(q_1.1 h2);have k0:=q_0.k0 hd;have k1:=q_0.k1 hd;have a0:=hd.a0;have a6:=hd.a6;have b0:=hd.b0;have gK:=hd.gK;have hl:=hd.len;omega)⟩,fun h8 h9=>⟨?z,(by exact⟨G+1,by have hd:=(q_1.1 h2);have k0:=q_0.k0 hd;have k1:=q_0.k1 hd;have a0:=hd.a0;have a6:=hd.a6;have b0:=hd.b0;have gK:=hd.gK;have hl:=hd.len;omega,by have hd:=(q_1.1 h2);have k0:=q_0.k0 hd;have k1:=q_0.k1 hd;have a0:=hd.a0;have a6:=hd.a6;have b0:=hd.b0;have gK:=hd.gK;have hl:=hd.len;omega,⟨by omega,ba⟩,⟨rfl,FR (by have hd:=(q_1.1 h2);have k0:=q_0.k0 hd;have k1:=q_0.k1 hd;have a0:=hd.a0;have a6:=hd.a6;have b0:=hd.b0;have gK:=hd.gK;have hl:=hd.len;omega),Me q_3 h7 (by have hd:=(q_1.1 h2);have k0:=q_0.k0 hd;have k1:=q_0.k1 hd;have a0:=hd.a0;have a6:=hd.a6;have b0:=hd.b0;have gK:=hd.gK;have hl:=hd.len;omega),ba⟩,FR (by have hd:=(q_1.1 h2);have k0:=q_0.k0 hd;have k1:=q_0.k1 hd;have a0:=hd.a0;have a6:=hd.a6;have b0:=hd.b0;have gK:=hd.gK;have hl:=hd.len;omega),Me q_3 h7 (by have hd:=(q_1.1 h2);have k0:=q_0.k0 hd;have k1:=q_0.k1 hd;have a0:=hd.a0;have a6:=hd.a6;have b0:=hd.b0;have gK:=hd.gK;have hl:=hd.len;omega),(by trivial)⟩)⟩⟩)⟩)⟩⟩) (fun h5=>⟨ba,iB (fun h6 =>?a0) (fun h6=>⟨fun h7 =>?a1,fun h7 =>?a2⟩)⟩)⟩⟩⟩⟩⟩)⟩
 case a|b|c|d|e|f=>rw[(q_0.1 h2).1];simp
 case g|h|i|v=>simp only[aF,aI]at*;omega
 case j|k|q=>rw[q_0.get (q_1.1 h2)];simp
 case l|m|n|o|p|z=>have hd:=(q_1.1 h2);have k0:=q_0.k0 hd;have k1:=q_0.k1 hd;have a0:=hd.a0;have a6:=hd.a6;have b0:=hd.b0;have gK:=hd.gK;have hl:=hd.len;simp only[aF]at*;omega
 case r|s=>rw[q_3.len];simp
 case t|u=>rw[Ix q_3 h7];simp
 case w|x|y=>rw[Mb q_3 h7];simp
 case a0=>
  rw[Mf (a:=bd (nth (.int .i64) E.1 0)) (b:=bd (nth (.int .i64) E.1 1)) (by have hd:=(q_1.1 h2);have k0:=q_0.k0 hd;have k1:=q_0.k1 hd;have a0:=hd.a0;have a6:=hd.a6;have b0:=hd.b0;have gK:=hd.gK;have hl:=hd.len;omega)]at h6;exact C0 (by have hd:=(q_1.1 h2);have k0:=q_0.k0 hd;have k1:=q_0.k1 hd;have a0:=hd.a0;have a6:=hd.a6;have b0:=hd.b0;have gK:=hd.gK;have hl:=hd.len;omega) (by have hd:=(q_1.1 h2);have k0:=q_0.k0 hd;have k1:=q_0.k1 hd;have a0:=hd.a0;have a6:=hd.a6;have b0:=hd.b0;have gK:=hd.gK;have hl:=hd.len;omega) (.inl h6)
 case a1=>
  simp only[bl,reduceCtorEq]at h7;rw[Mf (a:=bd (nth (.int .i64) E.1 0)) (b:=bd (nth (.int .i64) E.1 1)) (by have hd:=(q_1.1 h2);have k0:=q_0.k0 hd;have k1:=q_0.k1 hd;have a0:=hd.a0;have a6:=hd.a6;have b0:=hd.b0;have gK:=hd.gK;have hl:=hd.len;omega)]at h7;exact C0 (by have hd:=(q_1.1 h2);have k0:=q_0.k0 hd;have k1:=q_0.k1 hd;have a0:=hd.a0;have a6:=hd.a6;have b0:=hd.b0;have gK:=hd.gK;have hl:=hd.len;omega) (by have hd:=(q_1.1 h2);have k0:=q_0.k0 hd;have k1:=q_0.k1 hd;have a0:=hd.a0;have a6:=hd.a6;have b0:=hd.b0;have gK:=hd.gK;have hl:=hd.len;omega) (.inr h7)
 case a2=>
  simp only[bl,reduceCtorEq]at h7;exact VE h6 h7
def Tryz.WJ:bO Tryz.prog Tryz.B.eT Tryz.X 32 [.str] [aB,.err] (fun s=>s.length<=100000) (fun x y=>y=(fun s=>iW s) x):=
 bP (X:=Tryz.X) Tryz.O0 Tryz.func32 (by kernel_rfl) (fun x=>Tryz.I5 x) (fun x hw hp=>WI x hw hp)
def Tryz.ab3:bO Tryz.prog Tryz.B.eT Tryz.X 104 [.str,.str,.int .i64,.int .i64] [.slice .str] (fun x=>x.1.length<4294967281/\x.2.1.length=1/\x.2.2.1=(1:Int)/\x.2.2.2=(-1:Int)) (fun x y=>y=eJ (Lv x.2.1) x.1):=by
 refine⟨⟨Tryz.f104,Tryz.func104,by kernel_rfl,by kernel_rfl⟩,fun O w x vs hG hO ha hp =>?_⟩;obtain⟨s,p,sv,n⟩:=x;obtain⟨hs,hp,hsv,hn⟩:=hp;obtain⟨c,rfl⟩:∃c,p=[c]:=dt.1 hp
 obtain⟨v,vs',rfl,hv,u,vs2,rfl,hu,t,vs3,rfl,ht,z,hz⟩:=ha;obtain⟨rfl,hz⟩:=hz;obtain⟨rfl,hl⟩:=pI hv;obtain⟨rfl,_⟩:=pI hu;have et:t=.int .i64 1:=by obtain⟨e,_⟩:=ht.one rfl;simp at e;rw[e,show sv=(1:Int)from hsv]
 have ez:z=.int .i64 (-1):=by obtain⟨e,_⟩:=hz.one rfl;simp at e;rw[e,show n=(-1:Int)from hn]
 subst et;subst ez;obtain⟨m,hm⟩:=hG.max;have hsz:(⟨s.toArray⟩:ByteArray).size=s.length:=by simp[df]
 have h1:1<=(⟨#[c]⟩:ByteArray).size:=cb 1;have hlen:=ej ⟨#[c]⟩ h1 1 _ ⟨s.toArray⟩ rfl;have hdat:=ek ⟨#[c]⟩ 1 (bp ⟨s.toArray⟩ ⟨#[c]⟩) ⟨s.toArray⟩;have hcb:=Lib.countB_le ⟨#[c]⟩ h1 _ ⟨s.toArray⟩ (cb _);have hcall:Calls Tryz.prog 104 #[.string ⟨s.toArray⟩,.string ⟨#[c]⟩,.int .i64 1,.int .i64 (-1)] w fun e w'=>
   e=.returned (.slice (some ⟨w.heap.size,0,none⟩) (ca ⟨#[c]⟩ 1 (bp ⟨s.toArray⟩ ⟨#[c]⟩ +1-1) ⟨s.toArray⟩).length (bp ⟨s.toArray⟩ ⟨#[c]⟩ +1))/\w'=w.alloc (.cells (Lib.cellsOf (ca ⟨#[c]⟩ 1 (bp ⟨s.toArray⟩ ⟨#[c]⟩ +1-1) ⟨s.toArray⟩) (bp ⟨s.toArray⟩ ⟨#[c]⟩ +1)) 9):=Any.strings_genSplit {Tryz.Qy with} (by kernel_rfl) ⟨s.toArray⟩ ⟨#[c]⟩ 1 (-1) (bp ⟨s.toArray⟩ ⟨#[c]⟩ +1) m w (by rw[hsz];exact hs) hm h1 (cb 1) (by decide) (by decide) (by rw[if_pos (by decide)];omega)
 rw[Nat.add_sub_cancel,hlen]at hcall;have e2:Lib.cellsOf (ca ⟨#[c]⟩ 1 (bp ⟨s.toArray⟩ ⟨#[c]⟩) ⟨s.toArray⟩) (bp ⟨s.toArray⟩ ⟨#[c]⟩ +1)=((ca ⟨#[c]⟩ 1 (bp ⟨s.toArray⟩ ⟨#[c]⟩) ⟨s.toArray⟩).map cr).toArray:=by rw[<-hlen];exact Lib.cellsOf_full _
 rw[e2]at hcall;refine hcall.mono ?_;rintro e w' ⟨rfl,rfl⟩;have hd:(ca ⟨#[c]⟩ 1 (bp ⟨s.toArray⟩ ⟨#[c]⟩) ⟨s.toArray⟩).map (·.data.toList)=eJ c s:=hdat;have hlf:(eJ c s).length=bp ⟨s.toArray⟩ ⟨#[c]⟩ +1:=by rw[<-hd,bz,hlen]
 refine⟨[_],eJ c s,rfl,rfl,⟨_,rfl,VR.cZ rfl ⟨_,rfl,?_,.inr ⟨w.heap.size,0,bp ⟨s.toArray⟩ ⟨#[c]⟩ +1,by rw[hlf],by rw[hlf];exact cb _,fun i y hy =>?_⟩⟩⟩,(Vg.Below.refl _ w).alloc (cb _) _⟩
 ·rw[hlf];have hs:s.length<4294967281:=hs;rw[hsz]at hcb;unfold aI;omega
 ·have hyl:=IK c s y (en hy)
  refine⟨[.string ⟨y.toArray⟩],⟨rfl,b8 hyl hl⟩,fun j u hj=>⟨?_,fun hh =>?_⟩⟩
  ·have hj0:j=0:=by
    rcases j with _|j
    ·rfl
    ·simp at hj
   subst hj0;simp at hj;subst hj;rw[<-hd,List.getElem?_map,c8]at hy;obtain⟨q,hq,rfl⟩:=hy;have hh:(w.alloc (.cells ((ca ⟨#[c]⟩ 1 (bp ⟨s.toArray⟩ ⟨#[c]⟩) ⟨s.toArray⟩).map cr).toArray 9)).heap[w.heap.size]?=some (.cells ((ca ⟨#[c]⟩ 1 (bp ⟨s.toArray⟩ ⟨#[c]⟩) ⟨s.toArray⟩).map cr).toArray 9 (0,0)):=heap_alloc_new w _;rw[cg hh];simp only[Ty.size,Nat.mul_one,Nat.zero_add,du,List.getElem?_toArray,List.getElem?_map,hq,eo]
  ·have:=hO _ _ hh
   simp at this
def Tryz.y8:List (FuncId×(Bool×aX)):=[(104,(true,bX [.str,.str,.int .i64,.int .i64] [.slice .str] (fun x=>x.1.length<4294967281/\x.2.1.length=1/\x.2.2.1=(1:Int)/\x.2.2.2=(-1:Int)) (fun x=>eJ (Lv x.2.1) x.1)))]
def Tryz.Gd:bL Tryz.prog Tryz.B Tryz.X Tryz.y8:=
 aM (aE Tryz.ab3) (bJ Tryz.bI)
def G7(s:List UInt8)(p:List UInt8)(hw:eD [.str,.str] (s,p))(hp:(fun x=>x.1.length<4294967281/\x.2.length=1) (s,p)):(cL Tryz.B Tryz.y8 Tryz.f94 [] [.str,.str] [.slice .str] (fun x y=>y=(fun x=>eJ (Lv x.2) x.1) x) (s,p)).holds:=by
 refine holds_of (p:=
  let za:=bb p
  let zb:=eJ (List.rec 0 (fun(head:UInt8) (tail:List UInt8) (tail_ih:UInt8)=>head) p) s
  za<=aI->(bb s<4294967281/\za=1/\(↑za:Int)=1/\(-1:Int)=(-1:Int))/\zb=zb) (by kernel_rfl) ?_
 dsimp -iota -proj -eta only;dsimp only at hp;exact fun h0=>⟨(by omega),rfl⟩
def Tryz.G8:bO Tryz.prog Tryz.B.eT Tryz.X 94 [.str,.str] [.slice .str] (fun x=>x.1.length<4294967281/\x.2.length=1) (fun x y=>y=(fun x=>eJ (Lv x.2) x.1) x):=
 bP (X:=Tryz.X) Tryz.Gd Tryz.func94 (by kernel_rfl) (fun _=>[]) (fun x hw hp=>G7 x.1 x.2 hw hp)
def Tryz.spZ21:Bool×aX:=(false,aW Tryz.bM [.obj 0] (fun _ _=>True) Tryz.vW)
def Tryz.I6:List (FuncId×(Bool×aX)):=[(87,Tryz.spZ21),(88,Tryz.spZ11),(89,Tryz.spZ12),(90,Tryz.spZ10)]
def Tryz.O1:bL Tryz.prog Tryz.B Tryz.X Tryz.I6:=
 aM (Tryz.vX) (aM (Tryz.Bo) (aM (Tryz.Bq) (aM (aE Tryz.MW) (bJ Tryz.bI))))
def Tryz.yz:List (Alt Tryz.bM [.obj 0]):=[{bS:=Tryz.bM,res:=[.d .err],out:=fun _ x=>(lR x).1,ret:=fun _ x=>(aL (lR x).2,())}]
def WK(d:Dk)(hw:fM [.obj 0] ())(hp:(fun _ x=>dN x 1000000) () d):(cO Tryz.B Tryz.I6 Tryz.f47 [] Tryz.bM [.obj 0] Tryz.yz () d).holds:=by
 refine holds_of (p:=
  let za:=d.2.2.2.1
  let zb:=za=za
  let zc:=(lR d).1
  let zd:=(aL (lR d).2,())
  let ze:=(-1:Int)
  let zf:=bZ d 1 (@bc UInt8)
  let zg:=aS.isNil (aL zf.2)
  let zh:=zf.1.2.2.2.1
  let zi:=zh=zh
  let zj:=ze<=zf.1.1.1
  let zk:=zj/\bb zf.1.2.1=bb zf.1.2.2.1
  let zl:=aL (cD zf.1).2
  let zm:=(cD zf.1).1
  let zn:=zm.2.2.2.1
  let zo:=zn=zn
  let zp:=ze<=zm.1.1
  let zq:=gM 2 0
  let zr:=bZ zm 0 zq
  let zs:=zr.1.2.2.2.1
  let zt:=(cD zr.1).1
  let zu:=(cD zm).1.2.2.2.1
  let zv:=zo/\True/\zm=zc/\(zl,())=zd
  let zw:=bZ zf.1 0 zq
  let zx:=zw.1.2.2.2.1
  let zy:=(cD zw.1).1
  zb/\True/\(True->((decide ((↑(bb d.2.2.1):Int)<112))=true->zb/\True/\d=zc/\(aS.no 8,())=zd)/\((decide ((↑(bb d.2.2.1):Int)<112))=false->zb/\(ze<=d.1.1/\bb za<=900000000)/\(True->(zg=true->zi/\zk/\(True->((aS.isNil zl)=true->True/\zo/\(zp/\bb zn<=900000000)/\(True->((aS.isNil (aL zr.2))=true->zs=zs/\(ze<=zr.1.1.1/\bb zr.1.2.1=bb zr.1.2.2.1)/\(True->zt.2.2.2.1=zt.2.2.2.1/\True/\zt=zc/\(aL (cD zr.1).2,())=zd))/\((aS.isNil (aL zr.2))=false->zs=zs/\True/\zr.1=zc/\(aL zr.2,())=zd)))/\((aS.isNil zl)=false->((aS.isNil zl)=true->zo/\(zp/\bb zm.2.1=bb zm.2.2.1)/\(True->zu=zu/\True/\(cD zm).1=zc/\(aL (cD zm).2,())=zd))/\((aS.isNil zl)=false->zv))))/\(zg=false->(zg=true->True/\zi/\(zj/\bb zh<=900000000)/\(True->((aS.isNil (aL zw.2))=true->zx=zx/\(ze<=zw.1.1.1/\bb zw.1.2.1=bb zw.1.2.2.1)/\(True->zy.2.2.2.1=zy.2.2.2.1/\True/\zy=zc/\(aL (cD zw.1).2,())=zd))/\((aS.isNil (aL zw.2))=false->zx=zx/\True/\zw.1=zc/\(aL zw.2,())=zd)))/\(zg=false->(zg=true->zi/\zk/\(True->zv))/\(zg=false->zi/\True/\zf.1=zc/\(aL zf.2,())=zd))))))) (by kernel_rfl) ?_
 dsimp -iota -proj -eta only;refine⟨rfl,ba,fun h0=>iL (fun h1=>(by rw[pH,abE h1];exact⟨rfl,ba,rfl,rfl⟩)) (fun h1=>⟨rfl,⟨hp.nO,b8 hp.o6 (by decide)⟩,fun h2=>⟨fun h3=>⟨rfl,(by have f:=nP hp 1 [];exact⟨f.nO,f.len⟩),fun h4=>⟨fun h5=>⟨ba,rfl,(by have f:=tm (nP hp 1 []);exact⟨f.nO,b8 f.o6 (by decide)⟩),fun h6=>⟨fun h7=>⟨rfl,(by have f:=nP (tm (nP hp 1 [])) 0 (gM 2 0);exact⟨f.nO,f.len⟩),fun h8=>(by rw[pH,adR (by omega) (aV.1 h3) (aV.1 h5) (aV.1 h7)];exact⟨rfl,ba,rfl,rfl⟩)⟩,fun h7=>(by rw[pH,adQ (by omega) (aV.1 h3) (aV.1 h5) (fA h7)];exact⟨rfl,ba,rfl,rfl⟩)⟩⟩,fun h5=>⟨fun h6=>⟨rfl,?a,fun h7 =>?b⟩,fun h6=>(by rw[pH,adP (by omega) (aV.1 h3) (fA h5)];exact⟨rfl,ba,rfl,rfl⟩)⟩⟩⟩,fun h3=>⟨fun h4=>⟨ba,rfl,?c,fun h5=>⟨fun h6=>⟨rfl,?d,fun h7 =>?e⟩,fun h6 =>?f⟩⟩,fun h4=>⟨fun h5=>⟨rfl,?g,fun h6 =>?h⟩,fun h5=>(by rw[pH,adO (by omega) (fA h3)];exact⟨rfl,ba,rfl,rfl⟩)⟩⟩⟩⟩)⟩
 case a|b|c|d|e|f|g|h=>simp_all
def Tryz.WL:bY Tryz.prog Tryz.B.eT Tryz.X 47 false (aW Tryz.bM [.obj 0] (fun _ x=>dN x 1000000) Tryz.yz):=
 aZ (X:=Tryz.X) Tryz.O1 Tryz.func47 (by kernel_rfl) (fun(a:CD [.obj 0]) (x:PD Tryz.bM)=>[]) (fun(a:CD [.obj 0]) (x:PD Tryz.bM) hw hp=>WK x hw hp)
def Tryz.spZ22:Bool×aX:=(false,aW Tryz.bM [.obj 0] (fun _ _=>True) Tryz.Ec)
def Tryz.QF:List (FuncId×(Bool×aX)):=[(91,Tryz.spZ22),(87,Tryz.spZ21),(92,(false,iS Tryz.B [] Tryz.f92 [])),(93,(true,qq [.str] [.int .i64] (fun s=>4<=s.length) (fun s y=>(y:Int)=j9 s))),(94,(true,bX [.str,.str] [.slice .str] (fun x=>x.1.length<4294967281/\x.2.length=1) (fun x=>eJ (Lv x.2) x.1))),(32,(true,bX [.str] [aB,.err] (fun s=>s.length<=100000) (fun s=>iW s)))]
def Tryz.WM:bL Tryz.prog Tryz.B Tryz.X Tryz.QF:=
 aM (Tryz.MV) (aM (Tryz.vX) (aM (gz (bJ Tryz.bI) Tryz.func92 (by kernel_rfl) []) (aM (ju Tryz.WC) (aM (aE Tryz.G8) (aM (aE Tryz.WJ) (bJ Tryz.bI))))))
def Tryz.QG(d:Dk):cU:=[
 (0,fun st=>{X:=Nat,inv:=fun i=>i<=2,bF:=fun i=>2-i,aY:=fun i=>[(29,sI i),(5,sI (fH d i).2)],aH:=fun i=>[(aT st 4,.cells 169 [.ref 0 0,.d (.int .i64) (fH d i).1,.app aB [] (iy st (aT st 4) 2)])],keep:=[0,4],eA:=[aT st 4]}),
 (2,fun st=>{X:=Nat,inv:=fun i=>i<=55,bF:=fun i=>55-i,aY:=fun i=>[(74,sI i),(11,sS (kH d (mG d) i))],keep:=[0,4,5]}),
 (4,fun st=>{X:=Nat,inv:=fun i=>i<=bb (eC d)/\∀j,j<i->nth .str (eC d) j=[]\/(iW (nth .str (eC d) j)).2.isNil=true,bF:=fun i=>bb (eC d)-i,aY:=fun i=>[(103,sI i)],aH:=fun i=>[(aT st 4,.cells 169 [.ref 0 0,.d (.int .i64) (fH d 2).1,.app aB (l5 ((eC d).take i)) (iy st (aT st 4) 2)]),(iy st (aT st 4) 2,.tok aB (l5 ((eC d).take i)))],keep:=[4,101,102],eA:=[aT st 4,iy st (aT st 4) 2]})]
def Tryz.Eg:List (Alt Tryz.bM [.obj 0]):=[
 {bS:=Tryz.bM,res:=[.iX,.d .err],ok:=fun _ x=>(dP x).2≠0,out:=fun _ x=>x,ret:=fun _ x=>(aL (dP x).2,())},
 {bS:=Tryz.bM++[.box 169 [.obj 0,.d (.int .i64),.d (.slice aB)]],res:=[.obj 4,.d .err],ok:=fun _ x=>(dP x).2=0,out:=fun _ x=>(x.1,x.2.1,x.2.2.1,x.2.2.2.1,((dP x).1.1,(dP x).1.2,()),()),ret:=fun _ _=>(aS.nil,())}]
def ab4(d:Dk)(hw:fM [.obj 0] ())(hp:(fun _ x=>dN x 1000000/\∀i,i<x.2.2.1.length->(nth .str x.2.2.1 i).length=64) () d):(cO Tryz.B Tryz.QF Tryz.f48 (Tryz.QG d) Tryz.bM [.obj 0] Tryz.Eg () d).holds:=by
 refine holds_of (p:=
  let za:=d.2.2.2.1
  let zb:=za=za
  let zc:=d.1.2.1
  let zd:=(dP d).2
  let ze:=zd≠(0:Int)
  let zf:=d=d
  let zg:=(aL zd,())
  let zh:=zb/\ze/\zf/\(aS.no (9:Int),())=zg
  let zi:=d.2.2.1
  let zj:=bb zi
  let zk:=(↑zj:Int)
  let zl:=zb/\ze/\zf/\(aS.no (4:Int),())=zg
  let zm:=C.ref 0 0
  let zn:=zm=zm
  let zo:=@bc (List UInt8×List (List UInt8×Int×Int×Unit)×List (Int×Int×Int×Unit)×Unit)=@bc (List UInt8×List (List UInt8×Int×Int×Unit)×List (Int×Int×Int×Unit)×Unit)
  let zp:=zo/\True
  let zq:=fun(E:Nat)=>(↑E:Int)
  let zr:=!aS.isNil (aS.no (9:Int))
  let zs:=(0:Int)<=(1:Int)
  let zt:=(1:Int)<=(5:Int)
  let zu:=bb (@bc UInt8)
  let zv:=(↑zu:Int)
  let zw:=(0:Int)<=(5:Int)
  let zx:=(5:Int)<=(9:Int)
  let zy:=bk 1 (bf 5 (@bc UInt8))
  let zz:=bk 5 (bf 9 (@bc UInt8))
  let zaa:=(0:Int)<=(0:Int)
  let zab:=fun(E:Nat)=>(fH d E).1
  let zac:=fun(E:Nat)=>aF (zq E)
  let zad:=aF (1:Int)
  let zae:=fun(E:Nat)=>zq E+(1:Int)
  let zaf:=fun(E:Nat)=>aF (zae E)
  let zag:=d.2.1
  let zah:=(C.bC 1=C.bC 1/\C.bC 2=C.bC 2/\zb/\d.1.1=d.1.1/\zc=zc/\True)/\zag=zag/\zi=zi/\zb/\True
  let zai:=zo/\zah
  let zaj:=fun(E:Nat)=>zac E->zad->zaf E/\∃(x':Nat),x'<=2/\2-x'<2-E/\(zae E=(↑x':Int)/\(fH d E).2=(fH d x').2/\True)/\(zn/\zab E=(fH d x').1/\zp)/\zai
  let zak:=fun(F:Int) (E:Nat) (G:Int)=>((decide (F > zab E))=true->((decide (G<=(3520:Int)))=true->zac E->zad->zaf E/\∃(x':Nat),x'<=2/\2-x'<2-E/\(zae E=(↑x':Int)/\G=(fH d x').2/\True)/\(zn/\F=(fH d x').1/\zp)/\zai)/\((decide (G<=(3520:Int)))=false->zaj E))/\((decide (F > zab E))=false->zaj E)
  let zal:=fun(E:Nat)=>(zs/\zt/\(5:Int)<=zv)/\(zw/\zx/\(9:Int)<=zv)/\4<=bb zy/\∀F:Int,F=j9 zy->4<=bb zz/\∀G:Int,G=j9 zz->(zaa/\(0:Int)<zv)/\(((↑(br (bR (@bc UInt8) 0)):Int) == (83:Int))=true->zak F E G)/\(((↑(br (bR (@bc UInt8) 0)):Int) == (83:Int))=false->zaj E)
  let zam:=!aS.isNil (aS.no (1:Int))
  let zan:=zb/\ze/\zf/\(aS.no (1:Int),())=zg
  let zao:=fun(E:Nat)=>(zam=true->zan)/\(zam=false->zal E)
  let zap:=!aS.isNil aS.nil
  let zaq:=zb/\ze/\zf/\(aS.nil,())=zg
  let zar:=fun(E:Nat)=>nth Ty.str zi E
  let zas:=fun(E:Nat)=>(↑(bb (zar E)):Int)
  let zat:=fun(E:Nat)=>bk 1 (bf 5 (zar E))
  let zau:=fun(E:Nat)=>bk 5 (bf 9 (zar E))
  let zav:=mG d
  let zaw:=fun(I:Int) (F:Nat)=>(2:Int)+I+zq F
  let zax:=fun(F:Nat)=>kH d zav F
  let zay:=fun(E:Nat)=>(zn/\zab E=zab E/\zp)/\zai
  let zaz:=fun(F:Nat) (E:Nat)=>bb (zax F)+zu<=aI/\(zac F->zad->zaf F/\∃(x':Nat),x'<=55/\55-x'<55-F/\(zae F=(↑x':Int)/\zax F++ @bc UInt8=kH d zav x'/\True)/\zay E)
  let zba:=fun(F:Nat) (E:Nat)=>(zam=true->zan)/\(zam=false->zaz F E)
  let zbb:=fun(E F:Nat)=>bk 0 (bf (bd (fH d E).2) (zax F))
  let zbc:=eC d
  let zbd:=bb zbc
  let zbe:=(fH d 2).1
  let zbf:=fun(E F G:Nat)=>nth Ty.str (eJ (10:UInt8) (zbb E F)) G
  let zbg:=fun(G:Nat)=>l5 (bf G zbc)
  zb/\True/\(True->(zc=true->zh)/\(zc=false->zb/\True/\(True->((decide (zk<(112:Int)))=true->zl)/\((decide (zk<(112:Int)))=false->(∃(x:Nat),x<=2/\((0:Int)=(↑x:Int)/\(0:Int)=(fH d x).2/\True)/\(zn/\(0:Int)=(fH d x).1/\zp)/\True)/\∀E:Nat,E<=2->((decide (zq E<(2:Int)))=true->(zc=true->(zr=true->zh)/\(zr=false->zal E))/\(zc=false->((decide (zq E<(0:Int)))=true->zao E)/\((decide (zq E<(0:Int)))=false->zj<=aI->((decide (zq E>=zk))=true->zao E)/\((decide (zq E>=zk))=false->((0:Int)<=zq E/\zq E<zk)/\E<zj/\(zap=true->zaq)/\(zap=false->(zs/\zt/\(5:Int)<=zas E)/\(zw/\zx/\(9:Int)<=zas E)/\4<=bb (zat E)/\∀F:Int,F=j9 (zat E)->4<=bb (zau E)/\∀G:Int,G=j9 (zau E)->(zaa/\(0:Int)<zas E)/\(((↑(br (bR (zar E) 0)):Int) == (83:Int))=true->zak F E G)/\(((↑(br (bR (zar E) 0)):Int) == (83:Int))=false->zaj E))))))/\((decide (zq E<(2:Int)))=false->((zab E == (0:Int))=true->zl)/\((zab E == (0:Int))=false->(∃(x:Nat),x<=55/\((0:Int)=(↑x:Int)/\@bc UInt8=kH d zav x/\True)/\True)/\∀F:Nat,F<=55->((decide (zq F<(55:Int)))=true->(2:Int)≠(0:Int)/\∀G:Int,G=cq (zab E) (2:Int)->∀I:Int,I=G*(55:Int)->aF G->aF (55:Int)->aF I/\(aF (2:Int)->aF I->aF ((2:Int)+I)/\(aF ((2:Int)+I)->zac F->aF (zaw I F)/\(zc=true->(zr=true->zh)/\(zr=false->zaz F E))/\(zc=false->((decide (zaw I F<(0:Int)))=true->zba F E)/\((decide (zaw I F<(0:Int)))=false->zj<=aI->((decide (zaw I F>=zk))=true->zba F E)/\((decide (zaw I F>=zk))=false->((0:Int)<=zaw I F/\zaw I F<zk)/\bd (zaw I F)<zj/\(zap=true->zaq)/\(zap=false->bb (zax F)+bb (nth Ty.str zi (bd (zaw I F)))<=aI/\(zac F->zad->zaf F/\∃(x':Nat),x'<=55/\55-x'<55-F/\(zae F=(↑x':Int)/\zax F++nth Ty.str zi (bd (zaw I F))=kH d zav x'/\True)/\zay E))))))))/\((decide (zq F<(55:Int)))=false->(zaa/\(0:Int)<=(fH d E).2/\(fH d E).2<=(↑(bb (zax F)):Int))/\(bb (zbb E F)<4294967281/\bb [(10:UInt8)]=1)/\(bb (eJ (10:UInt8) (zbb E F))<=aI->(∃(x:Nat),(x<=zbd/\∀(j:Nat),j<x->nth Ty.str zbc j=@bc UInt8\/aS.isNil (aL (qy (nth Ty.str zbc j)).2)=true)/\((0:Int)=(↑x:Int)/\True)/\(zn/\zab E=zbe/\@bc (List UInt8×List (List UInt8×Int×Int×Unit)×List (Int×Int×Int×Unit)×Unit)=l5 (bf x zbc)/\True)/\@bc (List UInt8×List (List UInt8×Int×Int×Unit)×List (Int×Int×Int×Unit)×Unit)=l5 (bf x zbc)/\True)/\∀G:Nat,(G<=zbd/\∀(j:Nat),j<G->nth Ty.str zbc j=@bc UInt8\/aS.isNil (aL (qy (nth Ty.str zbc j)).2)=true)->((decide (zq G<(↑(bb (eJ (10:UInt8) (zbb E F))):Int)))=true->((0:Int)<=zq G/\zq G<(↑(bb (eJ (10:UInt8) (zbb E F))):Int))/\((zbf E F G == @bc UInt8)=true->zac G->zad->zaf G/\∃(x':Nat),(x'<=zbd/\∀(j:Nat),j<x'->nth Ty.str zbc j=@bc UInt8\/aS.isNil (aL (qy (nth Ty.str zbc j)).2)=true)/\zbd-x'<zbd-G/\(zae G=(↑x':Int)/\True)/\(zn/\zbe=zbe/\zbg G=l5 (bf x' zbc)/\True)/\zbg G=l5 (bf x' zbc)/\zah)/\((zbf E F G == @bc UInt8)=false->bb (zbf E F G)<=100000/\((!aS.isNil (aL (qy (zbf E F G)).2))=true->zl)/\((!aS.isNil (aL (qy (zbf E F G)).2))=false->(zbg G=zbg G/\bb (zbg G)+bb [(qy (zbf E F G)).1]<=1000000000)/\(zac G->zad->zaf G/\∃(x':Nat),(x'<=zbd/\∀(j:Nat),j<x'->nth Ty.str zbc j=@bc UInt8\/aS.isNil (aL (qy (nth Ty.str zbc j)).2)=true)/\zbd-x'<zbd-G/\(zae G=(↑x':Int)/\True)/\(zn/\zbe=zbe/\zbg G++[(qy (zbf E F G)).1]=l5 (bf x' zbc)/\True)/\zbg G++[(qy (zbf E F G)).1]=l5 (bf x' zbc)/\zah))))/\((decide (zq G<(↑(bb (eJ (10:UInt8) (zbb E F))):Int)))=false->zb/\zd=(0:Int)/\(d.1,zag,zi,za,(zbe,zbg G,()),())=(d.1,zag,zi,za,((dP d).1.1,(dP d).1.2,()),())/\(aS.nil,())=(aS.nil,()))))))))))) (by kernel_rfl) ?_
 dsimp -iota -proj -eta only;refine⟨rfl,ba,fun h0=>⟨fun h1=>(by rw[V7 h1];exact⟨rfl,by decide,rfl,rfl⟩),fun h1=>⟨rfl,ba,fun h2=>iL (fun h3=>(by rw[Zs h1 h3];exact⟨rfl,by decide,rfl,rfl⟩)) (fun h3=>⟨(⟨0,b7 _,⟨rfl,by rw[F1],ba⟩,⟨rfl,by rw[F1],rfl,ba⟩,(by trivial)⟩),fun E q_0=>iL (fun h4=>⟨fun h5=>⟨fun h6=>(cw (h1.symm.trans h5)),fun h6=>absurd (show true=false from h6) (by decide)⟩,fun h5=>⟨fun h6=>absurd (show false=true from h6) (by decide),fun h6 h7=>iE (fun h8=>⟨fun h9=>(by exfalso;omega),fun h9=>absurd (show true=false from h9) (by decide)⟩) (fun h8=>⟨?a,?b,⟨fun h9=>absurd (show false=true from h9) (by decide),fun h9=>⟨?c,?d,?e,fun F q_1=>⟨?f,fun G q_2=>⟨?g,iQ (fun h10=>iL (fun h11=>iE (fun h12 h13 h14=>⟨?h,?i⟩) (fun h12 h13 h14=>⟨?j,?k⟩)) (fun h11 h12 h13=>⟨?l,?m⟩)) (fun h10 h11 h12=>⟨?n,?o⟩)⟩⟩⟩⟩⟩)⟩⟩) (fun h4=>iQ (fun h5 =>?p) (fun h5=>⟨(⟨0,b7 _,⟨rfl,by rw[aa0],ba⟩,(by trivial)⟩),fun F q_1=>iL (fun h6=>⟨(by trivial),fun G q_2 I q_3 h7 h8=>⟨?q,fun h9 h10=>⟨?r,fun h11 h12=>⟨?s,⟨fun h13=>⟨fun h14=>(cw (h1.symm.trans h13)),fun h14=>absurd (show true=false from h14) (by decide)⟩,fun h13=>iL (fun h14=>⟨fun h15 =>?t,fun h15=>absurd (show true=false from h15) (by decide)⟩) (fun h14 h15=>iE (fun h16=>⟨fun h17 =>?u,fun h17=>absurd (show true=false from h17) (by decide)⟩) (fun h16=>⟨?v,?w,⟨fun h17=>absurd (show false=true from h17) (by decide),fun h17=>⟨?x,fun h18 h19=>⟨?y,?z⟩⟩⟩⟩))⟩⟩⟩⟩⟩) (fun h6=>⟨?a0,?a1,fun h7=>⟨?a2,fun G q_2=>iL (fun h8=>⟨?a3,iQ (fun h9 h10 h11=>⟨?a4,?a5⟩) (fun h9=>⟨?a6,iB (fun h10 =>?a7) (fun h10=>⟨?a8,fun h11 h12=>⟨?a9,?aa⟩⟩)⟩)⟩) (fun h8 =>?ab)⟩⟩)⟩))⟩)⟩⟩⟩
 case a|b|a3=>omega
 case c|d|g=>
  have h64:(nth .str d.2.2.1 E).length=64:=hp.2 _ (by omega);rw[h64];decide
 case e|f=>
  have h64:(nth .str d.2.2.1 E).length=64:=hp.2 _ (by omega);rw[ed,cc,h64];decide
 case h|j|l|n|y|a4|a9=>simp only[aF,aI]at*;omega
 case i=>
  have e1:F=rv d E:=q_1.trans (rW d E).symm;have e2:G=sN d E:=q_2.trans (tG d E).symm;subst e1;subst e2;exact⟨E+1,by omega,by omega,⟨by omega,by rw[wU h10 (by omega) h12],ba⟩,⟨rfl,by rw[wU h10 (by omega) h12],rfl,ba⟩,(by trivial)⟩
 case k=>
  have e1:F=rv d E:=q_1.trans (rW d E).symm;have e2:G=sN d E:=q_2.trans (tG d E).symm;subst e1;subst e2;have hn:fH d (E+1)=fH d E:=B6 fun z=>by have:=z.2.2;omega
  exact⟨E+1,by omega,by omega,⟨by omega,by rw[hn],ba⟩,⟨rfl,by rw[hn],rfl,ba⟩,(by trivial)⟩
 case m=>
  have e1:F=rv d E:=q_1.trans (rW d E).symm;have e2:G=sN d E:=q_2.trans (tG d E).symm;subst e1;subst e2;have hn:fH d (E+1)=fH d E:=B6 fun z=>by have:=z.2.1;omega
  exact⟨E+1,by omega,by omega,⟨by omega,by rw[hn],ba⟩,⟨rfl,by rw[hn],rfl,ba⟩,(by trivial)⟩
 case o=>
  have hn:fH d (E+1)=fH d E:=B6 fun z=>h10 z.1
  exact⟨E+1,by omega,by omega,⟨by omega,by rw[hn],ba⟩,⟨rfl,by rw[hn],rfl,ba⟩,(by trivial)⟩
 case p=>
  have hx0:E=2:=by omega
  subst hx0;rw[V8 h1 (by omega) h5];exact⟨rfl,by decide,rfl,rfl⟩
 case q|r|s=>have hr:=iM d E;have ht:=ve hr.1.1;simp only[aF]at*;omega
 case t|u=>exfalso;have hr:=iM d E;have ht:=ve hr.1.1;omega
 case v|w=>have hr:=iM d E;have ht:=ve hr.1.1;omega
 case x=>
  have hx0:E=2:=(by omega);subst hx0;have hr:=iM d 2;have ht:=ve hr.1.1;have hb:mG d=2+I:=(by rw[ml,q_3,q_2]);have h64:(nth .str d.2.2.1 (bd (2+I+(F:Int)))).length=64:=hp.2 _ (by omega);have hl:=mm hp.2 (b:=mG d) (by omega) F (by omega);rw[h64,hl];have:aI=9223372036854775807:=rfl;omega
 case z=>
  have hx0:E=2:=(by omega);subst hx0;have hr:=iM d 2;have ht:=ve hr.1.1;have hb:mG d=2+I:=(by rw[ml,q_3,q_2]);exact⟨F+1,by omega,by omega,⟨by omega,by rw[SW,hb];rfl,ba⟩,(by trivial)⟩
 case a0=>
  have hx0:E=2:=(by omega);subst hx0;have hx1:F=55:=(by omega);subst hx1;have hr:=iM d 2;have ht:=ve hr.1.1;have hbb:=ml d;have hll:(kH d (mG d) 55).length=64*55:=mm hp.2 (by omega) 55 (by omega);have hLL:eJ 10 (bk 0 (bf (bd (fH d 2).2) (kH d (mG d) 55)))=eC d:=(by rw[iO];rfl);rw[hll];exact⟨by decide,hr.2.1,by omega⟩
 case a1=>
  have hx0:E=2:=(by omega);subst hx0;have hx1:F=55:=(by omega);subst hx1;have hr:=iM d 2;have ht:=ve hr.1.1;have hbb:=ml d;have hll:(kH d (mG d) 55).length=64*55:=mm hp.2 (by omega) 55 (by omega);have hLL:eJ 10 (bk 0 (bf (bd (fH d 2).2) (kH d (mG d) 55)))=eC d:=(by rw[iO];rfl);refine⟨?_,rfl⟩;rw[da,cc,hll];omega
 case a2=>
  have hx0:E=2:=(by omega);subst hx0;have hx1:F=55:=(by omega);subst hx1;have hr:=iM d 2;have ht:=ve hr.1.1;have hbb:=ml d;have hll:(kH d (mG d) 55).length=64*55:=mm hp.2 (by omega) 55 (by omega);have hLL:eJ 10 (bk 0 (bf (bd (fH d 2).2) (kH d (mG d) 55)))=eC d:=(by rw[iO];rfl);exact⟨0,⟨b7 _,fun j hj=>absurd hj (cz _)⟩,⟨rfl,ba⟩,⟨rfl,rfl,by rw[e5,Wb],ba⟩,by rw[e5,Wb],ba⟩
 case a5=>
  have hx0:E=2:=(by omega);subst hx0;have hx1:F=55:=(by omega);subst hx1;have hr:=iM d 2;have ht:=ve hr.1.1;have hbb:=ml d;have hll:(kH d (mG d) 55).length=64*55:=mm hp.2 (by omega) 55 (by omega);have hLL:eJ 10 (bk 0 (bf (bd (fH d 2).2) (kH d (mG d) 55)))=eC d:=(by rw[iO];rfl)
  (try rw[hLL]at h8);(try rw[hLL]at h9);(try rw[hLL]at h10);(try rw[hLL])
  have e:=V9 (L:=eC d) (i:=G) (by omega) h9;exact⟨G+1,⟨by omega,jD q_2.2 (.inl h9)⟩,by omega,⟨by omega,ba⟩,⟨rfl,rfl,e.symm,ba⟩,e.symm,(by trivial)⟩
 case a6=>
  have hx0:E=2:=(by omega);subst hx0;have hx1:F=55:=(by omega);subst hx1;have hr:=iM d 2;have ht:=ve hr.1.1;have hbb:=ml d;have hll:(kH d (mG d) 55).length=64*55:=mm hp.2 (by omega) 55 (by omega);have hLL:eJ 10 (bk 0 (bf (bd (fH d 2).2) (kH d (mG d) 55)))=eC d:=(by rw[iO];rfl)
  (try rw[hLL]at h8);(try rw[hLL]at h9);(try rw[hLL]at h10);(try rw[hLL])
  have hm:nth .str (eC d) G∈eC d:=eO (t:=.str) (by omega);have hm2:nth .str (eC d) G∈eJ 10 (bf (fH d 2).2.toNat (kH d (mG d) 55)):=by rw[<-iO];exact hm
  refine b8 (IK 10 _ _ hm2) ?_;rw[cc,hll];omega
 case a7=>
  have hx0:E=2:=(by omega);subst hx0;have hx1:F=55:=(by omega);subst hx1;have hr:=iM d 2;have ht:=ve hr.1.1;have hbb:=ml d;have hll:(kH d (mG d) 55).length=64*55:=mm hp.2 (by omega) 55 (by omega);have hLL:eJ 10 (bk 0 (bf (bd (fH d 2).2) (kH d (mG d) 55)))=eC d:=(by rw[iO];rfl)
  (try rw[hLL]at h8);(try rw[hLL]at h9);(try rw[hLL]at h10);(try rw[hLL])
  rw[Zt h1 (by omega) h5 ⟨G,by omega,h9,h10⟩];exact⟨rfl,by decide,rfl,rfl⟩
 case a8=>
  have hx0:E=2:=(by omega);subst hx0;have hx1:F=55:=(by omega);subst hx1;have hr:=iM d 2;have ht:=ve hr.1.1;have hbb:=ml d;have hll:(kH d (mG d) 55).length=64*55:=mm hp.2 (by omega) 55 (by omega);have hLL:eJ 10 (bk 0 (bf (bd (fH d 2).2) (kH d (mG d) 55)))=eC d:=(by rw[iO];rfl);refine⟨rfl,?_⟩;have h1:=Zu (bf G (eC d));have h2:=SX 10 (bf (fH d 2).2.toNat (kH d (mG d) 55));rw[<-iO,cc,hll]at h2;rw[cc]at h1;rw[b9];omega
 case aa=>
  have hx0:E=2:=(by omega);subst hx0;have hx1:F=55:=(by omega);subst hx1;have hr:=iM d 2;have ht:=ve hr.1.1;have hbb:=ml d;have hll:(kH d (mG d) 55).length=64*55:=mm hp.2 (by omega) 55 (by omega);have hLL:eJ 10 (bk 0 (bf (bd (fH d 2).2) (kH d (mG d) 55)))=eC d:=(by rw[iO];rfl)
  (try rw[hLL]at h8);(try rw[hLL]at h9);(try rw[hLL]at h10);(try rw[hLL])
  have e:=Wa (L:=eC d) (i:=G) (by omega) h9;exact⟨G+1,⟨by omega,jD q_2.2 (.inr h10)⟩,by omega,⟨by omega,ba⟩,⟨rfl,rfl,e.symm,ba⟩,e.symm,(by trivial)⟩
 case ab=>
  have hx0:E=2:=(by omega);subst hx0;have hx1:F=55:=(by omega);subst hx1;have hr:=iM d 2;have ht:=ve hr.1.1;have hbb:=ml d;have hll:(kH d (mG d) 55).length=64*55:=mm hp.2 (by omega) 55 (by omega);have hLL:eJ 10 (bk 0 (bf (bd (fH d 2).2) (kH d (mG d) 55)))=eC d:=(by rw[iO];rfl)
  (try rw[hLL]at h8);(try rw[hLL]at h9);(try rw[hLL]at h10);(try rw[hLL])
  rw[Qr h1 (by omega) h5 (abF (i:=G) (by omega) q_2.2),dd (by omega)];exact⟨rfl,rfl,rfl,rfl⟩
def Tryz.QH:bY Tryz.prog Tryz.B.eT Tryz.X 48 false (aW Tryz.bM [.obj 0] (fun _ x=>dN x 1000000/\∀i,i<x.2.2.1.length->(nth .str x.2.2.1 i).length=64) Tryz.Eg):=
 aZ (X:=Tryz.X) Tryz.WM Tryz.func48 (by kernel_rfl) (fun(a:CD [.obj 0]) (x:PD Tryz.bM)=>Tryz.QG x) (fun(a:CD [.obj 0]) (x:PD Tryz.bM) hw hp=>ab4 x hw hp)
end Go.Proofs.YtgokjhhcfemnhabGreatDoor

namespace Go.Proofs.YtgokjhhcfemnhabGreatDoor
open Go.Vg Go.Shelf Go.RowKit
def Ge{P:Program}(w:World)(t e ty:TypeId)(z:Value)(ht:P.underlying t=some (.slice e))(hv:∀w,(zeroValue e).run P w=.ok z w)(h1:∀u∈z.cells,u.oneCell'=true)(b o n c:Nat)(hn:0<n)
  (hc:∀j,j<n*z.cells.size->(w.cell? ⟨b,o+j,none⟩).isSome=true)(hf:∀j,j<n*z.cells.size->w.frozen? ⟨b,o+j,none⟩=false) :
  (ee #[t] ty #[.slice (some ⟨b,o,none⟩) n c]).run P w=.ok (.tuple #[]) (w.setCells b o (cn z.cells n).toList):=by
 have hl:(cn z.cells n).toList.length=n*z.cells.size:=by rw[di,size_zeroCells]
 have hst:=run_storeCells_cells (P:=P) b o (cn z.cells n).toList 0 w (by simpa[hl]using hc) (by simpa[hl]using hf) (by
  intro v hv';simp[cn]at hv';obtain⟨k,hk,rfl⟩:=hv';by_cases h:k % z.cells.size<z.cells.size
  ·rw[getElem!_pos z.cells _ h];exact h1 _ (Array.getElem_mem h)
  ·have:z.cells.size=0:=by
    by_cases h0:z.cells.size=0
    ·exact h0
    ·exact absurd (Nat.mod_lt _ (by omega)) h
   rw[this]at hk;omega)
 simp only[du]at hst;obtain⟨m,rfl⟩:∃m,n=m+1:=⟨n-1,by omega⟩
 simp[ee,run_underlying ht,hv,hst]
def lS(b:Nat):∀(vs:List Value) (o:Nat) (w:World),(w.setCells b o vs).heap.size=w.heap.size
 |[],_,_=>rfl
 |v :: r,o,w=>(lS b r (o+1) _).trans (dx _ _ _)
def y9{b:Nat}{T:TypeId}:∀(news:List Value) (o:Nat) (w:World) (vs:Array Value),w.heap[b]?=some (.cells vs T (0,0))->o+news.length<=vs.size->
  ∃vs',(w.setCells b o news).heap[b]?=some (.cells vs' T (0,0))/\vs'.size=vs.size/\∀k,vs'[k]?=if k<o then vs[k]? else if k<o+news.length then news[k-o]? else vs[k]?:=by
 intro news;induction news with
 |nil=>intro o w vs hb _;exact⟨vs,hb,rfl,fun k=>by simp only[b4];split <;> (try rfl);rw[if_neg (by omega)]⟩
 |cons x r ih=>
  intro o w vs hb hle;simp only[bx]at hle;obtain⟨vs',h1,h2,h3⟩:=ih (o+1) (w.setCell ⟨b,o,none⟩ x) _ (Yw hb) (by simp;omega);refine⟨vs',h1,by simpa using h2,fun k =>?_⟩;rw[h3,bx];by_cases c1:k<o
  ·rw[if_pos (by omega),if_pos c1,Array.getElem?_setIfInBounds_ne (by omega)]
  ·by_cases c2:k=o
   ·subst c2
    rw[if_pos (by omega),if_neg c1,if_pos (by omega),Array.getElem?_setIfInBounds_self_of_lt (by omega)];simp
   ·rw[if_neg (by omega),if_neg c1]
    by_cases c3:k<o+1+r.length
    ·rw[if_pos c3,if_pos (by omega),show k-o=(k-(o+1))+1 by omega,List.getElem?_cons_succ]
    ·rw[if_neg c3,if_neg (by omega),Array.getElem?_setIfInBounds_ne (by omega)]
set_option maxHeartbeats 4000000 in
set_option maxRecDepth 1000000 in
def Tryz.adp:Wc Tryz.prog 99 3:=by
 intro b i j n cap vs T w hb hsz hij hj hcap hbig h1;obtain⟨te,ti,td,hu,hf⟩:=jb (t:=41) (e:=aB) Tryz.bI (by kernel_rfl);obtain⟨z,hz,hzr⟩:=hf.zero;have hu':=hu;rw[Tryz.underlying41]at hu';cases hu';obtain⟨news,hnews⟩:∃news,news=(vs.toList.drop (j*3)).take ((n-j)*3):=⟨_,rfl⟩
 have hle:n*3<=vs.size:=by omega
 have hlen:news.length=(n-j)*3:=by rw[hnews,cc,ed,di];omega
 have hget:∀(t:Nat) u,news[t]?=some u->vs[j*3+t]?=some u:=by
  intro t u ht;rw[hnews,List.getElem?_take]at ht;split at ht
  ·rw[List.getElem?_drop,Array.getElem?_toList]at ht;exact ht
  ·cases ht
 obtain⟨A,hA,hsrc⟩:∃A:Addr,(if cap=j then some (⟨b,0,none⟩:Addr)else some ⟨b,j*3,none⟩)=some A/\Hid (∀(t:Nat) u,news[t]?=some u->w.drew.cell? (A.add t)=some u):=by
  by_cases h:cap=j
  ·refine⟨⟨b,0,none⟩,by simp[h],fun t u hu =>?_⟩
   have h0:news.length=0:=by rw[hlen];omega
   rw[dr.1 h0]at hu;simp at hu
  ·refine⟨⟨b,j*3,none⟩,by simp[h],fun t u hu =>?_⟩
   rw[Addr.add_lit,cell_of_row w.drew b _ vs T (0,0) hb];exact hget t u hu
 have mixed:Tryz.prog.follows .mixedOrders=true:=by kernel_rfl
 have hs3:ti.size=3:=hf.size;have s1:Hid (news.length=(n-j)*3):=hlen;have s2:Hid (∀u∈news,u.oneCell'=true):=by
  intro u hu;obtain⟨t,ht⟩:=List.getElem?_of_mem hu;have:=bN ht;exact h1 (j*3+t) u (by omega) (hget t u ht)
 have s3:Hid (∀t,t<news.length->(w.drew.cell? ⟨b,0+i*3+t,none⟩).isSome=true/\w.drew.frozen? ⟨b,0+i*3+t,none⟩=false):=by
  intro t ht;rw[hlen]at ht;refine⟨?_,dh (w:=w.drew) hb _⟩;rw[cell_of_row w.drew b _ vs T (0,0) hb,Array.getElem?_eq_getElem (by omega)];rfl
 obtain⟨W1,hW1⟩:∃W1,W1=w.drew.setCells b (0+i*3) news:=⟨_,rfl⟩
 have hW:Hid (W1=w.drew.setCells b (0+i*3) news):=hW1;have hic:i<=cap:=by omega
 have hjc:j<=cap:=by omega
 have hne:¬((i:Int)=(j:Int)):=by omega
 have hzv:∀w,(zeroValue 48).run Tryz.prog w=.ok z w:=fun w=>by simp[zeroValue,typeInfo,hf.info,hz]
 have hz0:=mI (S:=aC (fun _ _=>False) ⟨[],[],0⟩ (fun _=>⟨.nilIface,[]⟩) w) (cx:=Tryz.B) hzr;have hzs:z.cells.size=3:=by
  rw[<-di];exact hz0.length.symm.trans (kd aB)
 obtain⟨vs1,v1,v2,v3⟩:=y9 (b:=b) (T:=T) news (0+i*3) w.drew vs hb (by omega);rw[<-hW1]at v1;have hU:=Ge (P:=Tryz.prog) W1 41 48 0 z Tryz.underlying41 hzv (fun u hu=>(EC (eT:=Tryz.B.eT) (A:=fun _ _=>False) (w:=w) hzr (by kernel_rfl)).mU u (by simpa using hu)) b ((i+(n-j))*3) (n-(i+(n-j))) (cap-(i+(n-j))) (by omega)
  (fun t ht=>by rw[hzs]at ht;rw[cell_of_row W1 b _ vs1 T (0,0) v1,Array.getElem?_eq_getElem (by omega)];rfl) (fun t ht=>dh v1 _)
 obtain⟨W2,hW2⟩:∃W2,W2=W1.setCells b ((i+(n-j))*3) (cn z.cells (n-(i+(n-j)))).toList:=⟨_,rfl⟩
 rw[<-hW2]at hU;have hzl:(cn z.cells (n-(i+(n-j)))).toList.length=(n-(i+(n-j)))*3:=by rw[di,size_zeroCells,hzs]
 obtain⟨vs2,u1,u2,u3⟩:=y9 (b:=b) (T:=T) (cn z.cells (n-(i+(n-j)))).toList ((i+(n-j))*3) W1 vs1 v1 (by omega);rw[<-hW2]at u1;have hfin:Hid (W2.os=w.os/\W2.output=w.output/\W2.heap.size=w.heap.size/\(∀k,k≠b->W2.heap[k]?=w.heap[k]?)/\
       ∃vs',W2.heap[b]?=some (Obj.cells vs' T (0,0))/\vs'.size=vs.size/\∀k,k<(i+(n-j))*3->vs'[k]?=vs[if k<i*3 then k else k+(j-i)*3]?):=by
  refine⟨by rw[hW2,hW1,e7,e7];rfl,by rw[hW2,hW1,e8,e8];rfl,by rw[hW2,hW1,lS,lS];rfl,fun k hk =>?_,vs2,u1,by omega,fun k hk =>?_⟩
  ·by_cases hlt:k<w.heap.size
   ·rw[hW2,e9 _ _ _ _ (by rw[hW1,lS];exact hlt) hk,hW1,e9 w.drew _ _ _ (show k<w.drew.heap.size from hlt) hk];rfl
   ·rw[Array.getElem?_eq_none (by rw[hW2,hW1,lS,lS];show w.heap.size<=k;omega),Array.getElem?_eq_none (by omega)]
  ·rw[u3,if_pos hk,v3]
   by_cases c:k<i*3
   ·rw[if_pos (by omega),if_pos c]
   ·rw[if_neg (by omega),if_pos (by omega),if_neg c,hnews,List.getElem?_take,if_pos (by omega),List.getElem?_drop,Array.getElem?_toList]
    congr 1;omega
 have hU:Hid ((ee #[41] 0 #[.slice (some ⟨b,(i+(n-j))*3,none⟩) (n-(i+(n-j))) (cap-(i+(n-j)))]).run Tryz.prog W1=.ok (.tuple #[]) W2):=hU;have hU:=hU.out;clear hW1 hget hnews hlen h1 hW2 u1 u2 u3 v1 v2 v3 hzl
 go_enter Tryz.func99,Tryz.ntmps99
 go_wp2_with fail
 go_region_law_o (refine step_append_room rfl (.tmp 22) (.tmp 25) 41 rfl 48 ti 3 Tryz.underlying41 hf.info hs3 b 0 i cap (by simp[Act.eval,Act.put]) A (n-j) (cap-j) news (by simp[Act.eval,Act.put,hA]) s1.out hsrc.out s2.out (by omega) s3.out ?_;rw[<-hW.out])
 go_wp2
 go_ret
 exact⟨rfl,hfin.out⟩
end Go.Proofs.YtgokjhhcfemnhabGreatDoor

namespace Go.Proofs.YtgokjhhcfemnhabGreatDoor
open Go.Vg Go.Mrl
def Tryz.adV:∃fn,Tryz.prog.funcs[99]?=some fn/\fn.body.isNone=false/\(fn.name == "runtime.NumGoroutine")=false:=⟨_,Tryz.func99,by kernel_rfl,by kernel_rfl⟩
def Tryz.QI:List (FuncId×(Bool×aX)):=[(95,Tryz.spZ13),(99,(false,GZ aB)),(96,Tryz.spZ14),(98,Tryz.spZ16)]
def Tryz.WN:bL Tryz.prog Tryz.B Tryz.X Tryz.QI:=
 aM (gz (bJ Tryz.bI) Tryz.func95 (by kernel_rfl) []) (aM (SY Tryz.adV Tryz.adp) (aM (Tryz.G4) (aM (Tryz.QC) (bJ Tryz.bI))))
def ab5{x:Sh}{s:aD}(h:¬0<=eS x.1.2.1 s):ir x s=(x,5):=by unfold ir;rw[if_neg h]
def Z1{x:Sh}{s:aD}(h:0<=eS x.1.2.1 s):ir x s=vb x (x.1.2.1.take (eS x.1.2.1 s).toNat++x.1.2.1.drop (eS x.1.2.1 s+1).toNat):=by
 unfold ir;rw[if_pos h,List.eraseIdx_eq_take_drop_succ,show(eS x.1.2.1 s+1).toNat=(eS x.1.2.1 s).toNat+1 by omega]
def Tryz.Eh:List (Alt Tryz.cH [.obj 0,.d .str]):=[{bS:=Tryz.cH,res:=[.d .err],out:=fun a x=>(ir x a.1).1,ret:=fun a x=>(aL (ir x a.1).2,())}]
def ab6(s:List UInt8)(r:Int)(o:List (D aB))(d:Dk)(hw:fM [.obj 0,.d .str] (s,()))(hp:(fun _ x=>x.1.2.1.length<=100/\0<=(x.1.1:Int)/\(x.1.1:Int)<=1000000000/\dN x.2 1000000) (s,()) ((r,o,()),d)):(cO Tryz.B Tryz.QI Tryz.f54 [] Tryz.cH [.obj 0,.d .str] Tryz.Eh (s,()) ((r,o,()),d)).holds:=by
 refine holds_of (p:=
  let za:=d.2.2.2.1=d.2.2.2.1
  let zb:=eS o s
  let zc:=((r,o,()),d)
  let zd:=(ir zc s).1
  let ze:=(aL (ir zc s).2,())
  let zf:=bb o
  let zg:=zb+1
  let zh:=bf (bd zb) o++bk (bd zg) o
  let zi:=gy d r zh
  let zj:=zi.1.2.2.2.1
  za/\True/\(True->((decide (zb<0))=true->za/\True/\zc=zd/\(aS.no 5,())=ze)/\((decide (zb<0))=false->∀E:Bool,(0<zf->E=false)->(E=true->aF zb->aF 1->aF zg/\False)/\(E=false->zf<=1000000000/\(aF zb->aF 1->aF zg/\(0<=zb/\zb<zg/\zg<=(↑zf:Int))/\za/\(bb zh<=100/\0<=r/\r<=1000000000/\dN d 1000000)/\(True->zj=zj/\True/\(if zi.2=0 then(r+1,zh,())else(r,o,()),zi.1)=zd/\(aL zi.2,())=ze)))))) (by kernel_rfl) ?_
 dsimp -iota -proj -eta only;dsimp only at hp;exact⟨rfl,ba,fun h0=>iL (fun h1=>(by rw[ab5 (x:=((r,o,()),d)) (show ¬0<=eS o s by omega)];exact⟨rfl,ba,rfl,rfl⟩)) (fun h1 E q_0=>⟨fun h2 h3 h4=>⟨(by exfalso;have:=Bf q_0 h2;subst this;exact qI s (by omega)),(by have:=Bf q_0 h2;subst this;exact qI s (by omega))⟩,fun h2=>⟨(by omega),fun h3 h4=>⟨(by have:=rV o s;have hh:o.length<=100:=hp.1;unfold aF;omega),(by have:=rV o s;exact⟨by omega,by omega,by omega⟩),rfl,(by have hh:o.length<=100:=hp.1;refine⟨?_,hp.2⟩;rw[bw,cc,ed];omega),fun h5=>(by rw[Z1 (x:=((r,o,()),d)) (show 0<=eS o s by omega)];exact⟨rfl,ba,rfl,rfl⟩)⟩⟩⟩)⟩
def Tryz.ab7:bY Tryz.prog Tryz.B.eT Tryz.X 54 false (aW Tryz.cH [.obj 0,.d .str] (fun _ x=>x.1.2.1.length<=100/\0<=(x.1.1:Int)/\(x.1.1:Int)<=1000000000/\dN x.2 1000000) Tryz.Eh):=
 aZ (X:=Tryz.X) Tryz.WN Tryz.func54 (by kernel_rfl) (fun(a:CD [.obj 0,.d .str]) (x:PD Tryz.cH)=>[]) (fun(a:CD [.obj 0,.d .str]) (x:PD Tryz.cH) hw hp=>ab6 a.1 x.1.1 x.1.2.1 x.2 hw hp)
def Tryz.spZ23:Bool×aX:=(false,aW Tryz.bM [.obj 0] (fun _ x=>dN x 1000000/\∀i,i<x.2.2.1.length->(nth .str x.2.2.1 i).length=64) Tryz.Eg)
def Tryz.Gf:List (FuncId×(Bool×aX)):=[(49,Tryz.spZ0),(50,Tryz.spZ1),(156,Tryz.spZ2),(83,Tryz.spZ3),(11,Tryz.spZ4),(88,Tryz.spZ11),(92,(false,aW Tryz.bM [.obj 0,.d (.int .i64)] (fun _ _=>True) Tryz.Eb)),(89,Tryz.spZ12),(197,(false,aW Tryz.bM [.obj 0,.d (.int .i64)] (fun _ _=>True) Tryz.G3)),(91,Tryz.spZ22),(87,Tryz.spZ21),(198,(false,aW Tryz.bM [.obj 0,.d (.int .u64)] (fun _ x=>x.2.1.length=x.2.2.1.length/\∀i,i<x.2.2.2.1.length->0<=((nth kJ x.2.2.2.1 i).1:Int)/\((nth kJ x.2.2.2.1 i).1:Int)<x.2.2.1.length) Tryz.vY)),(46,(false,aW [] [.d (.int .i64)] (fun _ _=>True) Tryz.Ed)),(48,Tryz.spZ23),(47,(false,aW Tryz.bM [.obj 0] (fun _ x=>dN x 1000000) Tryz.yz))]
def Tryz.M3:bL Tryz.prog Tryz.B Tryz.X Tryz.Gf:=
 aM (aE Tryz.js) (aM (aE Tryz.fI) (aM (aE Tryz.kE) (aM (aE Tryz.jt) (aM (aE Tryz.kG) (aM (Tryz.Bo) (aM (Tryz.ZR) (aM (Tryz.Bq) (aM (Tryz.abU) (aM (Tryz.MV) (aM (Tryz.vX) (aM (Tryz.OV) (aM (Tryz.abW) (aM (Tryz.QH) (aM (Tryz.WL) (bJ Tryz.bI)))))))))))))))
def Tryz.vZ:List (Alt [] []):=[{bS:=Tryz.cH,res:=[.obj 1,.obj 0,.d .bool],out:=fun _ _=>kD,ret:=fun _ _=>(true,())}]
def Tm  (hw:fM [] ()):(cO Tryz.B Tryz.Gf Tryz.f8 [] [] [] Tryz.vZ () ()).holds:=by
 refine holds_of (p:=
  let za:=cj 112 (fK (@bc UInt8))
  let zb:=(((-1:Int),false,()),za,za,[],())
  let zc:=(lR zb).1
  let zd:=zc.2.2.2.1=zc.2.2.2.1
  let ze:=(dP zc).2
  let zf:=(((dP zc).1.1,(dP zc).1.2,()),zc)=kD
  let zg:=(true,())
  True/\(((112:Int)<(1:Int)\/(120:Int)<(112:Int))->((!aS.isNil (aS.no (1:Int)))=true->False)/\((!aS.isNil (aS.no (1:Int)))=false->False))/\((1:Int)<=(112:Int)/\(112:Int)<=(120:Int)->((!aS.isNil aS.nil)=true->False)/\((!aS.isNil aS.nil)=false->(@bc (Int×List UInt8×Unit)=@bc (Int×List UInt8×Unit))/\dN zb 1000000/\(True->((!aS.isNil (aL (lR zb).2))=true->False)/\((!aS.isNil (aL (lR zb).2))=false->zd/\(dN zc 1000000/\∀(i:Nat),i<bb zc.2.2.1->bb (nth Ty.str zc.2.2.1 i)=64)/\(ze≠(0:Int)->((aS.isNil (aL ze))=true->False)/\((aS.isNil (aL ze))=false->False))/\(ze=(0:Int)->((aS.isNil aS.nil)=true->zd/\True/\zf/\zg=zg)/\((aS.isNil aS.nil)=false->zd/\True/\zf/\(false,())=zg))))))) (by kernel_rfl) ?_
 dsimp -iota -proj -eta only;refine⟨ba,⟨fun h0=>⟨fun h1=>(by trivial),fun h1=>absurd (show true=false from h1) (by decide)⟩,fun h0=>⟨fun h1=>absurd (show false=true from h1) (by decide),fun h1=>⟨rfl,⟨dj _,b7 _,rfl⟩,fun h2=>iB (fun h3=>(fA h3 ((vg (yu (dj _)))).1)) (fun h3=>⟨rfl,⟨((vg (yu (dj _)))).2.vh,((vg (yu (dj _)))).2.iV.sec⟩,⟨fun h4=>⟨fun h5 =>?a,fun h5 =>?b⟩,fun h4=>⟨fun h5=>⟨rfl,ba,Prod.ext gL.again rfl,rfl⟩,fun h5=>absurd (show true=false from h5) (by decide)⟩⟩⟩)⟩⟩⟩⟩
 case a|b=>exact h4 gL.B8
def Tryz.Gg:bY Tryz.prog Tryz.B.eT Tryz.X 8 false (aW [] [] (fun _ _=>True) Tryz.vZ):=
 aZ (X:=Tryz.X) Tryz.M3 Tryz.func8 (by kernel_rfl) (fun(a:CD []) (x:PD [])=>[]) (fun(a:CD []) (x:PD []) hw hp=>Tm  hw)
def Z2(x:Int)(hw:eD [.int .u64] x)(hp:(fun x=>0<=x/\x<=100) x):(cL Tryz.B [] Tryz.f184 [] [.int .u64] [.int .i64] (fun _ _=>True) x).holds:=by
 refine holds_of (p:=
  let za:=(0:Int)<=(16:Int)
  let zb:=(2:Int)^min 16 (b3 bq)
  let zc:=aF (32:Int)
  let zd:=(32:Int)+(16:Int)
  let ze:=fun(F:Int)=>decide (F>=(256:Int))
  let zf:=(0:Int)<=(8:Int)
  let zg:=(2:Int)^min 8 (b3 bq)
  let zh:=aF (8:Int)
  let zi:=aF (zd+(8:Int))
  let zj:=[(8:UInt8),8,8,8,8,8,8,8,8,8,8,8,8,8,8,8,8,8,8,8,8,8,8,8,8,8,8,8,8,8,8,8,8,8,8,8,8,8,8,8,8,8,8,8,8,8,8,8,8,8,8,8,8,8,8,8,8,8,8,8,8,8,8,8]
  let zk:=ef (ef [(0:UInt8),1,2,2,3,3,3,3,4,4,4,4,4,4,4,4,5,5,5,5,5,5,5,5,5,5,5,5,5,5,5,5,6,6,6,6,6,6,6,6,6,6,6,6,6,6,6,6,6,6,6,6,6,6,6,6,6,6,6,6,6,6,6,6] [(7:UInt8),7,7,7,7,7,7,7,7,7,7,7,7,7,7,7,7,7,7,7,7,7,7,7,7,7,7,7,7,7,7,7,7,7,7,7,7,7,7,7,7,7,7,7,7,7,7,7,7,7,7,7,7,7,7,7,7,7,7,7,7,7,7,7]) (ef zj zj)
  let zl:=(↑(bb zk):Int)
  let zm:=fun(G:Int)=>(0:Int)<=bh b6 G/\bh b6 G<zl
  let zn:=fun(G:Int)=>(↑(br (bR zk (bd (bh b6 G)))):Int)
  let zo:=fun(G:Int)=>aF (zn G)
  let zp:=(32:Int)+(8:Int)
  let zq:=aF (0:Int)
  let zr:=(0:Int)+(16:Int)
  let zs:=aF (zr+(8:Int))
  let zt:=(0:Int)+(8:Int)
  let zu:=bh b6 x
  let zv:=(↑(br (bR zk (bd zu))):Int)
  ((decide (x>=(4294967296:Int)))=true->(0:Int)<=(32:Int)/\∀E:Int,E=bu x ((2:Int)^min 32 (b3 bq))->((decide (E>=(65536:Int)))=true->za/\∀F:Int,F=bu E zb->zc->aF (16:Int)->aF zd/\((ze F)=true->zf/\∀G:Int,G=bu F zg->aF zd->zh->zi/\zm G/\(zi->zo G->aF (zd+(8:Int)+zn G)/\True))/\((ze F)=false->zm F/\(aF zd->zo F->aF (zd+zn F)/\True)))/\((decide (E>=(65536:Int)))=false->((ze E)=true->zf/\∀F:Int,F=bu E zg->zc->zh->aF zp/\zm F/\(aF zp->zo F->aF (zp+zn F)/\True))/\((ze E)=false->zm E/\(zc->zo E->aF ((32:Int)+zn E)/\True))))/\((decide (x>=(4294967296:Int)))=false->((decide (x>=(65536:Int)))=true->za/\∀E:Int,E=bu x zb->zq->aF (16:Int)->aF zr/\((ze E)=true->zf/\∀F:Int,F=bu E zg->aF zr->zh->zs/\zm F/\(zs->zo F->aF (zr+(8:Int)+zn F)/\True))/\((ze E)=false->zm E/\(aF zr->zo E->aF (zr+zn E)/\True)))/\((decide (x>=(65536:Int)))=false->((decide (x>=(256:Int)))=true->zf/\∀E:Int,E=bu x zg->zq->zh->aF zt/\zm E/\(aF zt->zo E->aF (zt+zn E)/\True))/\((decide (x>=(256:Int)))=false->((0:Int)<=zu/\zu<zl)/\(zq->aF zv->aF ((0:Int)+zv)/\True))))) (by kernel_rfl) ?_
 dsimp -iota -proj -eta only;refine iE (fun h0=>⟨?a,fun E q_0=>iE (fun h1=>⟨?b,fun F q_1 h2 h3=>⟨?c,iE (fun h4=>⟨?d,fun G q_2 h5 h6=>⟨?e,?f,fun h7 h8=>⟨?g,ba⟩⟩⟩) (fun h4=>⟨?h,fun h5 h6=>⟨?i,ba⟩⟩)⟩⟩) (fun h1=>iE (fun h2=>⟨?j,fun F q_1 h3 h4=>⟨?k,?l,fun h5 h6=>⟨?m,ba⟩⟩⟩) (fun h2=>⟨?n,fun h3 h4=>⟨?o,ba⟩⟩))⟩) (fun h0=>iE (fun h1=>⟨?p,fun E q_0 h2 h3=>⟨?q,iE (fun h4=>⟨?r,fun F q_1 h5 h6=>⟨?s,?t,fun h7 h8=>⟨?u,ba⟩⟩⟩) (fun h4=>⟨?v,fun h5 h6=>⟨?w,ba⟩⟩)⟩⟩) (fun h1=>iE (fun h2=>⟨?x,fun E q_0 h3 h4=>⟨?y,?z,fun h5 h6=>⟨?a0,ba⟩⟩⟩) (fun h2=>⟨?a1,fun h3 h4=>⟨(by simp only[aF,aI]at*;omega),ba⟩⟩)))
 case a|b|c|d|e|j|k|p|q|r|s|x|y=>trivial
 case f|g|h|i|l|m|n|o|t|u|v|w|z|a0=>omega
 case a1=>
  rw[show b6.wrap x=x from rC (by simp[IntKind.min,IntKind.max,IntKind.signed,b3];omega)];show(0:Int)<=x/\x<256;omega
def Tryz.Z3:bO Tryz.prog Tryz.B.eT Tryz.X 184 [.int .u64] [.int .i64] (fun x=>0<=x/\x<=100) (fun _ _=>True):=
 bP (X:=Tryz.X) (bJ Tryz.bI) Tryz.func184 (by kernel_rfl) (fun _=>[]) (fun x hw hp=>Z2 x hw hp)
def Tryz.spZ24:Bool×aX:=(true,qq [.int .u64] [.int .i64] (fun x=>0<=x/\x<=100) (fun _ _=>True))
def Tryz.M4:List (FuncId×(Bool×aX)):=[(184,Tryz.spZ24)]
def Tryz.Tn:bL Tryz.prog Tryz.B Tryz.X Tryz.M4:=
 aM (ju Tryz.Z3) (bJ Tryz.bI)
def adq(x:Int)(hw:eD [.int .u64] x)(hp:(fun x=>0<=x/\x<=100) x):(cL Tryz.B Tryz.M4 Tryz.f140 [] [.int .u64] [.int .i64] (fun _ _=>True) x).holds:=by
 refine holds_of (p:=
  (0<=x/\x<=100)/\∀E:Int,True->True) (by kernel_rfl) ?_
 exact⟨(by trivial),fun E q_0=>trivial⟩
def Tryz.adr:bO Tryz.prog Tryz.B.eT Tryz.X 140 [.int .u64] [.int .i64] (fun x=>0<=x/\x<=100) (fun _ _=>True):=
 bP (X:=Tryz.X) Tryz.Tn Tryz.func140 (by kernel_rfl) (fun _=>[]) (fun x hw hp=>adq x hw hp)
def Z4(x:List UInt8)(hw:eD [.str] x):(cL Tryz.B [] Tryz.f216 [] [.str] [.bool] (fun x y=>y=(fun _=>false) x) x).holds:=by
 refine holds_of (p:=
  (!x == x)=false) (by kernel_rfl) ?_
 exact(by simp_all)
def Tryz.Z5:bO Tryz.prog Tryz.B.eT Tryz.X 216 [.str] [.bool] (fun _=>True) (fun x y=>y=(fun _=>false) x):=
 bP (X:=Tryz.X) (bJ Tryz.bI) Tryz.func216 (by kernel_rfl) (fun _=>[]) (fun x hw hp=>Z4 x hw)
def Tryz.WO:List (FuncId×(Bool×aX)):=[(216,(true,bX [.str] [.bool] (fun _=>True) (fun _=>false)))]
def Tryz.Z6:bL Tryz.prog Tryz.B Tryz.X Tryz.WO:=
 aM (aE Tryz.Z5) (bJ Tryz.bI)
def ab8(x:List UInt8)(y:List UInt8)(hw:eD [.str,.str] (x,y)):(cL Tryz.B Tryz.WO Tryz.f180 [] [.str,.str] [.bool] (fun x y=>y=(fun x=>cy x.1 x.2) x) (x,y)).holds:=by
 refine holds_of (p:=
  let za:=cy x y
  True/\(false=true->True/\((!false)=true->true=za)/\((!false)=false->za=za))/\(false=false->za=za)) (by kernel_rfl) ?_
 dsimp -iota -proj -eta only;exact⟨ba,⟨fun h0=>absurd (show false=true from h0) (by decide),fun h0=>rfl⟩⟩
def Tryz.ab9:bO Tryz.prog Tryz.B.eT Tryz.X 180 [.str,.str] [.bool] (fun _=>True) (fun x y=>y=(fun x=>cy x.1 x.2) x):=
 bP (X:=Tryz.X) Tryz.Z6 Tryz.func180 (by kernel_rfl) (fun _=>[]) (fun x hw hp=>ab8 x.1 x.2 hw)
def Tryz.QJ:List (FuncId×(Bool×aX)):=[(180,(true,bX [.str,.str] [.bool] (fun _=>True) (fun x=>cy x.1 x.2)))]
def Tryz.WQ:bL Tryz.prog Tryz.B Tryz.X Tryz.QJ:=
 aM (aE Tryz.ab9) (bJ Tryz.bI)
def WR(_ _:Int)(xs:List (List UInt8)):cU:=[
 (0,fun st=>{X:=Nat×List (List UInt8),inv:=fun x=>x.1<=xs.length+1/\x.2.length=xs.length/\cm x.2 xs/\Ax x.2 x.1,bF:=fun x=>xs.length+1-x.1,aY:=fun x=>[(6,sI x.1)],aH:=fun x=>[(0,.bC .str x.2)],keep:=[0,1,2],eA:=[0]}),
 (2,fun st=>{X:=Nat×List (List UInt8),inv:=fun x=>x.1<=(bG (.int .i64) st 6).toNat/\x.2.length=xs.length/\cm x.2 xs/\yV x.2 (bG (.int .i64) st 6).toNat x.1,bF:=fun x=>x.1,aY:=fun x=>[(7,sI x.1)],aH:=fun x=>[(0,.bC .str x.2)],keep:=[0,1,2,6,10,11,12,15],eA:=[0]})]
def G9:List (Alt [.row true .str] [.obj 0,.d (.int .i64),.d (.int .i64)]):=[{bS:=[.row true .str],res:=[],out:=fun _ x=>(sg x.1,()),ret:=fun _ _=>()}]
def To(a:Int)(b:Int)(xs:List (List UInt8))(hw:fM [.obj 0,.d (.int .i64),.d (.int .i64)] (a,b,()))(hp:(fun a x=>a.1=0/\a.2.1=x.1.length/\x.1.length<=12) (a,b,()) (xs,())):(cO Tryz.B Tryz.QJ Tryz.f174 (WR a b xs) [.row true .str] [.obj 0,.d (.int .i64),.d (.int .i64)] G9 (a,b,()) (xs,())).holds:=by
 refine holds_of (p:=
  let za:=aF 1
  let zb:=Nat×List (List UInt8)
  let zc:=bb xs
  let zd:=zc+1
  let ze:=fun(E:Nat×List (List UInt8))=>(↑E.1:Int)
  let zf:=fun(F:Nat×List (List UInt8))=>0<=ze F/\ze F<(↑(bb F.2):Int)
  let zg:=fun(F:Nat×List (List UInt8))=>F.1<bb F.2
  let zh:=fun(F:Nat×List (List UInt8))=>ze F-1
  let zi:=fun(F:Nat×List (List UInt8))=>0<=zh F/\zh F<(↑(bb F.2):Int)
  let zj:=fun(F:Nat×List (List UInt8))=>bd (zh F)<bb F.2
  let zk:=fun(F:Nat×List (List UInt8))=>db F.2 F.1 (nth Ty.str F.2 (bd (zh F)))
  let zl:=fun(E:Nat×List (List UInt8)) (F:Nat×List (List UInt8))=>aF (ze E)->za->aF (ze E+1)/\∃(x':zb),(bj x'<=zd/\bb (bg x')=zc/\cm (bg x') xs/\Ax (bg x') (bj x'))/\zd-bj x'<zd-E.1/\(ze E+1=(↑(bj x'):Int)/\True)/\F.2=bg x'/\True
  aF a->za->aF (a+1)/\(∃(x:zb),(bj x<=zd/\bb (bg x)=zc/\cm (bg x) xs/\Ax (bg x) (bj x))/\(a+1=(↑(bj x):Int)/\True)/\xs=bg x/\True)/\∀E:Nat×List (List UInt8),E.1<=zd/\bb E.2=zc/\cm E.2 xs/\Ax E.2 E.1->((decide (ze E<b))=true->(∃(x:zb),(bj x<=E.1/\bb (bg x)=zc/\cm (bg x) xs/\yV (bg x) E.1 (bj x))/\(ze E=(↑(bj x):Int)/\True)/\E.2=bg x/\True)/\∀F:Nat×List (List UInt8),F.1<=E.1/\bb F.2=zc/\cm F.2 xs/\yV F.2 E.1 F.1->((decide (ze F > a))=true->zf F/\zg F/\(aF (ze F)->za->aF (zh F)/\zi F/\zj F/\True/\((cy (nth Ty.str F.2 F.1) (nth Ty.str F.2 (bd (zh F))))=true->aF (ze F)->za->aF (zh F)/\(aF (ze F)->za->aF (zh F)/\zi F/\zj F/\zf F/\zg F/\zf F/\zg F/\(0<=zh F/\zh F<(↑(bb (zk F)):Int))/\bd (zh F)<bb (zk F)/\(aF (ze F)->za->aF (zh F)/\∃(x':zb),(bj x'<=E.1/\bb (bg x')=zc/\cm (bg x') xs/\yV (bg x') E.1 (bj x'))/\bj x'<F.1/\(zh F=(↑(bj x'):Int)/\True)/\db (zk F) (bd (zh F)) (nth Ty.str F.2 F.1)=bg x'/\True)))/\((cy (nth Ty.str F.2 F.1) (nth Ty.str F.2 (bd (zh F))))=false->zl E F)))/\((decide (ze F > a))=false->zl E F))/\((decide (ze E<b))=false->True/\(E.2,())=(sg xs,())/\()=())) (by kernel_rfl) ?_
 dsimp -iota -proj -eta only;dsimp only at hp;refine fun h0 h1=>⟨?a,(⟨(1,xs),⟨by omega,rfl,.refl _,fun a b h1 h2=>by omega⟩,⟨by omega,ba⟩,rfl,ba⟩),fun E q_0=>iL (fun h2=>⟨(⟨(E.1,E.2),⟨by omega,q_0.2.1,q_0.2.2.1,yV.start q_0.2.2.2⟩,⟨rfl,ba⟩,rfl,ba⟩),fun F q_1=>iL (fun h3=>⟨?b,?c,fun h4 h5=>⟨?d,?e,?f,ba,⟨fun h6 h7 h8=>⟨?g,fun h9 h10=>⟨?h,?i,?j,?k,?l,?m,?n,?o,?p,fun h11 h12=>⟨?q,?r⟩⟩⟩,fun h6 h7 h8=>⟨?s,?t⟩⟩⟩⟩) (fun h3 h4 h5=>⟨?u,(by exact⟨(E.1+1,F.2),⟨by simp only;omega,q_1.2.1,q_1.2.2.1,q_1.2.2.2.done (.inl (by omega)) (by omega)⟩,by simp only;omega,⟨by simp only;omega,ba⟩,rfl,(by trivial)⟩)⟩)⟩) (fun h2=>⟨ba,by rw[UQ q_0.2.2.1 (fun a b h1 h2=>q_0.2.2.2 a b h1 (by omega))],rfl⟩)⟩
 case a|d|g|h|q|s|u=>simp only[aF,aI]at*;omega
 case b|c|e|f|i|j|k|l|m|n=>omega
 case o|p=>rw[dT];omega
 case r=>
  have e:((F.1:Int)-1).toNat=F.1-1:=(by omega);rw[e];exact⟨(F.1-1,uT F.2 F.1),⟨by simp only;omega,by rw[Li];exact q_1.2.1,(RP (by omega) (by omega)).trans q_1.2.2.1,q_1.2.2.2.swap (by omega) (by omega) (by omega) (by unfold pJ;rw[<-e];exact h6)⟩,by simp only;omega,⟨by simp only;omega,ba⟩,rfl,(by trivial)⟩
 case t=>
  have e:((F.1:Int)-1).toNat=F.1-1:=(by omega);rw[e]at h6;exact⟨(E.1+1,F.2),⟨by simp only;omega,q_1.2.1,q_1.2.2.1,q_1.2.2.2.done (.inr (by unfold pJ;rw[h6];simp)) (by omega)⟩,by simp only;omega,⟨by simp only;omega,ba⟩,rfl,(by trivial)⟩
def Tryz.Tp:bY Tryz.prog Tryz.B.eT Tryz.X 174 false (aW [.row true .str] [.obj 0,.d (.int .i64),.d (.int .i64)] (fun a x=>a.1=0/\a.2.1=x.1.length/\x.1.length<=12) G9):=
 aZ (X:=Tryz.X) Tryz.WQ Tryz.func174 (by kernel_rfl) (fun(a:CD [.obj 0,.d (.int .i64),.d (.int .i64)]) (x:PD [.row true .str])=>WR a.1 a.2.1 x.1) (fun(a:CD [.obj 0,.d (.int .i64),.d (.int .i64)]) (x:PD [.row true .str]) hw hp=>To a.1 a.2.1 x.1 hw hp)
def Tryz.WS:List (FuncId×(Bool×aX)):=[(174,(false,aW [.row true .str] [.obj 0,.d (.int .i64),.d (.int .i64)] (fun a x=>a.1=0/\a.2.1=x.1.length/\x.1.length<=12) G9))]
def Tryz.Z7:bL Tryz.prog Tryz.B Tryz.X Tryz.WS:=
 aM (Tryz.Tp) (bJ Tryz.bI)
def WT(a b _:Int)(_:List (List UInt8)):cU:=[(0,fun st=>{X:=Unit,inv:=fun _=>True,bF:=fun _=>0,aY:=fun _=>[(1,sI a),(2,sI b)],keep:=[0]})]
def Ha:List (Alt [.row true .str] [.obj 0,.d (.int .i64),.d (.int .i64),.d (.int .i64)]):=[{bS:=[.row true .str],res:=[],out:=fun _ x=>(sg x.1,()),ret:=fun _ _=>()}]
def ads(a:Int)(b:Int)(c:Int)(xs:List (List UInt8))(hw:fM [.obj 0,.d (.int .i64),.d (.int .i64),.d (.int .i64)] (a,b,c,()))(hp:(fun a x=>a.1=0/\a.2.1=x.1.length/\x.1.length<=12) (a,b,c,()) (xs,())):(cO Tryz.B Tryz.WS Tryz.f139 (WT a b c xs) [.row true .str] [.obj 0,.d (.int .i64),.d (.int .i64),.d (.int .i64)] Ha (a,b,c,()) (xs,())).holds:=by
 refine holds_of (p:=
  let za:=(sg xs,())
  (∃(x:Unit),True/\(a=a/\b=b/\True)/\True)/\∀E:Unit,True->aF b->aF a->aF (b-a)/\((decide (b-a<=12))=true->(a=0/\b=(↑(bb xs):Int)/\bb xs<=12)/\(True->True/\za=za/\()=()))/\((decide (b-a<=12))=false->False)) (by kernel_rfl) ?_
 dsimp -iota -proj -eta only;dsimp only at hp;refine⟨(by simp_all),fun E q_0 h0 h1=>⟨(by simp only[aF,aI]at*;omega),iE (fun h2=>⟨?a,fun h3 =>?b⟩) (fun h2=>(by omega))⟩⟩
 case a|b=>trivial
def Tryz.adt:bY Tryz.prog Tryz.B.eT Tryz.X 139 false (aW [.row true .str] [.obj 0,.d (.int .i64),.d (.int .i64),.d (.int .i64)] (fun a x=>a.1=0/\a.2.1=x.1.length/\x.1.length<=12) Ha):=
 aZ (X:=Tryz.X) Tryz.Z7 Tryz.func139 (by kernel_rfl) (fun(a:CD [.obj 0,.d (.int .i64),.d (.int .i64),.d (.int .i64)]) (x:PD [.row true .str])=>WT a.1 a.2.1 a.2.2.1 x.1) (fun(a:CD [.obj 0,.d (.int .i64),.d (.int .i64),.d (.int .i64)]) (x:PD [.row true .str]) hw hp=>ads a.1 a.2.1 a.2.2.1 x.1 hw hp)
def Tryz.WU:List (FuncId×(Bool×aX)):=[(139,(false,aW [.row true .str] [.obj 0,.d (.int .i64),.d (.int .i64),.d (.int .i64)] (fun a x=>a.1=0/\a.2.1=x.1.length/\x.1.length<=12) Ha)),(140,Tryz.spZ24)]
def Tryz.Z8:bL Tryz.prog Tryz.B Tryz.X Tryz.WU:=
 aM (Tryz.adt) (aM (ju Tryz.adr) (bJ Tryz.bI))
def sortAlts:List (Alt [.row true .str] [.obj 0]):=[{bS:=[.row true .str],res:=[],out:=fun _ x=>(sg x.1,()),ret:=fun _ _=>()}]
def aca(xs:List (List UInt8))(hw:fM [.obj 0] ())(hp:(fun _ x=>x.1.length<=12) () (xs,())):(cO Tryz.B Tryz.WU Tryz.f107 [] [.row true .str] [.obj 0] sortAlts () (xs,())).holds:=by
 refine holds_of (p:=
  let za:=bb xs
  let zb:=(↑za:Int)
  let zc:=(sg xs,())
  za<=aI->((0:Int)<=bh bq zb/\bh bq zb<=(100:Int))/\∀E:Int,True->((0:Int)=(0:Int)/\zb=zb/\za<=12)/\(True->True/\zc=zc/\()=())) (by kernel_rfl) ?_
 dsimp -iota -proj -eta only;dsimp only at hp;refine fun h0=>⟨(by rw[lQ (by omega) (by omega)];omega),fun E q_0=>⟨?a,fun h1 =>?b⟩⟩
 case a|b=>trivial
def Tryz.acb:bY Tryz.prog Tryz.B.eT Tryz.X 107 false (aW [.row true .str] [.obj 0] (fun _ x=>x.1.length<=12) sortAlts):=
 aZ (X:=Tryz.X) Tryz.Z8 Tryz.func107 (by kernel_rfl) (fun(a:CD [.obj 0]) (x:PD [.row true .str])=>[]) (fun(a:CD [.obj 0]) (x:PD [.row true .str]) hw hp=>aca x.1 hw hp)
@[reducible] def Tryz.bK:List Ob:=[.box 107 [.obj 1,.d (.int .i64)],.ext 1 (kz dI)]
def Tryz.M5:List (FuncId×(Bool×aX)):=[(49,Tryz.spZ0),(50,Tryz.spZ1),(156,Tryz.spZ2),(83,Tryz.spZ3),(11,Tryz.spZ4),(107,(false,aW [.row true .str] [.obj 0] (fun _ x=>x.1.length<=12) sortAlts))]
def Tryz.Tq:bL Tryz.prog Tryz.B Tryz.X Tryz.M5:=
 aM (aE Tryz.js) (aM (aE Tryz.fI) (aM (aE Tryz.kE) (aM (aE Tryz.jt) (aM (aE Tryz.kG) (aM (Tryz.acb) (bJ Tryz.bI))))))
def Tryz.Hb:List (Alt [] []):=[{bS:=Tryz.bK,res:=[.obj 0],out:=fun _ _=>oE,ret:=fun _ _=>()}]
def acd  (hw:fM [] ()):(cO Tryz.B [] Tryz.f9 [] [] [] Tryz.Hb () ()).holds:=by
 refine holds_of (p:=
  True/\((0,()),([],0,()),())=oE/\()=()) (by kernel_rfl) ?_
 exact⟨ba,rfl,rfl⟩
def Tryz.QK:bY Tryz.prog Tryz.B.eT Tryz.X 9 false (aW [] [] (fun _ _=>True) Tryz.Hb):=
 aZ (X:=Tryz.X) (bJ Tryz.bI) Tryz.func9 (by kernel_rfl) (fun(a:CD []) (x:PD [])=>[]) (fun(a:CD []) (x:PD []) hw hp=>acd  hw)
def Tryz.Bs:List (Alt Tryz.bK [.obj 0,.d .str]):=[{bS:=Tryz.bK,res:=[.d .str,.d (.int .i64),.d .err],out:=fun _ x=>x,ret:=fun a x=>((aO x a.1).1,(aO x a.1).2.1,aL (aO x a.1).2.2,())}]
def Z9(s:List UInt8)(f:cY)(hw:fM [.obj 0,.d .str] (s,())):(cO Tryz.B [] Tryz.f70 [] Tryz.bK [.obj 0,.d .str] Tryz.Bs (s,()) f).holds:=by
 refine holds_of (p:=
  let za:=Ty.prod Ty.str (Ty.prod (Ty.int bn) Ty.unit)
  let zb:=(aO f s).2
  let zc:=((aO f s).1,zb.1,aL zb.2,())
  let zd:=ki za f.2.1.1 s
  ((!dO za f.2.1.1 s)=true->True/\f=f/\([],0,aS.no 5,())=zc)/\((!dO za f.2.1.1 s)=false->True/\f=f/\(zd.1,zd.2.1,aS.nil,())=zc)) (by kernel_rfl) ?_
 dsimp -iota -proj -eta only;exact iB (fun h0=>(by exact⟨ba,rfl,by rw[nv h0];rfl⟩)) (fun h0=>(by exact⟨ba,rfl,by rw[rh h0];rfl⟩))
def Tryz.yA:bY Tryz.prog Tryz.B.eT Tryz.X 70 false (aW Tryz.bK [.obj 0,.d .str] (fun _ _=>True) Tryz.Bs):=
 aZ (X:=Tryz.X) (bJ Tryz.bI) Tryz.func70 (by kernel_rfl) (fun(a:CD [.obj 0,.d .str]) (x:PD Tryz.bK)=>[]) (fun(a:CD [.obj 0,.d .str]) (x:PD Tryz.bK) hw hp=>Z9 a.1 x hw)
def Tryz.yB:List (Alt Tryz.bK [.obj 0,.d .str,.d .str]):=[{bS:=Tryz.bK,res:=[.d .err],out:=fun a x=>(cW x a.1 a.2.1).1,ret:=fun a x=>(aL (cW x a.1 a.2.1).2,())}]
def WV(s:List UInt8)(t:List UInt8)(f:cY)(hw:fM [.obj 0,.d .str,.d .str] (s,t,()))(hp:(fun _ x=>x.2.1.1.length<=6/\0<=x.1.1/\x.1.1<=1000000) (s,t,()) f):(cO Tryz.B Tryz.M5 Tryz.f12 [] Tryz.bK [.obj 0,.d .str,.d .str] Tryz.yB (s,t,()) f).holds:=by
 refine holds_of (p:=
  let za:=aL (aJ s)
  let zb:=cW f s t
  let zc:=f=zb.1
  let zd:=(aL zb.2,())
  let ze:=Ty.prod Ty.str (Ty.prod (Ty.int bn) Ty.unit)
  let zf:=f.2.1.1
  let zg:=True/\zc/\(aS.no 8,())=zd
  let zh:=f.1.1+1
  let zi:=((f.1.1 == 1000000)=true->zg)/\((f.1.1 == 1000000)=false->aF f.1.1->aF 1->aF zh/\bb zf<aI/\True/\((zh,()),(gG ze zf s (t,zh,()) f.2.1.2.1,pM ze zf s f.2.1.2.1,()),())=zb.1/\(aS.nil,())=zd)
  True/\((!aS.isNil za)=true->True/\zc/\(za,())=zd)/\((!aS.isNil za)=false->bb t<=aI->((decide ((↑(bb t):Int) > 1200))=true->True/\zc/\(aS.no 2,())=zd)/\((decide ((↑(bb t):Int) > 1200))=false->((!dO ze zf s)=true->(((↑(bb zf):Int) == 6)=true->zg)/\(((↑(bb zf):Int) == 6)=false->zi))/\((!dO ze zf s)=false->zi)))) (by kernel_rfl) ?_
 dsimp -iota -proj -eta only;refine⟨ba,iB (fun h0 =>?a) (fun h0 h1=>iL (fun h2=>(by rw[AD (aV.1 ‹_›) (by omega)];exact⟨ba,rfl,rfl⟩)) (fun h2=>iB (fun h3=>iQ (fun h4 =>?b) (fun h4=>iQ (fun h5 =>?c) (fun h5 h6 h7=>⟨?d,?e,?f⟩))) (fun h3=>iQ (fun h4 =>?g) (fun h4 h5 h6=>⟨?h,?i,?j⟩))))⟩
 case a=>
  have hn:¬aJ s=0:=(fun e=>by rw[aV.2 e]at h0;cases h0);rw[AB hn];exact⟨ba,rfl,rfl⟩
 case b|c|g=>rw[AE (aV.1 ‹_›) (by omega) (by first|exact .inr (by omega)|exact .inl ⟨by assumption,by omega⟩)];exact⟨ba,rfl,rfl⟩
 case d|e|h|i=>simp only[aF,aI]at*;omega
 case f|j=>rw[Fc (aV.1 ‹_›) (by omega) (by rintro(⟨e1,e2⟩|e);(first|omega|exact cw (e1.symm.trans (show dO dI f.2.1.1 s=true by assumption)));omega)];exact⟨ba,rfl,rfl⟩
def Tryz.I7:bY Tryz.prog Tryz.B.eT Tryz.X 12 false (aW Tryz.bK [.obj 0,.d .str,.d .str] (fun _ x=>x.2.1.1.length<=6/\0<=x.1.1/\x.1.1<=1000000) Tryz.yB):=
 aZ (X:=Tryz.X) Tryz.Tq Tryz.func12 (by kernel_rfl) (fun(a:CD [.obj 0,.d .str,.d .str]) (x:PD Tryz.bK)=>[]) (fun(a:CD [.obj 0,.d .str,.d .str]) (x:PD Tryz.bK) hw hp=>WV a.1 a.2.1 x hw hp)
def Tryz.v7:List (Alt Tryz.bK [.obj 0,.d .str]):=[{bS:=Tryz.bK,res:=[.d .err],out:=fun a x=>(eP x a.1).1,ret:=fun a x=>(aL (eP x a.1).2,())}]
def Ts(s:List UInt8)(f:cY)(hw:fM [.obj 0,.d .str] (s,())):(cO Tryz.B [] Tryz.f14 [] Tryz.bK [.obj 0,.d .str] Tryz.v7 (s,()) f).holds:=by
 refine holds_of (p:=
  let za:=Ty.prod Ty.str (Ty.prod (Ty.int bn) Ty.unit)
  let zb:=eP f s
  let zc:=(aL zb.2,())
  ((!dO za f.2.1.1 s)=true->True/\f=zb.1/\(aS.no 5,())=zc)/\((!dO za f.2.1.1 s)=false->True/\(f.1,(iF za f.2.1.1 s,f.2.1.2),())=zb.1/\(aS.nil,())=zc)) (by kernel_rfl) ?_
 dsimp -iota -proj -eta only;exact iB (fun h0=>(by rw[ot h0];exact⟨ba,rfl,rfl⟩)) (fun h0=>(by rw[ng h0];exact⟨ba,rfl,rfl⟩))
def Tryz.Tt:bY Tryz.prog Tryz.B.eT Tryz.X 14 false (aW Tryz.bK [.obj 0,.d .str] (fun _ _=>True) Tryz.v7):=
 aZ (X:=Tryz.X) (bJ Tryz.bI) Tryz.func14 (by kernel_rfl) (fun(a:CD [.obj 0,.d .str]) (x:PD Tryz.bK)=>[]) (fun(a:CD [.obj 0,.d .str]) (x:PD Tryz.bK) hw hp=>Ts a.1 x hw)
@[reducible] def Tryz.uy:List Ob:=[.box 4 [.d .bool]]
@[reducible] def Tryz.qJ:List Ob:=[.box 148 [.obj 1,.obj 2,.obj 3,.obj 4],.tok .str,.tok (.int .i64),.tok aP,.tok aQ,.box 4 [.d .bool]]
def Tryz.yC:List (Alt Tryz.uy [.d .str,.obj 0]):=[{bS:=Tryz.uy,res:=[.d (.int .i64)],out:=fun a x=>((x.1.1 || (dK a.1).isNone,()),()),ret:=fun a _=>((eX a.1).1,())}]
def Tryz.I8:List (FuncId×(Bool×aX)):=[(61,Tryz.spZ5),(106,Tryz.spZ17),(145,Tryz.spZ18),(64,Tryz.spZ19),(63,Tryz.spZ20)]
def Tryz.O3:bL Tryz.prog Tryz.B Tryz.X Tryz.I8:=
 aM (aE Tryz.qA) (aM (aE Tryz.uw) (aM (aE Tryz.pf) (aM (aE Tryz.n9) (aM (aE Tryz.ux) (bJ Tryz.bI)))))
def Tu(s:List UInt8)(b:Bool)(hw:fM [.d .str,.obj 0] (s,()))(hp:(fun a _=>a.1.length<=1000000) (s,()) ((b,()),())):(cO Tryz.B Tryz.I8 Tryz.f146 [] Tryz.uy [.d .str,.obj 0] Tryz.yC (s,()) ((b,()),())).holds:=by
 refine holds_of (p:=
  let za:=((b || ck (dK s),()),())
  let zb:=((eX s).1,())
  let zc:=True/\((true,()),())=za/\zb=zb
  bb s<=281474976710656/\(b=true->zc)/\(b=false->((!aS.isNil (eX s).2)=true->zc)/\((!aS.isNil (eX s).2)=false->True/\True/\((!bo (eX s).1 == s,()),())=za/\zb=zb))) (by kernel_rfl) ?_
 dsimp -iota -proj -eta only;dsimp only at hp;exact⟨(by omega),⟨fun h0=>(by simp_all),fun h0=>iB (fun h1=>(by exact⟨ba,by rw[sJ,h1];simp,rfl⟩)) (fun h1=>⟨ba,(by exact⟨ba,by rw[sJ,h1];cases b <;> simp_all <;> (rw[dk];simp),rfl⟩)⟩)⟩⟩
def Tryz.Tv:bY Tryz.prog Tryz.B.eT Tryz.X 146 false (aW Tryz.uy [.d .str,.obj 0] (fun a _=>a.1.length<=1000000) Tryz.yC):=
 aZ (X:=Tryz.X) Tryz.O3 Tryz.func146 (by kernel_rfl) (fun(a:CD [.d .str,.obj 0]) (x:PD Tryz.uy)=>[]) (fun(a:CD [.d .str,.obj 0]) (x:PD Tryz.uy) hw hp=>Tu a.1 x.1.1 hw hp)
def Tryz.Ei:List (Alt Tryz.qJ [.obj 0,.d .str,.obj 5]):=[{bS:=Tryz.qJ,res:=[],out:=fun a x=>Vi (iz (Y3 x) x.2.2.2.2.2.1.1 a.1),ret:=fun _ _=>()}]
def Tryz.QL:List (FuncId×(Bool×aX)):=[(61,Tryz.spZ5),(106,Tryz.spZ17),(145,Tryz.spZ18),(64,Tryz.spZ19),(63,Tryz.spZ20),(146,(false,aW Tryz.uy [.d .str,.obj 0] (fun a _=>a.1.length<=1000000) Tryz.yC))]
def Tryz.WW:bL Tryz.prog Tryz.B Tryz.X Tryz.QL:=
 aM (aE Tryz.qA) (aM (aE Tryz.uw) (aM (aE Tryz.pf) (aM (aE Tryz.n9) (aM (aE Tryz.ux) (aM (Tryz.Tv) (bJ Tryz.bI))))))
def QM(s:List UInt8)(_:List (List UInt8))(_:List Int)(_:List (D aP))(_:List (D aQ))(_:Bool):cU:=[
 (300001,fun st=>{X:=List (List UInt8),inv:=fun w=>w=parts 32 (cf s eU),bF:=fun _=>0,aY:=fun w=>[(7,sD (.slice .str) w)],keep:=[0,2,6]}),
 (300003,fun st=>{X:=Bool,inv:=fun c=>c=true↔(nth .str (bG (.slice .str) st 7) 0=iq/\bb (bG (.slice .str) st 7)=2),bF:=fun _=>0,aY:=fun c=>[(18,sB c)],keep:=[0,2,6,7]}),
 (300005,fun st=>{X:=Bool,inv:=fun c=>c=true↔(nth .str (bG (.slice .str) st 7) 0=ie/\bb (bG (.slice .str) st 7)=2),bF:=fun _=>0,aY:=fun c=>[(40,sB c)],keep:=[0,2,6,7]}),
 (300007,fun st=>{X:=Bool,inv:=fun c=>c=true↔(nth .str (bG (.slice .str) st 7) 0=fS/\bb (bG (.slice .str) st 7)=3),bF:=fun _=>0,aY:=fun c=>[(64,sB c)],keep:=[0,2,6,7]}),
 (300009,fun st=>{X:=Bool,inv:=fun c=>c=true↔(nth .str (bG (.slice .str) st 7) 0=ku/\bb (bG (.slice .str) st 7)=3),bF:=fun _=>0,aY:=fun c=>[(93,sB c)],keep:=[0,2,6,7]}),
 (300011,fun st=>{X:=Bool,inv:=fun c=>c=true↔((nth .str (bG (.slice .str) st 7) 0=iI\/nth .str (bG (.slice .str) st 7) 0=jE)/\bb (bG (.slice .str) st 7)=4),bF:=fun _=>0,aY:=fun c=>[(123,sB c)],keep:=[0,2,6,7]})]
def aaa(s:List UInt8)(n:List (List UInt8))(w:List Int)(y:List (D aP))(t:List (D aQ))(b:Bool)(hw:fM [.obj 0,.d .str,.obj 5] (s,()))(hp:(fun a x=>a.1.length<=1000000/\x.2.1.length<=1000000/\x.2.2.1.length<=1000000/\x.2.2.2.1.length<=1000000/\x.2.2.2.2.1.length<=1000000) (s,()) ((),n,w,y,t,(b,()),())):(cO Tryz.B Tryz.QL Tryz.f112 (QM s n w y t b) Tryz.qJ [.obj 0,.d .str,.obj 5] Tryz.Ei (s,()) ((),n,w,y,t,(b,()),())).holds:=by
 refine holds_of (p:=
  let za:=[(119:UInt8),101,97,107,32]
  let zb:=cf s za
  let zc:=parts (32:UInt8) (cf s eU)
  let zd:=n=n
  let ze:=w=w
  let zf:=y=y
  let zg:=t=t
  let zh:=(zd/\ze/\zf/\zg/\True)/\zd/\ze/\zf/\zg/\(b=b/\True)/\True
  let zi:=fun(E:List (List UInt8))=>(↑(bb E):Int)
  let zj:=fun(E:List (List UInt8))=>(0:Int)<=(0:Int)/\(0:Int)<zi E
  let zk:=fun(E:List (List UInt8))=>nth Ty.str E 0
  let zl:=fun(E:List (List UInt8))=>bb E<=aI
  let zm:=fun(E:List (List UInt8))=>zk E=iq/\bb E=2
  let zn:=fun(E:List (List UInt8))=>(0:Int)<=(1:Int)/\(1:Int)<zi E
  let zo:=fun(E:List (List UInt8))=>nth Ty.str E 1
  let zp:=(w,y,t,(b,()),())
  let zq:=Vi (iz (Y3 ((),n,zp)) b s)
  let zr:=()=()
  let zs:=fun(E:List (List UInt8))=>zk E=ie/\bb E=2
  let zt:=fun(E:List (List UInt8))=>bb (zo E)<=1000000
  let zu:=fun(E:List (List UInt8))=>(eX (zo E)).1
  let zv:=fun(E:List (List UInt8))=>zk E=fS/\bb E=3
  let zw:=fun(E:List (List UInt8))=>(0:Int)<=(2:Int)/\(2:Int)<zi E
  let zx:=fun(E:List (List UInt8))=>nth Ty.str E 2
  let zy:=fun(E:List (List UInt8))=>bb (zx E)<=1000000
  let zz:=(c7 s za,())
  let zaa:=fun(E:List (List UInt8))=>[(zo E,(eX (zx E)).1,zz)]
  let zab:=fun(E:List (List UInt8))=>zk E=ku/\bb E=3
  let zac:=bb t
  let zad:=fun(E:List (List UInt8))=>[(zu E,(1:Int),(eX (zx E)).1,@bc UInt8,false,())]
  let zae:=fun(E:List (List UInt8))=>((b || ck (dK (zo E)) || ck (dK (zx E)),()),())
  let zaf:=fun(E:List (List UInt8))=>zy E/\(True->(zg/\zac+bb (zad E)<=1000000000)/\zd/\ze/\zf/\t++zad E=t++zad E/\True/\((),n,w,y,t++zad E,zae E)=zq/\zr)
  let zag:=fun(E:List (List UInt8))=>(zk E=iI\/zk E=jE)/\bb E=4
  let zah:=fun(E:List (List UInt8))=>zl E->∃(x':Bool),(x'=true↔zag E)/\((zi E == (4:Int))=x'/\True)/\zh
  let zai:=fun(E:List (List UInt8))=>zk E == [(110:UInt8),101,97,114]
  let zaj:=fun(E:List (List UInt8))=>(0:Int)<=(3:Int)/\(3:Int)<zi E
  let zak:=fun(E:List (List UInt8))=>((eX (zx E)).1,nth Ty.str E 3,zz)
  let zal:=fun(E:List (List UInt8))=>t++[(zu E,(3:Int),zak E)]
  let zam:=fun(E:List (List UInt8))=>zy E/\(True->(zg/\zac+bb [(zu E,(3:Int),zak E)]<=1000000000)/\zd/\ze/\zf/\zal E=zal E/\True/\((),n,w,y,zal E,zae E)=zq/\zr)
  let zan:=fun(E:List (List UInt8))=>t++[(zu E,(2:Int),zak E)]
  let zao:=fun(E:List (List UInt8))=>zy E/\(True->(zg/\zac+bb [(zu E,(2:Int),zak E)]<=1000000000)/\zd/\ze/\zf/\zan E=zan E/\True/\((),n,w,y,zan E,zae E)=zq/\zr)
  True/\((bb zb<4294967281/\bb [(32:UInt8)]=1)/\∃(x':List (List UInt8)),x'=zc/\(parts (32:UInt8) zb=x'/\True)/\zh)/\∀E:List (List UInt8),E=zc->(zj E/\((zk E == [(110:UInt8),101,101,100])=true->zl E->∃(x':Bool),(x'=true↔zm E)/\((zi E == (2:Int))=x'/\True)/\zh)/\((zk E == [(110:UInt8),101,101,100])=false->∃(x':Bool),(x'=true↔zm E)/\(false=x'/\True)/\zh))/\∀F:Bool,(F=true↔zm E)->(F=true->zn E/\(zd/\bb n+bb [zo E]<=1000000000)/\n++[zo E]=n++[zo E]/\ze/\zf/\zg/\True/\((),n++[zo E],zp)=zq/\zr)/\(F=false->(zj E/\((zk E == [(119:UInt8),111,114,100])=true->zl E->∃(x':Bool),(x'=true↔zs E)/\((zi E == (2:Int))=x'/\True)/\zh)/\((zk E == [(119:UInt8),111,114,100])=false->∃(x':Bool),(x'=true↔zs E)/\(false=x'/\True)/\zh))/\∀G:Bool,(G=true↔zs E)->(G=true->zn E/\(fun a0:Prop=>a0/\a0) (zt E/\(True->(ze/\bb w+bb [zu E]<=1000000000)/\zd/\w++[zu E]=w++[zu E]/\zf/\zg/\True/\((),n,w++[zu E],y,t,(b || ck (dK (zo E)),()),())=zq/\zr)))/\(G=false->(zj E/\((zk E == [(115:UInt8),121,109,98,111,108])=true->zl E->∃(x':Bool),(x'=true↔zv E)/\((zi E == (3:Int))=x'/\True)/\zh)/\((zk E == [(115:UInt8),121,109,98,111,108])=false->∃(x':Bool),(x'=true↔zv E)/\(false=x'/\True)/\zh))/\∀I:Bool,(I=true↔zv E)->(I=true->zn E/\zw E/\(fun a0:Prop=>a0/\a0) (zy E/\(True->(zf/\bb y+bb (zaa E)<=1000000000)/\zd/\ze/\y++zaa E=y++zaa E/\zg/\True/\((),n,w,y++zaa E,t,(b || ck (dK (zx E)),()),())=zq/\zr)))/\(I=false->(zj E/\((zk E == [(98:UInt8),97,115,101])=true->zl E->∃(x':Bool),(x'=true↔zab E)/\((zi E == (3:Int))=x'/\True)/\zh)/\((zk E == [(98:UInt8),97,115,101])=false->∃(x':Bool),(x'=true↔zab E)/\(false=x'/\True)/\zh))/\∀K:Bool,(K=true↔zab E)->(K=true->zn E/\zw E/\(zt E/\(True->zaf E))/\zt E/\(True->(fun a0:Prop=>a0/\a0) (zaf E)))/\(K=false->(zj E/\((zk E == [(119:UInt8),104,111,108,101])=true->zah E)/\((zk E == [(119:UInt8),104,111,108,101])=false->zj E/\((zai E)=true->zah E)/\((zai E)=false->∃(x':Bool),(x'=true↔zag E)/\(false=x'/\True)/\zh)))/\∀M:Bool,(M=true↔zag E)->(M=true->zj E/\((zai E)=true->zn E/\zw E/\zaj E/\(zt E/\(True->zam E))/\zt E/\(True->(fun a0:Prop=>a0/\a0) (zam E)))/\((zai E)=false->zn E/\zw E/\zaj E/\(zt E/\(True->zao E))/\zt E/\(True->(fun a0:Prop=>a0/\a0) (zao E))))/\(M=false->zd/\ze/\zf/\zg/\True/\((),n,w,y,t,(true,()),())=zq/\zr)))))) (by kernel_rfl) ?_
 dsimp -iota -proj -eta only;dsimp only at hp;refine⟨ba,⟨⟨(by have:=LM s [119,101,97,107,32];exact⟨by omega,rfl⟩),(⟨_,rfl,⟨rfl,ba⟩,(by trivial)⟩)⟩,fun E q_0=>⟨⟨?a,iQ (fun h0 h1 =>?b) (fun h0 =>?c)⟩,fun F q_1=>⟨fun h0=>⟨?d,?e,?f⟩,fun h0=>⟨⟨?g,iQ (fun h1 h2 =>?h) (fun h1 =>?i)⟩,fun G q_2=>⟨fun h1=>⟨?j,(show ∀{a0:Prop},a0->a0/\a0 from fun g0=>⟨g0,g0⟩) (⟨?k,fun h2=>⟨?l,?m⟩⟩)⟩,fun h1=>⟨⟨?n,iQ (fun h2 h3 =>?o) (fun h2 =>?p)⟩,fun I q_3=>⟨fun h2=>⟨?q,?r,(show ∀{a0:Prop},a0->a0/\a0 from fun g0=>⟨g0,g0⟩) (⟨?s,fun h3=>⟨?t,?u⟩⟩)⟩,fun h2=>⟨⟨?v,iQ (fun h3 h4 =>?w) (fun h3 =>?x)⟩,fun K q_4=>⟨fun h3=>⟨?y,?z,⟨⟨?a0,fun h4=>⟨?a1,fun h5=>⟨?a2,?a3⟩⟩⟩,⟨?a4,fun h4=>(show ∀{a0:Prop},a0->a0/\a0 from fun g0=>⟨g0,g0⟩) (⟨?a5,fun h5=>⟨?a6,?a7⟩⟩)⟩⟩⟩,fun h3=>⟨⟨?a8,iQ (fun h4 h5 =>?a9) (fun h4=>⟨?aa,iQ (fun h5 h6 =>?ab) (fun h5 =>?ac)⟩)⟩,fun M q_5=>⟨fun h4=>⟨?ad,iQ (fun h5=>⟨?ae,?af,?ag,⟨⟨?ah,fun h6=>⟨?ai,fun h7=>⟨?aj,?ak⟩⟩⟩,⟨?al,fun h6=>(show ∀{a0:Prop},a0->a0/\a0 from fun g0=>⟨g0,g0⟩) (⟨?am,fun h7=>⟨?an,?ao⟩⟩)⟩⟩⟩) (fun h5=>⟨?ap,?aq,?ar,⟨⟨?au,fun h6=>⟨?av,fun h7=>⟨?aw,?ax⟩⟩⟩,⟨?ay,fun h6=>(show ∀{a0:Prop},a0->a0/\a0 from fun g0=>⟨g0,g0⟩) (⟨?az,fun h7=>⟨?b0,?b1⟩⟩)⟩⟩⟩)⟩,fun h4 =>?b2⟩⟩⟩⟩⟩⟩⟩⟩⟩⟩⟩⟩
 case a|g|n|v|a8|aa|ad=>have:=Y4 q_0;omega
 case b|c|h|i|o|p|w|x|a9|ab|ac=>exact⟨_,by(simp_all <;> omega),⟨rfl,ba⟩,(by trivial)⟩
 case d|j|q|r|y|z|ae|af|ag|ap|aq|ar=>simp_all
 case e|l|t|a2|a6|aj|an|aw|b0=>exact⟨rfl,by simp only[b9];omega⟩
 case f|m|u|a3|a7|ak|ao|ax|b1|b2=>
  refine⟨rfl,rfl,rfl,rfl,ba,?_,rfl⟩
  first
  |(rw[Sd q_0 (q_1.1 ‹_›)];rfl)
  |(rw[Se q_0 (iJ q_1 ‹_›) (q_2.1 ‹_›)];rfl)
  |(rw[Vj q_0 (iJ q_1 ‹_›) (iJ q_2 ‹_›) (q_3.1 ‹_›)];rfl)
  |(rw[Sf q_0 (iJ q_1 ‹_›) (iJ q_2 ‹_›) (iJ q_3 ‹_›) (q_4.1 ‹_›)];rfl)
  |(rw[Ik q_0 (iJ q_1 ‹_›) (iJ q_2 ‹_›) (iJ q_3 ‹_›) (iJ q_4 ‹_›) (q_5.1 ‹_›) (k:=3) (if_pos ‹_›).symm];rfl)
  |(rw[Ik q_0 (iJ q_1 ‹_›) (iJ q_2 ‹_›) (iJ q_3 ‹_›) (iJ q_4 ‹_›) (q_5.1 ‹_›) (k:=2) (if_neg ‹_›).symm];rfl)
  |(rw[Sg q_0 (iJ q_1 ‹_›) (iJ q_2 ‹_›) (iJ q_3 ‹_›) (iJ q_4 ‹_›) (iJ q_5 ‹_›)];rfl)
 case k|a0|a4|ah|al|au|ay=>have:=Qg q_0 1;omega
 case s|a1|a5|ai|am|av|az=>have:=Qg q_0 2;omega
def Tryz.aab:bY Tryz.prog Tryz.B.eT Tryz.X 112 false (aW Tryz.qJ [.obj 0,.d .str,.obj 5] (fun a x=>a.1.length<=1000000/\x.2.1.length<=1000000/\x.2.2.1.length<=1000000/\x.2.2.2.1.length<=1000000/\x.2.2.2.2.1.length<=1000000) Tryz.Ei):=
 aZ (X:=Tryz.X) Tryz.WW Tryz.func112 (by kernel_rfl) (fun(a:CD [.obj 0,.d .str,.obj 5]) (x:PD Tryz.qJ)=>QM a.1 x.2.1 x.2.2.1 x.2.2.2.1 x.2.2.2.2.1 x.2.2.2.2.2.1.1) (fun(a:CD [.obj 0,.d .str,.obj 5]) (x:PD Tryz.qJ) hw hp=>aaa a.1 x.2.1 x.2.2.1 x.2.2.2.1 x.2.2.2.2.1 x.2.2.2.2.2.1.1 hw hp)
def aac(n:Int)(hw:eD [.int .i64] n):(cL Tryz.B [] Tryz.f191 [] [.int .i64] [.bool] (fun x y=>y=(fun n=>eB n) x) n).holds:=by
 refine holds_of (p:=
  ((decide (n>=(-2147483648:Int)))=true->decide (n<=2147483647)=eB n)/\((decide (n>=(-2147483648:Int)))=false->false=eB n)) (by kernel_rfl) ?_
 refine iE (fun h0 =>?a) (fun h0 =>?b)
 case a|b=>unfold eB;rw[dk];simp;omega
def Tryz.M6:bO Tryz.prog Tryz.B.eT Tryz.X 191 [.int .i64] [.bool] (fun _=>True) (fun x y=>y=(fun n=>eB n) x):=
 bP (X:=Tryz.X) (bJ Tryz.bI) Tryz.func191 (by kernel_rfl) (fun _=>[]) (fun x hw hp=>aac x hw)
def O4(n:Int)(hw:eD [.int .i64] n):(cL Tryz.B [] Tryz.f60 [] [.int .i64] [.bool] (fun x y=>y=(fun n=>eB n) x) n).holds:=by
 refine holds_of (p:=
  ((decide (n>=(-2147483648:Int)))=true->decide (n<=2147483647)=eB n)/\((decide (n>=(-2147483648:Int)))=false->false=eB n)) (by kernel_rfl) ?_
 refine iE (fun h0 =>?a) (fun h0 =>?b)
 case a|b=>unfold eB;rw[dk];simp;omega
def Tryz.O5:bO Tryz.prog Tryz.B.eT Tryz.X 60 [.int .i64] [.bool] (fun _=>True) (fun x y=>y=(fun n=>eB n) x):=
 bP (X:=Tryz.X) (bJ Tryz.bI) Tryz.func60 (by kernel_rfl) (fun _=>[]) (fun x hw hp=>O4 x hw)
def I9(l:List (List UInt8))(s:List UInt8):cU:=[(0,fun st=>{X:=Nat,inv:=fun i=>i<=l.length/\∀j,j<i->nth .str l j≠s,bF:=fun i=>l.length-i,aY:=fun i=>[(8,sI i)],keep:=[0,1,7]})]
def WX(l:List (List UInt8))(s:List UInt8)(hw:eD [.slice .str,.str] (l,s)):(cL Tryz.B [] Tryz.f185 (I9 l s) [.slice .str,.str] [.int .i64] (fun x y=>(y= -1/\∀j,j<x.1.length->nth .str x.1 j≠x.2)\/(0<=y/\y.toNat<x.1.length/\nth .str x.1 y.toNat=x.2)) (l,s)).holds:=by
 refine holds_of (p:=
  let za:=bb l
  let zb:=(-1:Int)
  let zc:=∀(j:Nat),j<za->nth Ty.str l j≠s
  za<=aI->(∃(x:Nat),(x<=za/\∀(j:Nat),j<x->nth Ty.str l j≠s)/\(0=(↑x:Int)/\True)/\True)/\∀E:Nat,(E<=za/\∀(j:Nat),j<E->nth Ty.str l j≠s)->((decide ((↑E:Int)<(↑za:Int)))=true->(0<=(↑E:Int)/\(↑E:Int)<(↑za:Int))/\((s == nth Ty.str l E)=true->(↑E:Int)=zb/\zc\/0<=(↑E:Int)/\E<za/\nth Ty.str l E=s)/\((s == nth Ty.str l E)=false->aF (↑E:Int)->aF 1->aF ((↑E:Int)+1)/\∃(x':Nat),(x'<=za/\∀(j:Nat),j<x'->nth Ty.str l j≠s)/\za-x'<za-E/\((↑E:Int)+1=(↑x':Int)/\True)/\True))/\((decide ((↑E:Int)<(↑za:Int)))=false->zb=zb/\zc\/0<=zb/\bd zb<za/\nth Ty.str l (bd zb)=s)) (by kernel_rfl) ?_
 dsimp -iota -proj -eta only;exact fun h0=>⟨(⟨0,⟨by omega,fun j hj=>by omega⟩,⟨rfl,ba⟩,ba⟩),fun E q_0=>iL (fun h1=>⟨(by omega),iQ (fun h2=>(by simp_all)) (fun h2 h3 h4=>⟨(by simp only[aF,aI]at*;omega),(⟨E+1,⟨by omega,jD q_0.2 fun e=>(by assumption:¬_) e.symm⟩,by omega,⟨by omega,ba⟩,(by trivial)⟩)⟩)⟩) (fun h1=>(.inl ⟨rfl,fun j hj=>q_0.2 j (by omega)⟩))⟩
def Tryz.WY:bO Tryz.prog Tryz.B.eT Tryz.X 185 [.slice .str,.str] [.int .i64] (fun _=>True) (fun x y=>(y= -1/\∀j,j<x.1.length->nth .str x.1 j≠x.2)\/(0<=y/\y.toNat<x.1.length/\nth .str x.1 y.toNat=x.2)):=
 bP (X:=Tryz.X) (bJ Tryz.bI) Tryz.func185 (by kernel_rfl) (fun x=>I9 x.1 x.2) (fun x hw hp=>WX x.1 x.2 hw)
def Tryz.Ja:List (FuncId×(Bool×aX)):=[(185,(true,qq [.slice .str,.str] [.int .i64] (fun _=>True) (fun x y=>(y= -1/\∀j,j<x.1.length->nth .str x.1 j≠x.2)\/(0<=y/\y.toNat<x.1.length/\nth .str x.1 y.toNat=x.2))))]
def Tryz.O6:bL Tryz.prog Tryz.B Tryz.X Tryz.Ja:=
 aM (ju Tryz.WY) (bJ Tryz.bI)
def M7(l:List (List UInt8))(s:List UInt8)(hw:eD [.slice .str,.str] (l,s)):(cL Tryz.B Tryz.Ja Tryz.f141 [] [.slice .str,.str] [.bool] (fun x y=>y=(fun x=>x.1.any (· == x.2)) x) (l,s)).holds:=by
 refine holds_of (p:=
  True/\∀E:Int,((E=(-1:Int)/\∀(j:Nat),j<bb l->nth Ty.str l j≠s)\/0<=E/\bd E<bb l/\nth Ty.str l (bd E)=s)->decide (E>=0)=dc l fun(x:List UInt8)=>x == s) (by kernel_rfl) ?_
 exact⟨ba,fun E q_0=>(contains_of q_0)⟩
def Tryz.Bt:bO Tryz.prog Tryz.B.eT Tryz.X 141 [.slice .str,.str] [.bool] (fun _=>True) (fun x y=>y=(fun x=>x.1.any (· == x.2)) x):=
 bP (X:=Tryz.X) Tryz.O6 Tryz.func141 (by kernel_rfl) (fun _=>[]) (fun x hw hp=>M7 x.1 x.2 hw)
def Tryz.Jb:List (FuncId×(Bool×aX)):=[(221,(false,iS Tryz.B [] Tryz.f221 []))]
def Tryz.O7:bL Tryz.prog Tryz.B Tryz.X Tryz.Jb:=
 aM (gz (bJ Tryz.bI) Tryz.func221 (by kernel_rfl) []) (bJ Tryz.bI)
def Jc:cU:=[(0,fun st=>{X:=Nat,inv:=fun i=>i<=(bG (.slice aP) st 0).length/\∀j,j<i->(nth aP (bG (.slice aP) st 0) j).1≠(Yu aP st (RC st 1 0)).1,bF:=fun i=>(bG (.slice aP) st 0).length-i,aY:=fun i=>[(8,sI i)],keep:=[0,1,7]})]
def Tryz.QN:List (FuncId×(Bool×aX)):=[(231,(false,iS Tryz.B Tryz.Jb Tryz.f231 Jc))]
def Tryz.WZ:bL Tryz.prog Tryz.B Tryz.X Tryz.QN:=
 aM (gz Tryz.O7 Tryz.func231 (by kernel_rfl) Jc) (bJ Tryz.bI)
def Tryz.QO:List (FuncId×(Bool×aX)):=[(49,Tryz.spZ0),(50,Tryz.spZ1),(156,Tryz.spZ2),(83,Tryz.spZ3),(11,Tryz.spZ4),(220,(false,iS Tryz.B Tryz.QN Tryz.f220 []))]
def Tryz.W0:bL Tryz.prog Tryz.B Tryz.X Tryz.QO:=
 aM (aE Tryz.js) (aM (aE Tryz.fI) (aM (aE Tryz.kE) (aM (aE Tryz.jt) (aM (aE Tryz.kG) (aM (gz Tryz.WZ Tryz.func220 (by kernel_rfl) []) (bJ Tryz.bI))))))
def Gh(o:D aA):cU:=[(0,fun st=>{X:=Nat,inv:=fun i=>kL o.2.1.length o.2.2.1 i,bF:=fun i=>o.2.2.1.length-i,aY:=fun i=>[(9,sI i)],keep:=[1,7,8]})]
def O8(o:D aA)(hw:eD [aA] o):(cL Tryz.B Tryz.QO Tryz.f192 (Gh o) [aA] [.err] (fun x y=>y=(fun o=>aL (jn o.2.1.length [] o.2.2.1)) x) o).holds:=by
 refine holds_of (p:=
  let za:=o.2.2.1
  let zb:=bb za
  let zc:=bb o.2.1
  let zd:=fun(E:Nat)=>(↑E:Int)
  let ze:=fun(E:Nat)=>(0:Int)<=zd E
  let zf:=fun(E:Nat)=>(nth aP za E).1
  let zg:=aL (jn zc (@bc (List UInt8×Int×Bool×Unit)) za)
  let zh:=fun(E:Nat)=>(nth aP za E).2.1
  let zi:=aS.no (1:Int)=zg
  let zj:=fun(E:Nat)=>bk 0 (bf E za)
  let zk:=fun(E:Nat)=>bb (zj E)
  let zl:=aS.no (3:Int)=zg
  let zm:=(o.1=o.1/\o.2.1=o.2.1/\za=za/\o.2.2.2.1=o.2.2.2.1/\True)/\True
  let zn:=fun(E:Nat)=>aF (zd E)->aF (1:Int)->aF (zd E+(1:Int))/\∃(x':Nat),kL zc za x'/\zb-x'<zb-E/\(zd E+(1:Int)=(↑x':Int)/\True)/\zm
  zb<=aI->(∃(x:Nat),kL zc za x/\((0:Int)=(↑x:Int)/\True)/\True)/\∀E:Nat,kL zc za E->((decide (zd E<(↑zb:Int)))=true->(ze E/\zd E<(↑zb:Int))/\True/\((!aS.isNil (aL (aJ (zf E))))=true->aL (aJ (zf E))=zg)/\((!aS.isNil (aL (aJ (zf E))))=false->((decide (zh E<(0:Int)))=true->zi)/\((decide (zh E<(0:Int)))=false->zc<=aI->((decide (zh E>=(↑zc:Int)))=true->zi)/\((decide (zh E>=(↑zc:Int)))=false->((0:Int)<=(0:Int)/\ze E/\zd E<=(↑zb:Int))/\(zk E<=aI->(∃(x:Nat),(x<=zk E/\∀(j:Nat),j<x->(nth aP (zj E) j).1≠zf E)/\((0:Int)=(↑x:Int)/\True)/\True)/\∀F:Nat,(F<=zk E/\∀(j:Nat),j<F->(nth aP (zj E) j).1≠zf E)->((decide (zd F<(↑(zk E):Int)))=true->(ze F/\zd F<(↑(zk E):Int))/\(((nth aP (zj E) F).1 == zf E)=true->((decide (zd F>=(0:Int)))=true->zl)/\((decide (zd F>=(0:Int)))=false->zn E))/\(((nth aP (zj E) F).1 == zf E)=false->aF (zd F)->aF (1:Int)->aF (zd F+(1:Int))/\∃(x':Nat),(x'<=zk E/\∀(j:Nat),j<x'->(nth aP (zj E) j).1≠zf E)/\zk E-x'<zk E-F/\(zd F+(1:Int)=(↑x':Int)/\True)/\(zf E=zf E/\zh E=zh E/\(nth aP za E).2.2.1=(nth aP za E).2.2.1/\True)/\zm))/\((decide (zd F<(↑(zk E):Int)))=false->((decide ((-1:Int)>=(0:Int)))=true->zl)/\((decide ((-1:Int)>=(0:Int)))=false->zn E)))))))/\((decide (zd E<(↑zb:Int)))=false->aS.nil=zg)) (by kernel_rfl) ?_
 dsimp -iota -proj -eta only;refine fun h0=>⟨(⟨0,.zero _ _,⟨rfl,ba⟩,ba⟩),fun E q_0=>iL (fun h1=>⟨?a,ba,iB (fun h2=>(by rw[q_0.fault (by omega) (o1 (cQ _) h2)])) (fun h2=>iL (fun h3=>(by rw[q_0.out (by omega) (dW h2) (.inl (by omega))];rfl)) (fun h3 h4=>iE (fun h5=>(by rw[q_0.out (by omega) (dW h2) (.inr (by omega))];rfl)) (fun h5=>⟨?b,fun h6=>⟨(⟨0,⟨by omega,fun j hj=>by omega⟩,⟨rfl,ba⟩,ba⟩),fun F q_1=>iL (fun h7=>⟨?c,iQ (fun h8=>⟨fun h9=>(by rw[H3 q_0.le]at h7;rw[H2 (i:=E) (j:=F) (by omega)]at h8;rw[q_0.dup (by omega) (dW h2) (fun h=>h.elim (fun h=>absurd h (dm.2 h3)) (fun h=>absurd h (dn.2 h5))) (xK (t:=aP) (j:=F) (by omega) q_0.le (by simpa using h8))];rfl),fun h9=>absurd (show true=false from h9) (by decide)⟩) (fun h8 h9 h10=>⟨?d,(⟨F+1,⟨by omega,jD q_1.2 ‹_›⟩,by omega,⟨by omega,ba⟩,(by trivial)⟩)⟩)⟩) (fun h7=>⟨fun h8=>absurd (show false=true from h8) (by decide),fun h8 h9 h10=>⟨?e,(by have hx:=H3 q_0.le;exact⟨E+1,q_0.next (by omega) (dW h2) (fun h=>h.elim (fun h=>absurd h (dm.2 h3)) (fun h=>absurd h (dn.2 h5))) (uQ (t:=aP) fun j hj=>by have:=q_1.2 j (by omega);rw[H2 hj]at this;simpa using this),by omega,⟨by omega,ba⟩,(by trivial)⟩)⟩⟩)⟩⟩)))⟩) (fun h1=>(by rw[q_0.done (by omega)];rfl))⟩
 case a|b|c=>omega
 case d|e=>simp only[aF,aI]at*;omega
def Tryz.O9:bO Tryz.prog Tryz.B.eT Tryz.X 192 [aA] [.err] (fun _=>True) (fun x y=>y=(fun o=>aL (jn o.2.1.length [] o.2.2.1)) x):=
 bP (X:=Tryz.X) Tryz.W0 Tryz.func192 (by kernel_rfl) (fun x=>Gh x) (fun x hw hp=>O8 x hw)
def Tryz.spZ25:Bool×aX:=(true,bX [.int .i64] [.bool] (fun _=>True) (fun n=>eB n))
def Tryz.QP:List (FuncId×(Bool×aX)):=[(49,Tryz.spZ0),(50,Tryz.spZ1),(156,Tryz.spZ2),(83,Tryz.spZ3),(11,Tryz.spZ4),(191,Tryz.spZ25)]
def Tryz.W4:bL Tryz.prog Tryz.B Tryz.X Tryz.QP:=
 aM (aE Tryz.js) (aM (aE Tryz.fI) (aM (aE Tryz.kE) (aM (aE Tryz.jt) (aM (aE Tryz.kG) (aM (aE Tryz.M6) (bJ Tryz.bI))))))
def QQ(o:D aA):cU:=[(0,fun st=>{X:=Nat,inv:=fun i=>mz o.2.1.length o.2.2.2.1 i,bF:=fun i=>o.2.2.2.1.length-i,aY:=fun i=>[(9,sI i)],keep:=[1,7,8]})]
def aad(o:D aA)(hw:eD [aA] o):(cL Tryz.B Tryz.QP Tryz.f193 (QQ o) [aA] [.err] (fun x y=>y=(fun o=>aL (lF o.2.1.length none o.2.2.2.1)) x) o).holds:=by
 refine holds_of (p:=
  let za:=o.2.2.2.1
  let zb:=bb za
  let zc:=bb o.2.1
  let zd:=fun(E:Nat)=>(↑E:Int)
  let ze:=fun(E:Nat)=>(nth aQ za E).1
  let zf:=aL (lF zc none za)
  let zg:=aS.no 1=zf
  let zh:=fun(E:Nat)=>(nth aQ za E).2.1
  let zi:=aS.no 3=zf
  let zj:=fun(E:Nat)=>zd E-1
  let zk:=fun(E:Nat)=>aF (zd E)->aF 1->aF (zd E+1)/\∃(x':Nat),mz zc za x'/\zb-x'<zb-E/\(zd E+1=(↑x':Int)/\True)/\(o.1=o.1/\o.2.1=o.2.1/\o.2.2.1=o.2.2.1/\za=za/\True)/\True
  let zl:=fun(E:Nat)=>aL (aJ (nth aQ za E).2.2.2.1)
  let zm:=fun(E:Nat)=>((zh E == 1)=true->((!(nth aQ za E).2.2.2.1 == @bc UInt8)=true->zi)/\((!(nth aQ za E).2.2.2.1 == @bc UInt8)=false->(((nth aQ za E).2.2.2.2.1)=true->zi)/\(((nth aQ za E).2.2.2.2.1)=false->zk E)))/\((zh E == 1)=false->True/\((!aS.isNil (zl E))=true->zl E=zf)/\((!aS.isNil (zl E))=false->zk E))
  zb<=aI->(∃(x:Nat),mz zc za x/\(0=(↑x:Int)/\True)/\True)/\∀E:Nat,mz zc za E->((decide (zd E<(↑zb:Int)))=true->(0<=zd E/\zd E<(↑zb:Int))/\((decide (ze E<0))=true->zg)/\((decide (ze E<0))=false->zc<=aI->((decide (ze E>=(↑zc:Int)))=true->zg)/\((decide (ze E>=(↑zc:Int)))=false->True/\((!eB (nth aQ za E).2.2.1)=true->zg)/\((!eB (nth aQ za E).2.2.1)=false->((decide (zh E<1))=true->zi)/\((decide (zh E<1))=false->((decide (zh E > 3))=true->zi)/\((decide (zh E > 3))=false->((decide (zd E > 0))=true->aF (zd E)->aF 1->aF (zj E)/\(0<=zj E/\zj E<(↑zb:Int))/\((decide ((nth aQ za (bd (zj E))).1>=ze E))=true->zi)/\((decide ((nth aQ za (bd (zj E))).1>=ze E))=false->zm E))/\((decide (zd E > 0))=false->zm E)))))))/\((decide (zd E<(↑zb:Int)))=false->aS.nil=zf)) (by kernel_rfl) ?_
 dsimp -iota -proj -eta only;refine fun h0=>⟨(⟨0,.zero _ _,⟨rfl,ba⟩,ba⟩),fun E q_0=>iL (fun h1=>⟨?a,iL (fun h2 =>?b) (fun h2 h3=>iE (fun h4 =>?c) (fun h4=>⟨ba,iB (fun h5 =>?d) (fun h5=>iL (fun h6 =>?e) (fun h6=>iL (fun h7 =>?f) (fun h7=>iL (fun h8 h9 h10=>⟨?g,?h,iE (fun h11 =>?i) (fun h11=>iQ (fun h12=>⟨fun h13 =>?j,fun h13=>⟨fun h14 =>?k,fun h14 h15 h16=>⟨?l,?m⟩⟩⟩) (fun h12=>⟨ba,iB (fun h13=>(by rw[q_0.fault (by omega) (f:=aJ (nth aQ o.2.2.2.1 E).2.2.2.1) (by unfold jS kr jx;grind) (by have:=o1 (cQ _) h13;omega)])) (fun h13 h14 h15=>⟨?n,(by have:=aV.1 h13;exact⟨E+1,q_0.next (by omega) (by unfold jS kr jx;grind),by omega,⟨by omega,ba⟩,(by trivial)⟩)⟩)⟩))⟩) (fun h8=>iQ (fun h9=>⟨fun h10 =>?o,fun h10=>⟨fun h11 =>?p,fun h11 h12 h13=>⟨?q,?r⟩⟩⟩) (fun h9=>⟨ba,iB (fun h10=>(by rw[q_0.fault (by omega) (f:=aJ (nth aQ o.2.2.2.1 E).2.2.2.1) (by unfold jS kr jx;grind) (by have:=o1 (cQ _) h10;omega)])) (fun h10 h11 h12=>⟨?s,(by have:=aV.1 h10;exact⟨E+1,q_0.next (by omega) (by unfold jS kr jx;grind),by omega,⟨by omega,ba⟩,(by trivial)⟩)⟩)⟩)))))⟩))⟩) (fun h1=>(by rw[q_0.done (by omega)];rfl))⟩
 case a|h=>omega
 case b|c|d=>rw[q_0.fault (by omega) (f:=1) (by unfold jS;grind) (by decide)];rfl
 case e|f|i=>rw[q_0.fault (by omega) (f:=3) (by unfold jS kr jx;grind) (by decide)];rfl
 case g|n|s=>simp only[aF,aI]at*;omega
 case j|k=>
  simp only[bl,reduceCtorEq]at h13;rw[q_0.fault (by omega) (f:=3) (by unfold jS kr jx;grind) (by decide)];rfl
 case l=>
  simp only[bl,reduceCtorEq]at h13;simp only[aF,aI]at*;omega
 case m=>
  simp only[bl,reduceCtorEq]at h13;exact⟨E+1,q_0.next (by omega) (by unfold jS kr jx;grind),by omega,⟨by omega,ba⟩,(by trivial)⟩
 case o|p=>
  simp only[bl,reduceCtorEq]at h10;rw[q_0.fault (by omega) (f:=3) (by unfold jS kr jx;grind) (by decide)];rfl
 case q=>
  simp only[bl,reduceCtorEq]at h10;simp only[aF,aI]at*;omega
 case r=>
  simp only[bl,reduceCtorEq]at h10;exact⟨E+1,q_0.next (by omega) (by unfold jS kr jx;grind),by omega,⟨by omega,ba⟩,(by trivial)⟩
def Tryz.aae:bO Tryz.prog Tryz.B.eT Tryz.X 193 [aA] [.err] (fun _=>True) (fun x y=>y=(fun o=>aL (lF o.2.1.length none o.2.2.2.1)) x):=
 bP (X:=Tryz.X) Tryz.W4 Tryz.func193 (by kernel_rfl) (fun x=>QQ x) (fun x hw hp=>aad x hw)
def Tryz.spZ26:Bool×aX:=(true,bX [.slice .str,.str] [.bool] (fun _=>True) (fun x=>x.1.any (· == x.2)))
def Tryz.Jd:List (FuncId×(Bool×aX)):=[(49,Tryz.spZ0),(50,Tryz.spZ1),(156,Tryz.spZ2),(83,Tryz.spZ3),(11,Tryz.spZ4),(141,Tryz.spZ26),(191,Tryz.spZ25),(192,(true,bX [aA] [.err] (fun _=>True) (fun o=>aL (jn o.2.1.length [] o.2.2.1)))),(193,(true,bX [aA] [.err] (fun _=>True) (fun o=>aL (lF o.2.1.length none o.2.2.2.1))))]
def Tryz.Pa:bL Tryz.prog Tryz.B Tryz.X Tryz.Jd:=
 aM (aE Tryz.js) (aM (aE Tryz.fI) (aM (aE Tryz.kE) (aM (aE Tryz.jt) (aM (aE Tryz.kG) (aM (aE Tryz.Bt) (aM (aE Tryz.M6) (aM (aE Tryz.O9) (aM (aE Tryz.aae) (bJ Tryz.bI)))))))))
def Je(o:D aA):cU:=[
 (0,fun st=>{X:=Nat,inv:=fun i=>jU o.1 i,bF:=fun i=>o.1.length-i,aY:=fun i=>[(41,sI i)],keep:=[1,39,40]}),
 (2,fun st=>{X:=Nat,inv:=fun i=>kU o.2.1 i,bF:=fun i=>o.2.1.length-i,aY:=fun i=>[(62,sI i)],keep:=[1,60,61]})]
def W5(o:D aA)(hw:eD [aA] o):(cL Tryz.B Tryz.Jd Tryz.f147 (Je o) [aA] [.err] (fun x y=>y=(fun o=>aL (cK o)) x) o).holds:=by
 refine holds_of (p:=
  let za:=bb o.1
  let zb:=(↑za:Int)
  let zc:=aL (cK o)
  let zd:=aS.no (2:Int)=zc
  let ze:=o.2.1
  let zf:=bb ze
  let zg:=zf<=aI
  let zh:=(↑zf:Int)
  let zi:=o.2.2.1
  let zj:=o.2.2.2.1
  let zk:=fun(E:Nat)=>(↑E:Int)
  let zl:=fun(E:Nat)=>(0:Int)<=zk E
  let zm:=fun(E:Nat)=>aL (aJ (nth Ty.str o.1 E))
  let zn:=(o.1=o.1/\ze=ze/\zi=zi/\zj=zj/\True)/\True
  let zo:=aL (jn zf (@bc (List UInt8×Int×Bool×Unit)) zi)
  za<=aI->((decide (zb > (4:Int)))=true->zd)/\((decide (zb > (4:Int)))=false->zg->((decide (zh<(1:Int)))=true->zd)/\((decide (zh<(1:Int)))=false->zg->((decide (zh > (40:Int)))=true->zd)/\((decide (zh > (40:Int)))=false->bb zi<=aI->((decide ((↑(bb zi):Int) > (8:Int)))=true->zd)/\((decide ((↑(bb zi):Int) > (8:Int)))=false->bb zj<=aI->((decide ((↑(bb zj):Int) > (6:Int)))=true->zd)/\((decide ((↑(bb zj):Int) > (6:Int)))=false->za<=aI->(∃(x:Nat),jU o.1 x/\((0:Int)=(↑x:Int)/\True)/\True)/\∀E:Nat,jU o.1 E->((decide (zk E<zb))=true->(zl E/\zk E<zb)/\True/\((!aS.isNil (zm E))=true->zm E=zc)/\((!aS.isNil (zm E))=false->((0:Int)<=(0:Int)/\zl E/\zk E<=zb)/\True/\((dc (bk 0 (bf E o.1)) fun(x:List UInt8)=>x == nth Ty.str o.1 E)=true->aS.no (3:Int)=zc)/\((dc (bk 0 (bf E o.1)) fun(x:List UInt8)=>x == nth Ty.str o.1 E)=false->aF (zk E)->aF (1:Int)->aF (zk E+(1:Int))/\∃(x':Nat),jU o.1 x'/\za-x'<za-E/\(zk E+(1:Int)=(↑x':Int)/\True)/\zn)))/\((decide (zk E<zb))=false->zg->(∃(x:Nat),kU ze x/\((0:Int)=(↑x:Int)/\True)/\True)/\∀F:Nat,kU ze F->((decide (zk F<zh))=true->(zl F/\zk F<zh)/\True/\((!eB (nth (Ty.int bn) ze F))=true->aS.no (1:Int)=zc)/\((!eB (nth (Ty.int bn) ze F))=false->aF (zk F)->aF (1:Int)->aF (zk F+(1:Int))/\∃(x':Nat),kU ze x'/\zf-x'<zf-F/\(zk F+(1:Int)=(↑x':Int)/\True)/\zn))/\((decide (zk F<zh))=false->True/\((!aS.isNil zo)=true->zo=zc)/\((!aS.isNil zo)=false->True/\aL (lF zf none zj)=zc))))))))) (by kernel_rfl) ?_
 dsimp -iota -proj -eta only;refine fun h0=>iL (fun h1 =>?a) (fun h1 h2=>iL (fun h3 =>?b) (fun h3 h4=>iL (fun h5 =>?c) (fun h5 h6=>iL (fun h7 =>?d) (fun h7 h8=>iL (fun h9 =>?e) (fun h9 h10=>⟨?f,fun E q_0=>iL (fun h11=>⟨?g,ba,iB (fun h12=>(by have hf:=o1 (cQ _) h12;rw[rb (by unfold gY;omega) (q_0.fault (by omega) hf) (by omega)])) (fun h12=>⟨?h,ba,⟨fun h13=>(by rw[da]at h13;rw[rb (by unfold gY;omega) (q_0.dup (by omega) (dW h12) h13) (by decide)];rfl),fun h13 h14 h15=>⟨?i,(by rw[da]at h13;exact⟨E+1,q_0.next (by omega) (dW h12) h13,by omega,⟨by omega,ba⟩,(by trivial)⟩)⟩⟩⟩)⟩) (fun h11 h12=>⟨?j,fun F q_1=>iL (fun h13=>⟨?k,ba,iB (fun h14=>(by rw[Ar (by unfold gY;omega) (q_0.done (by omega)) (q_1.fault (by omega) h14) (by decide)];rfl)) (fun h14 h15 h16=>⟨?l,(⟨F+1,q_1.next (by omega) h14,by omega,⟨by omega,ba⟩,(by trivial)⟩)⟩)⟩) (fun h13=>⟨ba,iB (fun h14=>(by have hf:=o1 (ud _ _ _) h14;rw[pY (by unfold gY;omega) (q_0.done (by omega)) (q_1.done (by omega)) rfl (by omega)])) (fun h14=>⟨ba,(by rw[kM (by unfold gY;omega) (q_0.done (by omega)) (q_1.done (by omega)) (aV.1 h14) rfl])⟩)⟩)⟩)⟩)))))
 case a|b|c|d|e=>rw[CF (by unfold gY;omega)];rfl
 case f|j=>exact⟨0,.zero _,⟨rfl,ba⟩,ba⟩
 case g|h|k=>omega
 case i|l=>simp only[aF,aI]at*;omega
def Tryz.W6:bO Tryz.prog Tryz.B.eT Tryz.X 147 [aA] [.err] (fun _=>True) (fun x y=>y=(fun o=>aL (cK o)) x):=
 bP (X:=Tryz.X) Tryz.Pa Tryz.func147 (by kernel_rfl) (fun x=>Je x) (fun x hw hp=>W5 x hw)
def Jf(o:D aA):cU:=[
 (0,fun st=>{X:=Nat,inv:=fun i=>jU o.1 i,bF:=fun i=>o.1.length-i,aY:=fun i=>[(3,sI i)],keep:=[1]}),
 (2,fun st=>{X:=Nat,inv:=fun k=>k<=(bd (bG (.int .i64) st 3))/\∀j,j<k->nth .str o.1 j≠nth .str o.1 (bd (bG (.int .i64) st 3)),bF:=fun k=>(bd (bG (.int .i64) st 3))-k,aY:=fun k=>[(5,sI k)],keep:=[1,3,4,44,45,46,47,48,51,52,53,54,55,56,57,58,59]}),
 (4,fun st=>{X:=Nat,inv:=fun i=>kU o.2.1 i,bF:=fun i=>o.2.1.length-i,aY:=fun i=>[(6,sI i)],keep:=[1]}),
 (6,fun st=>{X:=Nat,inv:=fun i=>kL o.2.1.length o.2.2.1 i,bF:=fun i=>o.2.2.1.length-i,aY:=fun i=>[(8,sI i)],keep:=[1]}),
 (8,fun st=>{X:=Nat,inv:=fun k=>k<=(bd (bG (.int .i64) st 8))/\∀j,j<k->(nth aP o.2.2.1 j).1≠(nth aP o.2.2.1 (bd (bG (.int .i64) st 8))).1,bF:=fun k=>(bd (bG (.int .i64) st 8))-k,aY:=fun k=>[(11,sI k)],keep:=[1,8,9,10,91,92,93,94,95,98,99,100,101,102,103,104,105,106,107,108,109,110,111,112,113,114,115,116,117,118,119]}),
 (10,fun st=>{X:=Nat,inv:=fun i=>mz o.2.1.length o.2.2.2.1 i,bF:=fun i=>o.2.2.2.1.length-i,aY:=fun i=>[(12,sI i)],keep:=[1]})]
def Tryz.Jg:List (FuncId×(Bool×aX)):=[(49,Tryz.spZ0),(50,Tryz.spZ1),(156,Tryz.spZ2),(83,Tryz.spZ3),(11,Tryz.spZ4),(60,Tryz.spZ25)]
def Tryz.Pb:bL Tryz.prog Tryz.B Tryz.X Tryz.Jg:=
 aM (aE Tryz.js) (aM (aE Tryz.fI) (aM (aE Tryz.kE) (aM (aE Tryz.jt) (aM (aE Tryz.kG) (aM (aE Tryz.O5) (bJ Tryz.bI))))))
def W7(o:D aA)(hw:eD [aA] o):(cL Tryz.B Tryz.Jg Tryz.f116 (Jf o) [aA] [.int .i64] (fun x y=>y=(fun o=>cK o) x) o).holds:=by
 refine holds_of (p:=
  let za:=o.1
  let zb:=bb za
  let zc:=cK o
  let zd:=2=zc
  let ze:=o.2.1
  let zf:=bb ze
  let zg:=zf<=aI
  let zh:=(↑zf:Int)
  let zi:=o.2.2.1
  let zj:=bb zi
  let zk:=o.2.2.2.1
  let zl:=bb zk
  let zm:=(↑zl:Int)
  let zn:=fun(E:Nat)=>(↑E:Int)
  let zo:=fun(E:Nat)=>0<=zn E
  let zp:=fun(E:Nat)=>zo E/\zn E<(↑zb:Int)
  let zq:=fun(E:Nat)=>nth Ty.str za E
  let zr:=3=zc
  let zs:=fun(F:Nat)=>aF (zn F)
  let zt:=aF 1
  let zu:=fun(F:Nat)=>zn F+1
  let zv:=fun(F:Nat)=>aF (zu F)
  let zw:=(za=za/\ze=ze/\zi=zi/\zk=zk/\True)/\True
  let zx:=1=zc
  let zy:=fun(G:Nat)=>zo G/\zn G<(↑zj:Int)
  let zz:=fun(G:Nat)=>(nth aP zi G).1
  let zaa:=fun(G:Nat)=>(nth aP zi G).2.1
  let zab:=fun(I:Nat)=>(nth aQ zk I).1
  let zac:=fun(I:Nat)=>(nth aQ zk I).2.1
  let zad:=fun(I:Nat)=>zn I-1
  let zae:=fun(I:Nat)=>aJ (nth aQ zk I).2.2.2.1
  let zaf:=fun(I:Nat)=>zs I->zt->zv I/\∃(x':Nat),mz zf zk x'/\zl-x'<zl-I/\(zu I=(↑x':Int)/\True)/\zw
  let zag:=fun(I:Nat)=>((decide (zac I > 1))=true->True/\((decide (zae I > 0))=true->zae I=zc)/\((decide (zae I > 0))=false->zaf I))/\((decide (zac I > 1))=false->zaf I)
  let zah:=fun(I:Nat)=>((zac I == 1)=true->((!(nth aQ zk I).2.2.2.1 == @bc UInt8)=true->zr)/\((!(nth aQ zk I).2.2.2.1 == @bc UInt8)=false->(((nth aQ zk I).2.2.2.2.1)=true->zr)/\(((nth aQ zk I).2.2.2.2.1)=false->zag I)))/\((zac I == 1)=false->zag I)
  zb<=aI->((decide ((↑zb:Int) > 4))=true->zd)/\((decide ((↑zb:Int) > 4))=false->zg->((decide (zh<1))=true->zd)/\((decide (zh<1))=false->zg->((decide (zh > 40))=true->zd)/\((decide (zh > 40))=false->zj<=aI->((decide ((↑zj:Int) > 8))=true->zd)/\((decide ((↑zj:Int) > 8))=false->zl<=aI->((decide (zm > 6))=true->zd)/\((decide (zm > 6))=false->(∃(x:Nat),jU za x/\(0=(↑x:Int)/\True)/\True)/\∀E:Nat,jU za E->zb<=aI->((decide (zn E<(↑zb:Int)))=true->zp E/\True/\((decide (aJ (zq E) > 0))=true->aJ (zq E)=zc)/\((decide (aJ (zq E) > 0))=false->(∃(x:Nat),(x<=E/\∀(j:Nat),j<x->nth Ty.str za j≠zq E)/\(0=(↑x:Int)/\True)/\True)/\∀F:Nat,(F<=E/\∀(j:Nat),j<F->nth Ty.str za j≠zq E)->((decide (zn F<zn E))=true->zp F/\zp E/\((zq F == zq E)=true->zr)/\((zq F == zq E)=false->zs F->zt->zv F/\∃(x':Nat),(x'<=E/\∀(j:Nat),j<x'->nth Ty.str za j≠zq E)/\E-x'<E-F/\(zu F=(↑x':Int)/\True)/\zw))/\((decide (zn F<zn E))=false->zs E->zt->zv E/\∃(x':Nat),jU za x'/\zb-x'<zb-E/\(zu E=(↑x':Int)/\True)/\zw)))/\((decide (zn E<(↑zb:Int)))=false->(∃(x:Nat),kU ze x/\(0=(↑x:Int)/\True)/\True)/\∀F:Nat,kU ze F->zg->((decide (zn F<zh))=true->(zo F/\zn F<zh)/\True/\((!eB (nth (Ty.int bn) ze F))=true->zx)/\((!eB (nth (Ty.int bn) ze F))=false->zs F->zt->zv F/\∃(x':Nat),kU ze x'/\zf-x'<zf-F/\(zu F=(↑x':Int)/\True)/\zw))/\((decide (zn F<zh))=false->(∃(x:Nat),kL zf zi x/\(0=(↑x:Int)/\True)/\True)/\∀G:Nat,kL zf zi G->zj<=aI->((decide (zn G<(↑zj:Int)))=true->zy G/\True/\((decide (aJ (zz G) > 0))=true->aJ (zz G)=zc)/\((decide (aJ (zz G) > 0))=false->((decide (zaa G<0))=true->zx)/\((decide (zaa G<0))=false->zg->((decide (zaa G>=zh))=true->zx)/\((decide (zaa G>=zh))=false->(∃(x:Nat),(x<=G/\∀(j:Nat),j<x->(nth aP zi j).1≠zz G)/\(0=(↑x:Int)/\True)/\True)/\∀I:Nat,(I<=G/\∀(j:Nat),j<I->(nth aP zi j).1≠zz G)->((decide (zn I<zn G))=true->zy I/\((zz I == zz G)=true->zr)/\((zz I == zz G)=false->zs I->zt->zv I/\∃(x':Nat),(x'<=G/\∀(j:Nat),j<x'->(nth aP zi j).1≠zz G)/\G-x'<G-I/\(zu I=(↑x':Int)/\True)/\(zz G=zz G/\zaa G=zaa G/\(nth aP zi G).2.2.1=(nth aP zi G).2.2.1/\True)/\zw))/\((decide (zn I<zn G))=false->zs G->zt->zv G/\∃(x':Nat),kL zf zi x'/\zj-x'<zj-G/\(zu G=(↑x':Int)/\True)/\zw)))))/\((decide (zn G<(↑zj:Int)))=false->(∃(x:Nat),mz zf zk x/\(0=(↑x:Int)/\True)/\True)/\∀I:Nat,mz zf zk I->zl<=aI->((decide (zn I<zm))=true->(zo I/\zn I<zm)/\True/\((decide (zab I<0))=true->zx)/\((decide (zab I<0))=false->zg->((decide (zab I>=zh))=true->zx)/\((decide (zab I>=zh))=false->((!eB (nth aQ zk I).2.2.1)=true->zx)/\((!eB (nth aQ zk I).2.2.1)=false->((decide (zac I<1))=true->zr)/\((decide (zac I<1))=false->((decide (zac I > 3))=true->zr)/\((decide (zac I > 3))=false->((decide (zn I > 0))=true->zs I->zt->aF (zad I)/\(0<=zad I/\zad I<zm)/\((decide (zab I<=(nth aQ zk (bd (zad I))).1))=true->zr)/\((decide (zab I<=(nth aQ zk (bd (zad I))).1))=false->zah I))/\((decide (zn I > 0))=false->zah I)))))))/\((decide (zn I<zm))=false->0=zc)))))))))) (by kernel_rfl) ?_
 dsimp -iota -proj -eta only;refine fun h0=>iL (fun h1 =>?a) (fun h1 h2=>iL (fun h3 =>?b) (fun h3 h4=>iL (fun h5 =>?c) (fun h5 h6=>iL (fun h7 =>?d) (fun h7 h8=>iL (fun h9 =>?e) (fun h9=>⟨?f,fun E q_0 h10=>iL (fun h11=>⟨?g,ba,iL (fun h12=>(by rw[rb (by unfold gY;omega) (q_0.fault (by omega) h12) (by omega)])) (fun h12=>⟨?h,fun F q_1=>iL (fun h13=>⟨?i,?j,iQ (fun h14=>(by rw[rb (by unfold gY;omega) (q_0.dup (by omega) (by omega) (xK (t:=.str) (j:=F) (by omega) q_0.le (by simpa using h14))) (by decide)])) (fun h14 h15 h16=>⟨?k,(⟨F+1,⟨by omega,jD q_1.2 ‹_›⟩,by omega,⟨by omega,ba⟩,(by trivial)⟩)⟩)⟩) (fun h13 h14 h15=>⟨?l,(⟨E+1,q_0.next (by omega) (by omega) (uQ (t:=.str) fun j hj=>by simpa using q_1.2 j (by omega)),by omega,⟨by omega,ba⟩,(by trivial)⟩)⟩)⟩)⟩) (fun h11=>⟨?m,fun F q_1 h12=>iL (fun h13=>⟨?n,ba,iB (fun h14=>(by rw[Ar (by unfold gY;omega) (q_0.done (by omega)) (q_1.fault (by omega) h14) (by decide)])) (fun h14 h15 h16=>⟨?o,(⟨F+1,q_1.next (by omega) h14,by omega,⟨by omega,ba⟩,(by trivial)⟩)⟩)⟩) (fun h13=>⟨?p,fun G q_2 h14=>iL (fun h15=>⟨?q,ba,iL (fun h16=>(by rw[pY (by unfold gY;omega) (q_0.done (by omega)) (q_1.done (by omega)) (q_2.fault (by omega) h16) (by omega)])) (fun h16=>iL (fun h17=>(by rw[pY (by unfold gY;omega) (q_0.done (by omega)) (q_1.done (by omega)) (q_2.out (by omega) (by omega) (.inl (by omega))) (by decide)])) (fun h17 h18=>iE (fun h19=>(by rw[pY (by unfold gY;omega) (q_0.done (by omega)) (q_1.done (by omega)) (q_2.out (by omega) (by omega) (.inr (by omega))) (by decide)])) (fun h19=>⟨?r,fun I q_3=>iL (fun h20=>⟨?s,iQ (fun h21=>(by rw[pY (by unfold gY;omega) (q_0.done (by omega)) (q_1.done (by omega)) (q_2.dup (by omega) (by omega) (fun h=>h.elim (fun h=>absurd h (dm.2 h17)) (fun h=>absurd h (dn.2 h19))) (xK (t:=aP) (j:=I) (by omega) q_2.le (by simpa using h21))) (by decide)])) (fun h21 h22 h23=>⟨?t,(⟨I+1,⟨by omega,jD q_3.2 ‹_›⟩,by omega,⟨by omega,ba⟩,(by trivial)⟩)⟩)⟩) (fun h20 h21 h22=>⟨?u,(⟨G+1,q_2.next (by omega) (by omega) (fun h=>h.elim (fun h=>absurd h (dm.2 h17)) (fun h=>absurd h (dn.2 h19))) (uQ (t:=aP) fun j hj=>by simpa using q_3.2 j (by omega)),by omega,⟨by omega,ba⟩,(by trivial)⟩)⟩)⟩)))⟩) (fun h15=>⟨?v,fun I q_3 h16=>iL (fun h17=>⟨?w,ba,iL (fun h18 =>?x) (fun h18 h19=>iE (fun h20 =>?y) (fun h20=>iB (fun h21 =>?z) (fun h21=>iL (fun h22 =>?a0) (fun h22=>iL (fun h23 =>?a1) (fun h23=>iL (fun h24 h25 h26=>⟨?a2,?a3,iE (fun h27 =>?a4) (fun h27=>iQ (fun h28=>⟨fun h29 =>?a5,fun h29=>⟨fun h30 =>?a6,fun h30=>iL (fun h31=>⟨ba,iL (fun h32 =>?a7) (fun h32 h33 h34=>⟨?a8,?a9⟩)⟩) (fun h31 h32 h33=>⟨?aa,?ab⟩)⟩⟩) (fun h28=>iL (fun h29=>⟨ba,iL (fun h30 =>?ac) (fun h30 h31 h32=>⟨?ad,?ae⟩)⟩) (fun h29 h30 h31=>⟨?af,?ag⟩)))⟩) (fun h24=>iQ (fun h25=>⟨fun h26 =>?ah,fun h26=>⟨fun h27 =>?ai,fun h27=>iL (fun h28=>⟨ba,iL (fun h29 =>?aj) (fun h29 h30 h31=>⟨?ak,?al⟩)⟩) (fun h28 h29 h30=>⟨?am,?an⟩)⟩⟩) (fun h25=>iL (fun h26=>⟨ba,iL (fun h27 =>?ao) (fun h27 h28 h29=>⟨?ap,?aq⟩)⟩) (fun h26 h27 h28=>⟨?ar,?au⟩))))))))⟩) (fun h17=>(by rw[kM (by unfold gY;omega) (q_0.done (by omega)) (q_1.done (by omega)) (q_2.done (by omega)) (q_3.done (by omega))]))⟩)⟩)⟩)⟩)))))
 case a|b|c|d|e=>rw[CF (by unfold gY;omega)]
 case f|m=>exact⟨0,.zero _,⟨rfl,ba⟩,ba⟩
 case g|i|j|n|q|s|w|a3=>omega
 case h|r=>exact⟨0,⟨by omega,fun j hj=>by omega⟩,⟨rfl,ba⟩,ba⟩
 case k|l|o|t|u|a2|ad|ap=>simp only[aF,aI]at*;omega
 case p|v=>exact⟨0,.zero _ _,⟨rfl,ba⟩,ba⟩
 case x|y|z=>rw[kM (by unfold gY;omega) (q_0.done (by omega)) (q_1.done (by omega)) (q_2.done (by omega)) (q_3.fault (by omega) (f:=1) (by unfold jS kr jx;grind) (by decide))]
 case a0|a1|a4=>rw[kM (by unfold gY;omega) (q_0.done (by omega)) (q_1.done (by omega)) (q_2.done (by omega)) (q_3.fault (by omega) (f:=3) (by unfold jS kr jx;grind) (by decide))]
 case a5|a6=>
  simp only[bl,reduceCtorEq]at h29;rw[kM (by unfold gY;omega) (q_0.done (by omega)) (q_1.done (by omega)) (q_2.done (by omega)) (q_3.fault (by omega) (f:=3) (by unfold jS kr jx;grind) (by decide))]
 case a7=>
  simp only[bl,reduceCtorEq]at h29;rw[kM (by unfold gY;omega) (q_0.done (by omega)) (q_1.done (by omega)) (q_2.done (by omega)) (q_3.fault (by omega) (f:=aJ (nth aQ o.2.2.2.1 I).2.2.2.1) (by unfold jS kr jx;grind) (by omega))]
 case a8=>
  simp only[bl,reduceCtorEq]at h29;dsimp only[D]at*;omega
 case a9|ab=>
  simp only[bl,reduceCtorEq]at h29;have:=cQ (nth aQ o.2.2.2.1 I).2.2.2.1;exact⟨I+1,q_3.next (by omega) (by unfold jS kr jx;grind),by omega,⟨by omega,ba⟩,(by trivial)⟩
 case aa=>
  simp only[bl,reduceCtorEq]at h29;simp only[aF,aI]at*;omega
 case ac|ao=>rw[kM (by unfold gY;omega) (q_0.done (by omega)) (q_1.done (by omega)) (q_2.done (by omega)) (q_3.fault (by omega) (f:=aJ (nth aQ o.2.2.2.1 I).2.2.2.1) (by unfold jS kr jx;grind) (by omega))]
 case ae|ag|aq|au=>have:=cQ (nth aQ o.2.2.2.1 I).2.2.2.1;exact⟨I+1,q_3.next (by omega) (by unfold jS kr jx;grind),by omega,⟨by omega,ba⟩,(by trivial)⟩
 case af|ar=>dsimp only[D]at*;omega
 case ah|ai=>
  simp only[bl,reduceCtorEq]at h26;rw[kM (by unfold gY;omega) (q_0.done (by omega)) (q_1.done (by omega)) (q_2.done (by omega)) (q_3.fault (by omega) (f:=3) (by unfold jS kr jx;grind) (by decide))]
 case aj=>
  simp only[bl,reduceCtorEq]at h26;rw[kM (by unfold gY;omega) (q_0.done (by omega)) (q_1.done (by omega)) (q_2.done (by omega)) (q_3.fault (by omega) (f:=aJ (nth aQ o.2.2.2.1 I).2.2.2.1) (by unfold jS kr jx;grind) (by omega))]
 case ak=>
  simp only[bl,reduceCtorEq]at h26;dsimp only[D]at*;omega
 case al|an=>
  simp only[bl,reduceCtorEq]at h26;have:=cQ (nth aQ o.2.2.2.1 I).2.2.2.1;exact⟨I+1,q_3.next (by omega) (by unfold jS kr jx;grind),by omega,⟨by omega,ba⟩,(by trivial)⟩
 case am=>
  simp only[bl,reduceCtorEq]at h26;simp only[aF,aI]at*;omega
def Tryz.W8:bO Tryz.prog Tryz.B.eT Tryz.X 116 [aA] [.int .i64] (fun _=>True) (fun x y=>y=(fun o=>cK o) x):=
 bP (X:=Tryz.X) Tryz.Pb Tryz.func116 (by kernel_rfl) (fun x=>Jf x) (fun x hw hp=>W7 x hw)
def Tw(b:Bool)(hw:eD [.bool] b):(cL Tryz.B [] Tryz.f149 [] [.bool] [.str] (fun x y=>y=(fun b=>gx b) x) b).holds:=by
 refine holds_of (p:=
  (b=true->[119,101,97,107,32]=gx b)/\(b=false->(@bc UInt8=gx b))) (by kernel_rfl) ?_
 refine⟨fun h0 =>?a,fun h0 =>?b⟩
 case a|b=>cases b <;> first|rfl|simp_all
def Tryz.Tx:bO Tryz.prog Tryz.B.eT Tryz.X 149 [.bool] [.str] (fun _=>True) (fun x y=>y=(fun b=>gx b) x):=
 bP (X:=Tryz.X) (bJ Tryz.bI) Tryz.func149 (by kernel_rfl) (fun _=>[]) (fun x hw hp=>Tw x hw)
def Tryz.M8:List (FuncId×(Bool×aX)):=[(49,Tryz.spZ0),(50,Tryz.spZ1),(156,Tryz.spZ2),(83,Tryz.spZ3),(11,Tryz.spZ4),(148,(false,tV 244 5)),(151,(false,sF 244 5)),(150,(true,Ah 244 5)),(61,Tryz.spZ5),(147,(true,bX [aA] [.err] (fun _=>True) (fun o=>aL (cK o)))),(149,(true,bX [.bool] [.str] (fun _=>True) (fun b=>gx b)))]
def Tryz.Tz:bL Tryz.prog Tryz.B Tryz.X Tryz.M8:=
 aM (aE Tryz.js) (aM (aE Tryz.fI) (aM (aE Tryz.kE) (aM (aE Tryz.jt) (aM (aE Tryz.kG) (aM (Tryz.C6) (aM (Tryz.Bl) (aM (Tryz.IX) (aM (aE Tryz.qA) (aM (aE Tryz.W6) (aM (aE Tryz.Tx) (bJ Tryz.bI)))))))))))
def M9(o:D aA):cU:=[
 (0,fun st=>{X:=Nat,inv:=fun i=>i<=o.1.length,bF:=fun i=>o.1.length-i,aY:=fun i=>[(23,sI i)],keep:=[1,2,3,5,6,21,22],aH:=fun i=>[(aT st 5,.ext 2 me (bT (lY o i),(244:Int),(5:Int),()))],eA:=[aT st 5]}),
 (2,fun st=>{X:=Nat,inv:=fun i=>i<=o.2.1.length,bF:=fun i=>o.2.1.length-i,aY:=fun i=>[(35,sI i)],keep:=[1,2,3,5,6,33,34],aH:=fun i=>[(aT st 5,.ext 2 me (bT (lh o i),(244:Int),(5:Int),()))],eA:=[aT st 5]}),
 (4,fun st=>{X:=Nat,inv:=fun i=>i<=o.2.2.1.length,bF:=fun i=>o.2.2.1.length-i,aY:=fun i=>[(49,sI i)],keep:=[1,2,3,5,6,47,48],aH:=fun i=>[(aT st 5,.ext 2 me (bT (jq o i),(244:Int),(5:Int),()))],eA:=[aT st 5]}),
 (6,fun st=>{X:=Nat,inv:=fun i=>i<=o.2.2.2.1.length,bF:=fun i=>o.2.2.2.1.length-i,aY:=fun i=>[(72,sI i)],keep:=[2,3,5,6,70,71],aH:=fun i=>[(aT st 5,.ext 2 me (bT (fF o i),(244:Int),(5:Int),()))],eA:=[aT st 5]})]
def aaf(o:D aA)(hw:eD [aA] o):(cL (jl Tryz.B [41,64,91,85,104,110,123,129]) Tryz.M8 Tryz.f113 (M9 o) [aA] [.str,.err] (fun x y=>y=(fun o=>l9 o) x) o).holds:=by
 refine holds_of (p:=
  let za:=aL (cK o)
  let zb:=l9 o
  let zc:=bb o.1
  let zd:=(↑(244:Nat):Int)
  let ze:=fun(b:UInt8)=>(↑(br b):Int)
  let zf:=((244:Int),(5:Int),())
  let zg:=fun(E:Nat)=>(↑E:Int)
  let zh:=fun(E:Nat)=>(0:Int)<=zg E
  let zi:=[(110:UInt8),101,101,100,32]
  let zj:=[(10:UInt8)]
  let zk:=bb zj
  let zl:=(244:Int)=zd
  let zm:=(↑(5:Nat):Int)
  let zn:=(5:Int)=zm
  let zo:=fun(E:Nat)=>bm ze (lY o E)
  let zp:=fun(E:Nat)=>zi++nth Ty.str o.1 E++zj
  let zq:=fun(E:Nat)=>aF (zg E)
  let zr:=aF (1:Int)
  let zs:=fun(E:Nat)=>zg E+(1:Int)
  let zt:=fun(E:Nat)=>aF (zs E)
  let zu:=(zd,zm,())
  let zv:=o.2.1
  let zw:=o.2.2.1
  let zx:=o.2.2.2.1
  let zy:=(o.1=o.1/\zv=zv/\zw=zw/\zx=zx/\True)/\True
  let zz:=bb zv
  let zaa:=[(119:UInt8),111,114,100,32]
  let zab:=fun(F:Nat)=>zaa++bo (nth (Ty.int bn) zv F)
  let zac:=fun(F:Nat)=>bm ze (lh o F)
  let zad:=bb zw
  let zae:=fun(G:Nat)=>gx (nth aP zw G).2.2.1
  let zaf:=[(115:UInt8),121,109,98,111,108,32]
  let zag:=fun(G:Nat)=>zae G++zaf++(nth aP zw G).1
  let zah:=[(32:UInt8)]
  let zai:=bb zah
  let zaj:=fun(G:Nat)=>bo (nth aP zw G).2.1
  let zak:=fun(G:Nat)=>bm ze (jq o G)
  let zal:=fun(G:Nat)=>zag G++zah++zaj G++zj
  let zam:=bb zx
  let zan:=[(98:UInt8),97,115,101,32]
  let zao:=fun(I:Nat)=>bo (nth aQ zx I).1
  let zap:=fun(I:Nat)=>bo (nth aQ zx I).2.2.1
  let zaq:=fun(I:Nat)=>zan++zao I++zah++zap I
  let zar:=fun(I:Nat)=>bm ze (fF o I)
  let zas:=fun(I:Nat)=>bb (zar I)
  let zat:=fun(I:Nat)=>gx (nth aQ zx I).2.2.2.2.1
  let zau:=[(119:UInt8),104,111,108,101,32]
  let zav:=fun(I:Nat)=>zat I++zau++zao I++zah
  let zaw:=fun(I:Nat)=>(nth aQ zx I).2.2.2.1
  let zax:=fun(I:Nat)=>zav I++zap I++zah++zaw I
  let zay:=[(110:UInt8),101,97,114,32]
  let zaz:=fun(I:Nat)=>zat I++zay++zao I++zah
  let zba:=fun(I:Nat)=>zaz I++zap I++zah++zaw I
  True/\((!aS.isNil za)=true->([],za)=zb)/\((!aS.isNil za)=false->zc<=aI->(∃(x:Nat),x<=zc/\((0:Int)=(↑x:Int)/\True)/\([],zd,(↑(5:TypeId):Int),())=(bm ze (lY o x),zf)/\True)/\∀E:Nat,E<=zc->((decide (zg E<(↑zc:Int)))=true->(zh E/\zg E<(↑zc:Int))/\bb zi+bb (nth Ty.str o.1 E)<=aI/\bb (zi++nth Ty.str o.1 E)+zk<=aI/\(zl/\zn/\bb (zo E)+bb (zp E)<=(140737488355328:Nat))/\(zq E->zr->zt E/\∃(x':Nat),x'<=zc/\zc-x'<zc-E/\(zs E=(↑x':Int)/\True)/\(zo E++bm ze (zp E),zu)=(bm ze (lY o x'),zf)/\zy))/\((decide (zg E<(↑zc:Int)))=false->zz<=aI->(∃(x:Nat),x<=zz/\((0:Int)=(↑x:Int)/\True)/\(zo E,zf)=(bm ze (lh o x),zf)/\True)/\∀F:Nat,F<=zz->((decide (zg F<(↑zz:Int)))=true->(zh F/\zg F<(↑zz:Int))/\True/\bb zaa+bb (bo (nth (Ty.int bn) zv F))<=aI/\bb (zab F)+zk<=aI/\(zl/\zn/\bb (zac F)+bb (zab F++zj)<=(140737488355328:Nat))/\(zq F->zr->zt F/\∃(x':Nat),x'<=zz/\zz-x'<zz-F/\(zs F=(↑x':Int)/\True)/\(zac F++bm ze (zab F++zj),zu)=(bm ze (lh o x'),zf)/\zy))/\((decide (zg F<(↑zz:Int)))=false->zad<=aI->(∃(x:Nat),x<=zad/\((0:Int)=(↑x:Int)/\True)/\(zac F,zf)=(bm ze (jq o x),zf)/\True)/\∀G:Nat,G<=zad->((decide (zg G<(↑zad:Int)))=true->(zh G/\zg G<(↑zad:Int))/\True/\bb (zae G)+bb zaf<=aI/\bb (zae G++zaf)+bb (nth aP zw G).1<=aI/\bb (zag G)+zai<=aI/\True/\bb (zag G++zah)+bb (zaj G)<=aI/\bb (zag G++zah++zaj G)+zk<=aI/\(zl/\zn/\bb (zak G)+bb (zal G)<=(140737488355328:Nat))/\(zq G->zr->zt G/\∃(x':Nat),x'<=zad/\zad-x'<zad-G/\(zs G=(↑x':Int)/\True)/\(zak G++bm ze (zal G),zu)=(bm ze (jq o x'),zf)/\zy))/\((decide (zg G<(↑zad:Int)))=false->zam<=aI->(∃(x:Nat),x<=zam/\((0:Int)=(↑x:Int)/\True)/\(zak G,zf)=(bm ze (fF o x),zf)/\True)/\∀I:Nat,I<=zam->((decide (zg I<(↑zam:Int)))=true->(zh I/\zg I<(↑zam:Int))/\(((nth aQ zx I).2.1 == (1:Int))=true->True/\bb zan+bb (zao I)<=aI/\bb (zan++zao I)+zai<=aI/\True/\bb (zan++zao I++zah)+bb (zap I)<=aI/\bb (zaq I)+zk<=aI/\(zl/\zn/\zas I+bb (zaq I++zj)<=(140737488355328:Nat))/\(zq I->zr->zt I/\∃(x':Nat),x'<=zam/\zam-x'<zam-I/\(zs I=(↑x':Int)/\True)/\(zar I++bm ze (zaq I++zj),zu)=(bm ze (fF o x'),zf)/\zy))/\(((nth aQ zx I).2.1 == (1:Int))=false->(((nth aQ zx I).2.1 == (2:Int))=true->True/\bb (zat I)+bb zau<=aI/\True/\bb (zat I++zau)+bb (zao I)<=aI/\bb (zat I++zau++zao I)+zai<=aI/\True/\bb (zav I)+bb (zap I)<=aI/\bb (zav I++zap I)+zai<=aI/\bb (zav I++zap I++zah)+bb (zaw I)<=aI/\bb (zax I)+zk<=aI/\(zl/\zn/\zas I+bb (zax I++zj)<=(140737488355328:Nat))/\(zq I->zr->zt I/\∃(x':Nat),x'<=zam/\zam-x'<zam-I/\(zs I=(↑x':Int)/\True)/\(zar I++bm ze (zax I++zj),zu)=(bm ze (fF o x'),zf)/\zy))/\(((nth aQ zx I).2.1 == (2:Int))=false->True/\bb (zat I)+bb zay<=aI/\True/\bb (zat I++zay)+bb (zao I)<=aI/\bb (zat I++zay++zao I)+zai<=aI/\True/\bb (zaz I)+bb (zap I)<=aI/\bb (zaz I++zap I)+zai<=aI/\bb (zaz I++zap I++zah)+bb (zaw I)<=aI/\bb (zba I)+zk<=aI/\(zl/\zn/\zas I+bb (zba I++zj)<=(140737488355328:Nat))/\(zq I->zr->zt I/\∃(x':Nat),x'<=zam/\zam-x'<zam-I/\(zs I=(↑x':Int)/\True)/\(zar I++bm ze (zba I++zj),zu)=(bm ze (fF o x'),zf)/\zy))))/\((decide (zg I<(↑zam:Int)))=false->(zl/\zn)/\((decide ((↑(zas I):Int) > (1200:Int)))=true->([],aS.no (2:Int))=zb)/\((decide ((↑(zas I):Int) > (1200:Int)))=false->(zl/\zn)/\(bytesOf (zar I),aS.nil)=zb))))))) (by kernel_rfl) ?_
 dsimp -iota -proj -eta only;refine⟨ba,iB (fun h0=>(by rw[Ia (fun e=>by rw[aV.2 e]at h0;cases h0)])) (fun h0 h1=>⟨(⟨0,by omega,⟨rfl,ba⟩,rfl,ba⟩),fun E q_0=>iL (fun h2=>⟨?a,?b,?c,?d,fun h3 h4=>⟨?e,(⟨E+1,by omega,by omega,⟨by omega,ba⟩,qv (H4 (by omega)),(by trivial)⟩)⟩⟩) (fun h2 h3=>⟨(⟨0,by omega,⟨rfl,ba⟩,DP (by rw[H6,show E=o.1.length by omega]),ba⟩),fun F q_1=>iL (fun h4=>⟨?f,ba,?g,?h,?i,fun h5 h6=>⟨?j,(⟨F+1,by omega,by omega,⟨by omega,ba⟩,qv (H5 (by omega)),(by trivial)⟩)⟩⟩) (fun h4 h5=>⟨(⟨0,by omega,⟨rfl,ba⟩,DP (by rw[H7,show F=o.2.1.length by omega]),ba⟩),fun G q_2=>iL (fun h6=>⟨?k,ba,?l,?m,?n,ba,?o,?p,?q,fun h7 h8=>⟨?r,(⟨G+1,by omega,by omega,⟨by omega,ba⟩,qv (AN (by omega)),(by trivial)⟩)⟩⟩) (fun h6 h7=>⟨(⟨0,by omega,⟨rfl,ba⟩,DP (by rw[H8,show G=o.2.2.1.length by omega]),ba⟩),fun I q_3=>iL (fun h8=>⟨?s,iQ (fun h9=>⟨ba,?t,?u,ba,?v,?w,?x,fun h10 h11=>⟨?y,(⟨I+1,by omega,by omega,⟨by omega,ba⟩,qv (Fi (by omega) h9),(by trivial)⟩)⟩⟩) (fun h9=>iQ (fun h10=>⟨ba,?z,ba,?a0,?a1,ba,?a2,?a3,?a4,?a5,?a6,fun h11 h12=>⟨?a7,(⟨I+1,by omega,by omega,⟨by omega,ba⟩,qv (xR (by omega) h9 h10),(by trivial)⟩)⟩⟩) (fun h10=>⟨ba,?a8,ba,?a9,?aa,ba,?ab,?ac,?ad,?ae,?af,fun h11 h12=>⟨?ag,(⟨I+1,by omega,by omega,⟨by omega,ba⟩,qv (xS (by omega) h9 h10),(by trivial)⟩)⟩⟩))⟩) (fun h8=>⟨?ah,iL (fun h9=>(by rw[Fj (aV.1 h0) (show I=_ by omega) (by simp only[bz]at h9;omega)])) (fun h9=>⟨?ai,(by rw[xT (aV.1 h0) (show I=_ by omega) (by simp only[bz]at h9;omega)];exact congrArg (·,aS.nil) (xF _))⟩)⟩)⟩)⟩)⟩)⟩)⟩
 case a|f|k|s=>omega
 case b|c=>have a:=AP (iH (aV.1 h0)) (i:=E) (by omega);simp only[bw,bx,b4,bz,aI];omega
 case d|i|q|x|a6|af=>exact⟨rfl,rfl,by first|(have a:=DO (iH (aV.1 h0)) (i:=I) (by omega);simp only[bw,bx,b4,bz,aI];omega)|(have a:=DN (iH (aV.1 h0)) (i:=G) (by omega);simp only[bw,bx,b4,bz,aI];omega)|(have a:=AQ (iH (aV.1 h0)) (i:=F) (by omega);simp only[bw,bx,b4,bz,aI];omega)|(have a:=AP (iH (aV.1 h0)) (i:=E) (by omega);simp only[bw,bx,b4,bz,aI];omega)⟩
 case e|j|r|y|a7|ag=>simp only[aF,aI]at*;omega
 case g|h=>have a:=AQ (iH (aV.1 h0)) (i:=F) (by omega);simp only[bw,bx,b4,bz,aI];omega
 case l|m|n|o|p=>have a:=DN (iH (aV.1 h0)) (i:=G) (by omega);simp only[bw,bx,b4,bz,aI];omega
 case t|u|v|w|z|a0|a1|a2|a3|a4|a5|a8|a9|aa|ab|ac|ad|ae=>have a:=DO (iH (aV.1 h0)) (i:=I) (by omega);simp only[bw,bx,b4,bz,aI];omega
 case ah|ai=>trivial
def Tryz.aag:bO Tryz.prog Tryz.B.eT Tryz.X 113 [aA] [.str,.err] (fun _=>True) (fun x y=>y=(fun o=>l9 o) x):=
 bP (B:=(jl Tryz.B [41,64,91,85,104,110,123,129])) (X:=Tryz.X) (bL.hint (l:=[41,64,91,85,104,110,123,129]) Tryz.Tz) Tryz.func113 (by kernel_rfl) (fun x=>M9 x) (fun x hw hp=>aaf x hw)
def Tryz.Na:List (FuncId×(Bool×aX)):=[(61,Tryz.spZ5),(106,Tryz.spZ17),(145,Tryz.spZ18),(64,Tryz.spZ19),(63,Tryz.spZ20),(113,(true,bX [aA] [.str,.err] (fun _=>True) (fun o=>l9 o))),(112,(false,aW Tryz.qJ [.obj 0,.d .str,.obj 5] (fun a x=>a.1.length<=1000000/\x.2.1.length<=1000000/\x.2.2.1.length<=1000000/\x.2.2.2.1.length<=1000000/\x.2.2.2.2.1.length<=1000000) Tryz.Ei))]
def Tryz.TA:bL Tryz.prog Tryz.B Tryz.X Tryz.Na:=
 aM (aE Tryz.qA) (aM (aE Tryz.uw) (aM (aE Tryz.pf) (aM (aE Tryz.n9) (aM (aE Tryz.ux) (aM (aE Tryz.aag) (aM (Tryz.aab) (bJ Tryz.bI)))))))
def Nb(s:List UInt8):cU:=[(200000,fun st=>{X:=Nat×D aA×Bool,inv:=fun x=>nk (parts 10 (bt s [10])) x.1 x.2.1 x.2.2,bF:=fun x=>bb (parts 10 (bt s [10]))-x.1,aY:=fun x=>[(19,sI x.1)],keep:=[0,2,3,4,5,17,18],aU:=Tryz.qJ,refs:=[(4,0),(5,5)],pd:=fun x=>Vi x.2})]
def W9(s:List UInt8)(hw:eD [.str] s):(cL Tryz.B Tryz.Na Tryz.f74 (Nb s) [.str] [aA,.err] (fun x y=>y=(fun s=>p5 s) x) s).holds:=by
 refine holds_of (p:=
  let za:=([],[],[],[],())
  let zb:=p5 s
  let zc:=bt s [(10:UInt8)]
  let zd:=parts (10:UInt8) zc
  let ze:=@bc (List UInt8)=@bc (List UInt8)
  let zf:=@bc Int=@bc Int
  let zg:=@bc (List UInt8×Int×Bool×Unit)=@bc (List UInt8×Int×Bool×Unit)
  let zh:=@bc (Int×Int×Int×List UInt8×Bool×Unit)=@bc (Int×Int×Int×List UInt8×Bool×Unit)
  let zi:=List UInt8
  let zj:=Nat×(List zi×List Int×List (zi×Int×Bool×Unit)×List (Int×Int×Int×zi×Bool×Unit)×Unit)×Bool
  let zk:=(ze/\zf/\zg/\zh/\True)/\zh/\zg/\zf/\ze/\True
  let zl:=!false
  let zm:=(zl&&(zl&&(zl&&(zl&&(zl&&true)))))=true
  let zn:=fun(E:Nat×(List (List UInt8)×List Int×List (List UInt8×Int×Bool×Unit)×List (Int×Int×Int×List UInt8×Bool×Unit)×Unit)×Bool)=>(↑E.1:Int)<(↑(bb zd):Int)
  let zo:=fun(E:Nat×(List (List UInt8)×List Int×List (List UInt8×Int×Bool×Unit)×List (Int×Int×Int×List UInt8×Bool×Unit)×Unit)×Bool)=>E.2.1.2.2.1
  let zp:=fun(E:Nat×(List (List UInt8)×List Int×List (List UInt8×Int×Bool×Unit)×List (Int×Int×Int×List UInt8×Bool×Unit)×Unit)×Bool)=>E.2.1.2.2.2.1
  let zq:=fun(E:Nat×(List (List UInt8)×List Int×List (List UInt8×Int×Bool×Unit)×List (Int×Int×Int×List UInt8×Bool×Unit)×Unit)×Bool)=>iz (Y3 ((),E.2.1.1,E.2.1.2.1,zo E,zp E,(E.2.2,()),())) E.2.2 (nth Ty.str zd E.1)
  let zr:=fun(E:Nat×(List (List UInt8)×List Int×List (List UInt8×Int×Bool×Unit)×List (Int×Int×Int×List UInt8×Bool×Unit)×Unit)×Bool)=>(zq E).1.2.2.2.1
  let zs:=(za,aS.no 4)=zb
  bb s<=aI->((decide ((↑(bb s):Int) > 1200))=true->(za,aS.no 2)=zb)/\((decide ((↑(bb s):Int) > 1200))=false->True/\(bb zc<4294967281/\bb [(10:UInt8)]=1)/\(bb zd<=aI->(ze/\zf/\zg/\zh/\∃(x':zj),nk zd (bj x') (bg x').1 (bg x').2/\True/\(0=(↑(bj x'):Int)/\True)/\zk/\zm/\((),[],[],[],[],(false,()),())=Vi (bg x'))/\∀E:Nat×(List (List UInt8)×List Int×List (List UInt8×Int×Bool×Unit)×List (Int×Int×Int×List UInt8×Bool×Unit)×Unit)×Bool,nk zd E.1 E.2.1 E.2.2->((decide (zn E))=true->(0<=(↑E.1:Int)/\zn E)/\E.2.1.1=E.2.1.1/\E.2.1.2.1=E.2.1.2.1/\zo E=zo E/\zp E=zp E/\(bb (nth Ty.str zd E.1)<=1000000/\bb E.2.1.1<=1000000/\bb E.2.1.2.1<=1000000/\bb (zo E)<=1000000/\bb (zp E)<=1000000)/\(True->aF (↑E.1:Int)->aF 1->aF ((↑E.1:Int)+1)/\(zq E).1.1=(zq E).1.1/\(zq E).1.2.1=(zq E).1.2.1/\(zq E).1.2.2.1=(zq E).1.2.2.1/\zr E=zr E/\∃(x':zj),nk zd (bj x') (bg x').1 (bg x').2/\bb zd-bj x'<bb zd-E.1/\((↑E.1:Int)+1=(↑(bj x'):Int)/\True)/\zk/\zm/\((),(zq E).1.1,(zq E).1.2.1,(zq E).1.2.2.1,zr E,((zq E).2,()),())=Vi (bg x')))/\((decide (zn E))=false->True/\((E.2.2)=true->zs)/\((E.2.2)=false->((!aS.isNil (l9 E.2.1).2)=true->zs)/\((!aS.isNil (l9 E.2.1).2)=false->((!(l9 E.2.1).1 == s)=true->zs)/\((!(l9 E.2.1).1 == s)=false->(E.2.1,aS.nil)=zb))))))) (by kernel_rfl) ?_
 dsimp -iota -proj -eta only;refine fun h0=>iL (fun h1=>(Sk (by omega))) (fun h1=>⟨ba,(by have:=BY s [10];exact⟨by omega,rfl⟩),fun h2=>⟨(⟨rfl,rfl,rfl,rfl,(0,cB aA,false),nk.zero _,ba,⟨rfl,ba⟩,⟨⟨rfl,rfl,rfl,rfl,ba⟩,rfl,rfl,rfl,rfl,ba⟩,rfl,rfl⟩),fun E q_0=>iL (fun h3=>⟨(by omega),rfl,rfl,rfl,rfl,?a,fun h4 h5 h6=>⟨(by simp only[aF,aI]at*;omega),(by exact⟨rfl,rfl,rfl,rfl,(E.1+1,iz E.2.1 E.2.2 (nth .str (parts 10 (bt s [10])) E.1)),q_0.next (by omega),by simp only;omega,⟨by simp only;omega,ba⟩,(by trivial),rfl,rfl⟩)⟩⟩) (fun h3=>⟨ba,⟨fun h4=>(A0 q_0 (by omega) (by omega) (.inl h4)),fun h4=>iB (fun h5=>(A0 q_0 (by omega) (by omega) (.inr (.inl h5)))) (fun h5=>⟨fun h6 =>?b,fun h6 =>?c⟩)⟩⟩)⟩⟩)
 case a=>
  have hf:=Vn s (by omega);have a0:=q_0.le;have a1:=q_0.l1;have a2:=q_0.l2;have a3:=q_0.l3;have a4:=q_0.l4;exact⟨b8 (Sl (by omega) _) (by decide),by omega,by omega,by omega,by omega⟩
 case b=>
  simp only[bl,reduceCtorEq]at h6;exact A0 q_0 (by omega) (by omega) (.inr (.inr h6))
 case c=>
  simp only[bl,reduceCtorEq]at h6;exact Za (by omega) ‹aS.isNil _=true› h6
def Tryz.Jh:bO Tryz.prog Tryz.B.eT Tryz.X 74 [.str] [aA,.err] (fun _=>True) (fun x y=>y=(fun s=>p5 s) x):=
 bP (X:=Tryz.X) Tryz.TA Tryz.func74 (by kernel_rfl) (fun x=>Nb x) (fun x hw hp=>W9 x hw)
def Tryz.spZ27:Bool×aX:=(false,aW Tryz.bK [.obj 0,.d .str] (fun _ _=>True) Tryz.Bs)
def Tryz.spZ28:Bool×aX:=(true,bX [.str] [aA,.err] (fun _=>True) (fun s=>p5 s))
def Tryz.Xa:List (FuncId×(Bool×aX)):=[(70,Tryz.spZ27),(74,Tryz.spZ28),(141,Tryz.spZ26)]
def Tryz.aah:bL Tryz.prog Tryz.B Tryz.X Tryz.Xa:=
 aM (Tryz.yA) (aM (aE Tryz.Jh) (aM (aE Tryz.Bt) (bJ Tryz.bI)))
def Tryz.Xb(s:List UInt8)(f:cY):cU:=[
 (0,fun st=>{X:=Nat×List (List UInt8)×List (D aA),inv:=fun y=>ly (aO f) s y.1 y.2.1 y.2.2,bF:=fun y=>7-y.1,aY:=fun y=>[(9,sI y.1),(7,.s (.one (.app .str y.2.1 (aT st 7)))),(8,.s (.one (.app aA y.2.2 (aT st 8))))],aH:=fun y=>[(aT st 7,.tok .str y.2.1),(aT st 8,.tok aA y.2.2)],keep:=[0],eA:=[aT st 7,aT st 8]}),
 (2,fun st=>{X:=Nat,inv:=fun k=>k<=bb (bG (.slice .str) st 50),bF:=fun k=>bb (bG (.slice .str) st 50)-k,aY:=fun k=>[(52,sI k),(7,.s (.one (.app .str (fQ (bG (.slice .str) st 7) (bf k (bG (.slice .str) st 50))) (aT st 7))))],aH:=fun k=>[(aT st 7,.tok .str (fQ (bG (.slice .str) st 7) (bf k (bG (.slice .str) st 50))))],keep:=[0,4,5,6,8,9,10,12,13,18,19,20,21,24,25,26,27,28,29,30,31,32,33,34,35,36,37,38,39,40,41,42,43,44,45,46,47,48,49,50,51],eA:=[aT st 7]})]
def Tryz.Hc:List (Alt Tryz.bK [.obj 0,.d .str]):=[{bS:=Tryz.bK,res:=[.d (.slice .str),.d (.slice aA),.d .err],out:=fun _ x=>x,ret:=fun a x=>((aR (aO x) a.1).1,(aR (aO x) a.1).2.1,aL (aR (aO x) a.1).2.2,())}]
def Pc(s:List UInt8)(f:cY)(hw:fM [.obj 0,.d .str] (s,()))(hp:(fun _ x=>x.2.1.1.length<=6) (s,()) f):(cO (jl Tryz.B [17]) Tryz.Xa Tryz.f108 (Tryz.Xb s f) Tryz.bK [.obj 0,.d .str] Tryz.Hc (s,()) f).holds:=by
 refine holds_of (p:=
  let za:=List UInt8
  let zb:=Nat×List za×List (List za×List Int×List (za×Int×Bool×Unit)×List (Int×Int×Int×za×Bool×Unit)×Unit)
  let zc:=aO f
  let zd:=fun(E:Nat×List (List UInt8)×List (List (List UInt8)×List Int×List (List UInt8×Int×Bool×Unit)×List (Int×Int×Int×List UInt8×Bool×Unit)×Unit))=>(↑E.1:Int)<(↑(bb E.2.1):Int)
  let ze:=fun(E:Nat×List (List UInt8)×List (List (List UInt8)×List Int×List (List UInt8×Int×Bool×Unit)×List (Int×Int×Int×List UInt8×Bool×Unit)×Unit))=>aO f (nth Ty.str E.2.1 E.1)
  let zf:=aR zc s
  let zg:=(zf.1,zf.2.1,aL zf.2.2,())
  let zh:=fun(E:Nat×List (List UInt8)×List (List (List UInt8)×List Int×List (List UInt8×Int×Bool×Unit)×List (Int×Int×Int×List UInt8×Bool×Unit)×Unit))=>(cF (ze E).1).1.1
  let zi:=fun(E:Nat×List (List UInt8)×List (List (List UInt8)×List Int×List (List UInt8×Int×Bool×Unit)×List (Int×Int×Int×List UInt8×Bool×Unit)×Unit))=>bb (zh E)
  let zj:=fun(E:Nat×List (List UInt8)×List (List (List UInt8)×List Int×List (List UInt8×Int×Bool×Unit)×List (Int×Int×Int×List UInt8×Bool×Unit)×Unit)) (F:Nat)=>fQ E.2.1 (bf F (zh E))
  let zk:=aF 1
  let zl:=fun(F:Nat)=>(↑F:Int)+1
  let zm:=@bc (List UInt8)=@bc (List UInt8)
  let zn:=C.gA 1=C.gA 1/\f.1.1=f.1.1/\True
  let zo:=f.2.1=f.2.1
  let zp:=fun(E:Nat×List (List UInt8)×List (List (List UInt8)×List Int×List (List UInt8×Int×Bool×Unit)×List (Int×Int×Int×List UInt8×Bool×Unit)×Unit))=>E.2.2++[(cF (ze E).1).1]
  let zq:=@bc (List (List UInt8)×List Int×List (List UInt8×Int×Bool×Unit)×List (Int×Int×Int×List UInt8×Bool×Unit)×Unit)=@bc (List (List UInt8)×List Int×List (List UInt8×Int×Bool×Unit)×List (Int×Int×Int×List UInt8×Bool×Unit)×Unit)
  let zr:=fun(E:Nat×List (List UInt8)×List (List (List UInt8)×List Int×List (List UInt8×Int×Bool×Unit)×List (Int×Int×Int×List UInt8×Bool×Unit)×Unit))=>(zh E=zh E/\(cF (ze E).1).1.2.1=(cF (ze E).1).1.2.1/\(cF (ze E).1).1.2.2.1=(cF (ze E).1).1.2.2.1/\(cF (ze E).1).1.2.2.2.1=(cF (ze E).1).1.2.2.2.1/\True)/\@bc (Int×Int×Int×List UInt8×Bool×Unit)=@bc (Int×Int×Int×List UInt8×Bool×Unit)/\@bc (List UInt8×Int×Bool×Unit)=@bc (List UInt8×Int×Bool×Unit)/\@bc Int=@bc Int/\zm/\zn/\zo/\zp E=zp E/\zq/\zm/\True
  (∃(x:zb),ly zc s (bj x) (bg x).1 (bg x).2/\(0=(↑(bj x):Int)/\[s]=(bg x).1/\@bc (List (List UInt8)×List Int×List (List UInt8×Int×Bool×Unit)×List (Int×Int×Int×List UInt8×Bool×Unit)×Unit)=(bg x).2/\True)/\[s]=(bg x).1/\@bc (List (List UInt8)×List Int×List (List UInt8×Int×Bool×Unit)×List (Int×Int×Int×List UInt8×Bool×Unit)×Unit)=(bg x).2/\True)/\∀E:Nat×List (List UInt8)×List (List (List UInt8)×List Int×List (List UInt8×Int×Bool×Unit)×List (Int×Int×Int×List UInt8×Bool×Unit)×Unit),ly zc s E.1 E.2.1 E.2.2->bb E.2.1<=aI->((decide (zd E))=true->(0<=(↑E.1:Int)/\zd E)/\True/\(True->((!aS.isNil (aL (ze E).2.2))=true->True/\f=f/\([],[],aL (ze E).2.2,())=zg)/\((!aS.isNil (aL (ze E).2.2))=false->True/\((!aS.isNil (aL (cF (ze E).1).2))=true->True/\f=f/\([],[],aL (cF (ze E).1).2,())=zg)/\((!aS.isNil (aL (cF (ze E).1).2))=false->(E.2.2=E.2.2/\bb E.2.2+bb [(cF (ze E).1).1]<=1000000000)/\(zi E<=aI->(∃(x:Nat),x<=zi E/\(0=(↑x:Int)/\E.2.1=fQ E.2.1 (bf x (zh E))/\True)/\E.2.1=fQ E.2.1 (bf x (zh E))/\True)/\∀F:Nat,F<=zi E->((decide ((↑F:Int)<(↑(zi E):Int)))=true->(0<=(↑F:Int)/\(↑F:Int)<(↑(zi E):Int))/\True/\((!dc (zj E F) fun(x:za)=>x == nth Ty.str (zh E) F)=true->(zj E F=zj E F/\bb (zj E F)+bb [nth Ty.str (zh E) F]<=1000000000)/\(aF (↑F:Int)->zk->aF (zl F)/\∃(x':Nat),x'<=zi E/\zi E-x'<zi E-F/\(zl F=(↑x':Int)/\zj E F++[nth Ty.str (zh E) F]=fQ E.2.1 (bf x' (zh E))/\True)/\zj E F++[nth Ty.str (zh E) F]=fQ E.2.1 (bf x' (zh E))/\zr E))/\((!dc (zj E F) fun(x:za)=>x == nth Ty.str (zh E) F)=false->aF (↑F:Int)->zk->aF (zl F)/\∃(x':Nat),x'<=zi E/\zi E-x'<zi E-F/\(zl F=(↑x':Int)/\zj E F=fQ E.2.1 (bf x' (zh E))/\True)/\zj E F=fQ E.2.1 (bf x' (zh E))/\zr E))/\((decide ((↑F:Int)<(↑(zi E):Int)))=false->aF (↑E.1:Int)->zk->aF ((↑E.1:Int)+1)/\∃(x':zb),ly zc s (bj x') (bg x').1 (bg x').2/\7-bj x'<7-E.1/\((↑E.1:Int)+1=(↑(bj x'):Int)/\zj E F=(bg x').1/\zp E=(bg x').2/\True)/\zj E F=(bg x').1/\zp E=(bg x').2/\zq/\zm/\zn/\zo/\True))))))/\((decide (zd E))=false->True/\f=f/\(E.2.1,E.2.2,aS.nil,())=zg)) (by kernel_rfl) ?_
 dsimp -iota -proj -eta only;refine⟨(⟨(0,[s],[]),ly.zero _ _,⟨rfl,rfl,rfl,ba⟩,(by trivial)⟩),fun E q_0 h0=>iL (fun h1=>⟨?a,ba,fun h2=>iB (fun h3=>(by rw[q_0.LX (kW hp) (by omega) (fun e=>by rw[aV.2 e]at h3;cases h3)];exact⟨ba,rfl,rfl⟩)) (fun h3=>⟨ba,iB (fun h4=>(by rw[q_0.Ql (by omega) (aV.1 h3) (fun e=>by rw[aV.2 e]at h4;cases h4)];exact⟨ba,rfl,rfl⟩)) (fun h4=>⟨⟨rfl,q_0.Ss⟩,fun h5=>⟨(⟨0,b7 _,⟨rfl,rfl,ba⟩,rfl,ba⟩),fun F q_1=>iL (fun h6=>⟨?b,ba,iB (fun h7=>⟨⟨rfl,q_0.Vt (kW hp) (tB (aV.1 h3) (aV.1 h4)) _⟩,fun h8 h9=>⟨?c,(⟨F+1,by omega,by omega,⟨by omega,B0 (by omega) ‹_›,ba⟩,B0 (by omega) ‹_›,(by trivial)⟩)⟩⟩) (fun h7 h8 h9=>⟨?d,(⟨F+1,by omega,by omega,⟨by omega,B1 (by omega) ‹_›,ba⟩,B1 (by omega) ‹_›,(by trivial)⟩)⟩)⟩) (fun h6 h7 h8=>⟨?e,(by exact⟨(E.1+1,_,_),q_0.next (kW hp) (by omega) (tB (aV.1 h3) (aV.1 h4)),by have:=q_0.room (kW hp) (by omega) (tB (aV.1 h3) (aV.1 h4));simp only;omega,⟨by simp only;omega,B2 (by omega),rfl,ba⟩,B2 (by omega),rfl,(by trivial)⟩)⟩)⟩⟩)⟩)⟩) (fun h1=>(by rw[q_0.done (by omega)];exact⟨ba,rfl,rfl⟩))⟩
 case a|b=>omega
 case c|d|e=>simp only[aF,aI]at*;omega
def Tryz.Pd:bY Tryz.prog Tryz.B.eT Tryz.X 108 false (aW Tryz.bK [.obj 0,.d .str] (fun _ x=>x.2.1.1.length<=6) Tryz.Hc):=
 aZ (B:=(jl Tryz.B [17])) (X:=Tryz.X) (bL.hint (l:=[17]) Tryz.aah) Tryz.func108 (by kernel_rfl) (fun(a:CD [.obj 0,.d .str]) (x:PD Tryz.bK)=>Tryz.Xb a.1 x) (fun(a:CD [.obj 0,.d .str]) (x:PD Tryz.bK) hw hp=>Pc a.1 x hw hp)
def aai(n:Int)(hw:eD [.int .i64] n)(hp:(fun n=>0<=n/\n<=1000000) n):(cL Tryz.B [] Tryz.f142 [] [.int .i64] [.int .i64] (fun x y=>y=(fun n=>cP n) x) n).holds:=by
 refine holds_of (p:=
  let za:=aF (16:Int)
  let zb:=aF (n+(16:Int))
  let zc:=n+(16:Int)-(1:Int)
  aF n->za->zb/\(zb->aF (1:Int)->aF zc/\(16:Int)≠(0:Int)/\∀E:Int,E=Int.tdiv zc (16:Int)->aF zc->za->aF E/\∀F:Int,F=E*(16:Int)->aF E->za->aF F/\F=cP n)) (by kernel_rfl) ?_
 dsimp -iota -proj -eta only;refine fun h0 h1=>⟨?a,fun h2 h3=>⟨?b,(by omega),fun E q_0 h4 h5=>⟨?c,fun F q_1 h6 h7=>⟨?d,?e⟩⟩⟩⟩
 case a|b=>simp only[aF]at*;omega
 case c|d|e=>subst_vars;rw[Int.tdiv_eq_ediv_of_nonneg (by omega)];(try unfold cP);(try simp only[aF]);omega
def Tryz.aaj:bO Tryz.prog Tryz.B.eT Tryz.X 142 [.int .i64] [.int .i64] (fun n=>0<=n/\n<=1000000) (fun x y=>y=(fun n=>cP n) x):=
 bP (X:=Tryz.X) (bJ Tryz.bI) Tryz.func142 (by kernel_rfl) (fun _=>[]) (fun x hw hp=>aai x hw hp)
def aak(a:Int×Int×Unit)(b:Int×Int×Unit)(hw:eD [bA,bA] (a,b))(hp:(fun x=>qG x.1/\qG x.2) (a,b)):(cL Tryz.B [] Tryz.f188 [] [bA,bA] [.bool] (fun x y=>y=(fun x=>jv x.1 x.2) x) (a,b)).holds:=by
 refine holds_of (p:=
  let za:=true=jv a b
  let zb:=a.1+a.2.1
  let zc:=b.1+b.2.1
  ((decide (a.2.1<=0))=true->za)/\((decide (a.2.1<=0))=false->((decide (b.2.1<=0))=true->za)/\((decide (b.2.1<=0))=false->aF a.1->aF a.2.1->aF zb/\((decide (zb<=b.1))=true->za)/\((decide (zb<=b.1))=false->aF b.1->aF b.2.1->aF zc/\decide (zc<=a.1)=jv a b)))) (by kernel_rfl) ?_
 dsimp -iota -proj -eta only;dsimp only at hp;simp only[qG]at hp;refine iE (fun h0 =>?a) (fun h0=>iE (fun h1 =>?b) (fun h1 h2 h3=>⟨?c,iE (fun h4 =>?d) (fun h4 h5 h6=>⟨?e,?f⟩)⟩))
 case a|b|d|f=>rw[dk];simp only[jv,Bool.or_eq_true,decide_eq_true_eq,true_iff];omega
 case c|e=>simp only[aF]at*;omega
def Tryz.Nc:bO Tryz.prog Tryz.B.eT Tryz.X 188 [bA,bA] [.bool] (fun x=>qG x.1/\qG x.2) (fun x y=>y=(fun x=>jv x.1 x.2) x):=
 bP (X:=Tryz.X) (bJ Tryz.bI) Tryz.func188 (by kernel_rfl) (fun _=>[]) (fun x hw hp=>aak x.1 x.2 hw hp)
def Tryz.spZ29:Bool×aX:=(true,bX [bA,bA] [.bool] (fun x=>qG x.1/\qG x.2) (fun x=>jv x.1 x.2))
def Tryz.Ji:List (FuncId×(Bool×aX)):=[(188,Tryz.spZ29)]
def Tryz.Pe:bL Tryz.prog Tryz.B Tryz.X Tryz.Ji:=
 aM (aE Tryz.Nc) (bJ Tryz.bI)
def Tryz.Nd:List (FuncId×(Bool×aX)):=[(187,(false,iS Tryz.B Tryz.Ji Tryz.f187 []))]
def Tryz.TB:bL Tryz.prog Tryz.B Tryz.X Tryz.Nd:=
 aM (gz Tryz.Pe Tryz.func187 (by kernel_rfl) []) (bJ Tryz.bI)
def Jj:cU:=[(0,fun st=>{X:=Nat,inv:=fun i=>i<=(bG (.slice bA) st 0).length/\∀j,j<i->jv (Yu bA st (RC st 1 0)) (nth bA (bG (.slice bA) st 0) j)=true,bF:=fun i=>(bG (.slice bA) st 0).length-i,aY:=fun i=>[(8,sI i)],keep:=[0,1,7]})]
def Tryz.Nf:List (FuncId×(Bool×aX)):=[(217,(false,iS Tryz.B Tryz.Nd Tryz.f217 Jj))]
def Tryz.TC:bL Tryz.prog Tryz.B Tryz.X Tryz.Nf:=
 aM (gz Tryz.TB Tryz.func217 (by kernel_rfl) Jj) (bJ Tryz.bI)
def Tryz.Ng:List (FuncId×(Bool×aX)):=[(186,(false,iS Tryz.B Tryz.Nf Tryz.f186 []))]
def Tryz.TD:bL Tryz.prog Tryz.B Tryz.X Tryz.Ng:=
 aM (gz Tryz.TC Tryz.func186 (by kernel_rfl) []) (bJ Tryz.bI)
def ace(r:Int×Int×Unit)(l:List (D bA))(hw:eD [bA,.slice bA] (r,l))(hp:(fun x=>qG x.1/\∀y∈x.2,qG y) (r,l)):(cL Tryz.B Tryz.Ng Tryz.f143 [] [bA,.slice bA] [.bool] (fun x y=>y=(fun x=>jm x.1 x.2) x) (r,l)).holds:=by
 refine holds_of (p:=
  let za:=bb l
  za<=aI->(∃(x:Nat),(x<=za/\∀(j:Nat),j<x->jv r (nth bA l j)=true)/\(0=(↑x:Int)/\True)/\True)/\∀E:Nat,(E<=za/\∀(j:Nat),j<E->jv r (nth bA l j)=true)->((decide ((↑E:Int)<(↑za:Int)))=true->(0<=(↑E:Int)/\(↑E:Int)<(↑za:Int))/\(qG r/\qG (nth bA l E))/\((!jv r (nth bA l E))=true->(!decide ((↑E:Int)>=0))=jm r l)/\((!jv r (nth bA l E))=false->aF (↑E:Int)->aF 1->aF ((↑E:Int)+1)/\∃(x':Nat),(x'<=za/\∀(j:Nat),j<x'->jv r (nth bA l j)=true)/\za-x'<za-E/\((↑E:Int)+1=(↑x':Int)/\True)/\(r.1=r.1/\r.2.1=r.2.1/\True)/\True))/\((decide ((↑E:Int)<(↑za:Int)))=false->(!decide ((-1:Int)>=0))=jm r l)) (by kernel_rfl) ?_
 dsimp -iota -proj -eta only;dsimp only at hp;refine fun h0=>⟨?a,fun E q_0=>iL (fun h1=>⟨(by omega),⟨hp.1,hp.2 _ (eO (by omega))⟩,iB (fun h2=>(by rw[CA (j:=E) (by omega) h2];simp)) (fun h2 h3 h4=>⟨(by simp only[aF,aI]at*;omega),(by exact⟨E+1,⟨by omega,fun j hj=>by by_cases e:j=E;(subst e;exact h2);exact q_0.2 j (by omega)⟩,by omega,⟨by omega,ba⟩,(by trivial)⟩)⟩)⟩) (fun h1=>(by rw[E4 fun j hj=>q_0.2 j (by omega)];simp))⟩
 case a=>refine⟨0,?_⟩;(repeat' (first|exact trivial|rfl|omega|assumption|apply ec))
def Tryz.acf:bO Tryz.prog Tryz.B.eT Tryz.X 143 [bA,.slice bA] [.bool] (fun x=>qG x.1/\∀y∈x.2,qG y) (fun x y=>y=(fun x=>jm x.1 x.2) x):=
 bP (X:=Tryz.X) Tryz.TD Tryz.func143 (by kernel_rfl) (fun _=>[]) (fun x hw hp=>ace x.1 x.2 hw hp)
def Tryz.spZ30:Bool×aX:=(true,bX [.int .i64] [.int .i64] (fun n=>0<=n/\n<=1000000) (fun n=>cP n))
def Tryz.Nh:List (FuncId×(Bool×aX)):=[(49,Tryz.spZ0),(50,Tryz.spZ1),(156,Tryz.spZ2),(83,Tryz.spZ3),(11,Tryz.spZ4),(142,Tryz.spZ30),(188,Tryz.spZ29),(143,(true,bX [bA,.slice bA] [.bool] (fun x=>qG x.1/\∀y∈x.2,qG y) (fun x=>jm x.1 x.2)))]
def Tryz.TE:bL Tryz.prog Tryz.B Tryz.X Tryz.Nh:=
 aM (aE Tryz.js) (aM (aE Tryz.fI) (aM (aE Tryz.kE) (aM (aE Tryz.jt) (aM (aE Tryz.kG) (aM (aE Tryz.aaj) (aM (aE Tryz.Nc) (aM (aE Tryz.acf) (bJ Tryz.bI))))))))
def Ni(s:List Int)(l:List (D bA)):cU:=[
 (0,fun st=>{X:=Nat,inv:=fun i=>i<=s.length/\∀j,j<i->1<=(nth (.int .i64) s j:Int)/\(nth (.int .i64) s j:Int)<=40,bF:=fun i=>s.length-i,aY:=fun i=>[(26,sI i)],keep:=[0,1,24,25]}),
 (2,fun st=>{X:=Nat,inv:=fun i=>i<=l.length/\∀j,j<i->ke (nth bA l j),bF:=fun i=>l.length-i,aY:=fun i=>[(40,sI i)],keep:=[0,1,38,39]}),
 (4,fun st=>{X:=Nat×List (D bA)×List Int,inv:=fun x=>x.1<=s.length/\fR x.2.1 (s.drop x.1) x.2.2=fR l s []/\(∀y∈x.2.1,ke y)/\x.2.1.length=l.length+x.1/\x.2.2.length=x.1,bF:=fun x=>s.length-x.1,aY:=fun x=>[(68,sI x.1),(10,.s (.one (.app bA x.2.1 (aT st 10)))),(11,.s (.one (.app (.int .i64) x.2.2 (aT st 11))))],aH:=fun x=>[(aT st 10,.tok bA x.2.1),(aT st 11,.tok (.int .i64) x.2.2)],keep:=[66,67],eA:=[aT st 10,aT st 11]}),
 (6,fun st=>{X:=Nat,inv:=fun j=>j<=32/\gP (bG (.slice bA) st 10) (Rr (.int .i64) st (aT st 14) 1) (40-j) (16*(j:Int))=gP (bG (.slice bA) st 10) (Rr (.int .i64) st (aT st 14) 1) 40 0,bF:=fun j=>40-j,aY:=fun j=>[],aH:=fun j=>[(aT st 14,.cells 226 [.d (.int .i64) (16*(j:Int)),.d (.int .i64) (Rr (.int .i64) st (aT st 14) 1)])],keep:=[4,5,10,11,13,14,66,67,68,69,70,71,72,73,74],eA:=[aT st 14]})]
def aal(s:List Int)(l:List (D bA))(hw:eD [.slice (.int .i64),.slice bA] (s,l)):(cL (jl Tryz.B [65]) Tryz.Nh Tryz.f109 (Ni s l) [.slice (.int .i64),.slice bA] [.slice (.int .i64),.err] (fun x y=>y=(fun x=>cC x) x) (s,l)).holds:=by
 refine holds_of (p:=
  let za:=bb s
  let zb:=za<=aI
  let zc:=(↑za:Int)
  let zd:=cC (s,l)
  let ze:=([],aS.no 2)=zd
  let zf:=bb l
  let zg:=Ty.int bn
  let zh:=fun(E:Nat)=>(↑E:Int)
  let zi:=([],aS.no 1)=zd
  let zj:=aF 1
  let zk:=@bc Int=@bc Int/\True
  let zl:=Int×Int×Unit
  let zm:=Nat×List zl×List Int
  let zn:=fR l s (@bc Int)
  let zo:=fun(G:Nat×List (Int×Int×Unit)×List Int)=>cP (nth zg s G.1)
  let zp:=fun(G:Nat×List (Int×Int×Unit)×List Int)=>gP G.2.1 (zo G) 40 0
  let zq:=fun(I:Nat)=>16*zh I
  zb->((decide (zc > 6))=true->ze)/\((decide (zc > 6))=false->zf<=aI->((decide ((↑zf:Int) > 20))=true->ze)/\((decide ((↑zf:Int) > 20))=false->zb->(∃(x:Nat),(x<=za/\∀(j:Nat),j<x->1<=nth zg s j/\nth zg s j<=40)/\(0=(↑x:Int)/\True)/\True)/\∀E:Nat,(E<=za/\∀(j:Nat),j<E->1<=nth zg s j/\nth zg s j<=40)->((decide (zh E<zc))=true->(0<=zh E/\zh E<zc)/\((decide (nth zg s E<1))=true->zi)/\((decide (nth zg s E<1))=false->((decide (nth zg s E > 40))=true->zi)/\((decide (nth zg s E > 40))=false->aF (zh E)->zj->aF (zh E+1)/\∃(x':Nat),(x'<=za/\∀(j:Nat),j<x'->1<=nth zg s j/\nth zg s j<=40)/\za-x'<za-E/\(zh E+1=(↑x':Int)/\True)/\zk)))/\((decide (zh E<zc))=false->zf<=aI->(∃(x:Nat),(x<=zf/\∀(j:Nat),j<x->ke (nth bA l j))/\(0=(↑x:Int)/\True)/\True)/\∀F:Nat,(F<=zf/\∀(j:Nat),j<F->ke (nth bA l j))->((decide (zh F<(↑zf:Int)))=true->(0<=zh F/\zh F<(↑zf:Int))/\((decide ((nth bA l F).1<0))=true->zi)/\((decide ((nth bA l F).1<0))=false->((decide ((nth bA l F).1 > 256))=true->zi)/\((decide ((nth bA l F).1 > 256))=false->((decide ((nth bA l F).2.1<0))=true->zi)/\((decide ((nth bA l F).2.1<0))=false->((decide ((nth bA l F).2.1 > 256))=true->zi)/\((decide ((nth bA l F).2.1 > 256))=false->aF (zh F)->zj->aF (zh F+1)/\∃(x':Nat),(x'<=zf/\∀(j:Nat),j<x'->ke (nth bA l j))/\zf-x'<zf-F/\(zh F+1=(↑x':Int)/\True)/\zk)))))/\((decide (zh F<(↑zf:Int)))=false->zf<=1000000000/\(zb->(∃(x:zm),(bj x<=za/\fR (bg x).1 (bk (bj x) s) (bg x).2=zn/\(∀(y:zl),y∈(bg x).1->ke y)/\bb (bg x).1=zf+bj x/\bb (bg x).2=bj x)/\(0=(↑(bj x):Int)/\l=(bg x).1/\@bc Int=(bg x).2/\True)/\l=(bg x).1/\@bc Int=(bg x).2/\True)/\∀G:Nat×List (Int×Int×Unit)×List Int,G.1<=za/\fR G.2.1 (bk G.1 s) G.2.2=zn/\(∀(y:zl),y∈G.2.1->ke y)/\bb G.2.1=zf+G.1/\bb G.2.2=G.1->((decide ((↑G.1:Int)<zc))=true->(0<=(↑G.1:Int)/\(↑G.1:Int)<zc)/\(0<=nth zg s G.1/\nth zg s G.1<=1000000)/\(∃(x:Nat),(x<=32/\gP G.2.1 (zo G) (40-x) (16*(↑x:Int))=zp G)/\True/\(0=16*(↑x:Int)/\zo G=zo G/\True)/\True)/\∀I:Nat,I<=32/\gP G.2.1 (zo G) (40-I) (zq I)=zp G->(qG (zq I,zo G,())/\∀(y:zl),y∈G.2.1->qG y)/\((!jm (zq I,zo G,()) G.2.1)=true->aF (zq I)->aF 16->aF (zq I+16)/\∃(x':Nat),(x'<=32/\gP G.2.1 (zo G) (40-x') (16*(↑x':Int))=zp G)/\40-x'<40-I/\True/\(zq I+16=16*(↑x':Int)/\zo G=zo G/\True)/\G.2.1=G.2.1/\G.2.2=G.2.2/\zk)/\((!jm (zq I,zo G,()) G.2.1)=false->aF (zq I)->aF (zo G)->aF (zq I+zo G)/\((decide (zq I+zo G > 256))=true->([],aS.no 8)=zd)/\((decide (zq I+zo G > 256))=false->(G.2.1=G.2.1/\bb G.2.1+bb [(zq I,zo G,())]<=1000000000)/\(G.2.2=G.2.2/\bb G.2.2+bb [zq I]<=1000000000)/\(aF (↑G.1:Int)->zj->aF ((↑G.1:Int)+1)/\∃(x':zm),(bj x'<=za/\fR (bg x').1 (bk (bj x') s) (bg x').2=zn/\(∀(y:zl),y∈(bg x').1->ke y)/\bb (bg x').1=zf+bj x'/\bb (bg x').2=bj x')/\za-bj x'<za-G.1/\((↑G.1:Int)+1=(↑(bj x'):Int)/\G.2.1++[(zq I,zo G,())]=(bg x').1/\G.2.2++[zq I]=(bg x').2/\True)/\G.2.1++[(zq I,zo G,())]=(bg x').1/\G.2.2++[zq I]=(bg x').2/\zk))))/\((decide ((↑G.1:Int)<zc))=false->(G.2.2,aS.nil)=zd))))))) (by kernel_rfl) ?_
 dsimp -iota -proj -eta only;refine fun h0=>iL (fun h1 =>?a) (fun h1 h2=>iL (fun h3 =>?b) (fun h3 h4=>⟨?c,fun E q_0=>iL (fun h5=>⟨?d,iL (fun h6 =>?e) (fun h6=>iL (fun h7 =>?f) (fun h7 h8 h9=>⟨?g,(by(try dsimp only[D]at*);exact⟨E+1,⟨by omega,fun j hj=>by by_cases e:j=E;(subst e;(try dsimp only[D]);omega);exact q_0.2 j (by omega)⟩,by omega,⟨by omega,ba⟩,(by trivial)⟩)⟩))⟩) (fun h5 h6=>⟨?h,fun F q_1=>iL (fun h7=>⟨?i,iL (fun h8 =>?j) (fun h8=>iL (fun h9 =>?k) (fun h9=>iL (fun h10 =>?l) (fun h10=>iL (fun h11 =>?m) (fun h11 h12 h13=>⟨?n,(by(try dsimp only[D]at*);exact⟨F+1,⟨by omega,fun j hj=>by by_cases e:j=F;(subst e;unfold ke;(try dsimp only[D]);omega);exact q_1.2 j (by omega)⟩,by omega,⟨by omega,ba⟩,(by trivial)⟩)⟩))))⟩) (fun h7=>⟨?o,fun h8=>⟨(⟨(0,l,[]),⟨b7 _,rfl,(fun y (hy:y∈l)=>by obtain⟨i,hi,e⟩:=gT (t:=bA) hy;rw[<-e];exact q_1.2 i (by omega)),rfl,rfl⟩,(by trivial),(by trivial)⟩),fun G q_2=>iL (fun h9=>⟨?p,(by have:=q_0.2 G.1 (by omega);(try dsimp only[D]at*);omega),?q,fun I q_3=>⟨?r,iB (fun h10 h11 h12=>⟨?s,?t⟩) (fun h10 h11 h12=>⟨?u,iL (fun h13 =>?v) (fun h13=>⟨?w,?x,fun h14 h15=>⟨?y,?z⟩⟩)⟩)⟩⟩) (fun h9=>(by rw[sG (by omega) (fun j hj=>q_0.2 j (by omega)) (fun j hj=>q_1.2 j (by omega)),<-q_2.2.1,CB (by omega)]))⟩⟩)⟩)⟩))
 case a|b=>rw[vD (by omega)]
 case c|h|q=>refine⟨0,?_⟩;(repeat' (first|exact trivial|rfl|omega|assumption|apply ec))
 case d|i|o|p=>omega
 case e|f=>(try dsimp only[D]at*);rw[vE (by omega) (i:=E) (by omega) (by(try dsimp only[D]);omega)]
 case g|n|s|y=>simp only[aF,aI]at*;omega
 case j|k|l|m=>(try dsimp only[D]at*);rw[tX (by omega) (i:=F) (by omega) (by unfold ke;(try dsimp only[D]);omega)]
 case r=>
  have hs:=q_0.2 G.1 (by omega);have hr:=eE hs.1 hs.2;exact⟨by refine⟨?_,?_,?_,?_⟩ <;> simp only <;> omega,fun y hy=>(q_2.2.2.1 y hy).qG⟩
 case t=>
  have hf:jm (16*(I:Int),cP (nth (.int .i64) s G.1),()) G.2.1=false:=by assumption
  have hn:=HJ q_2.2.2.1 hf;exact⟨I+1,⟨by omega,by rw[<-q_3.2,show 40-I=(40-(I+1))+1 by omega,HK hf,show 16*((I+1:Nat):Int)=16*(I:Int)+16 by omega]⟩,by omega,ba,⟨by omega,rfl,ba⟩,(by trivial)⟩
 case u=>
  have hs:=q_0.2 G.1 (by omega);have hr:=eE hs.1 hs.2;have hf:jm (16*(I:Int),cP (nth (.int .i64) s G.1),()) G.2.1=true:=by assumption
  have hb:=q_3.2.symm.trans (se hf);simp only[aF];omega
 case v=>
  have hs:=q_0.2 G.1 (by omega);have hr:=eE hs.1 hs.2;have hf:jm (16*(I:Int),cP (nth (.int .i64) s G.1),()) G.2.1=true:=by assumption
  have hb:=q_3.2.symm.trans (se hf);rw[sG (by omega) (fun j hj=>q_0.2 j (by omega)) (fun j hj=>q_1.2 j (by omega)),<-q_2.2.1,oW (by omega),if_pos (by rw[hb];omega)]
 case w|x=>simp only[b9,true_and];omega
 case z=>
  have hs:=q_0.2 G.1 (by omega);have hr:=eE hs.1 hs.2;have hf:jm (16*(I:Int),cP (nth (.int .i64) s G.1),()) G.2.1=true:=by assumption
  have hb:=q_3.2.symm.trans (se hf);exact⟨(G.1+1,_,_),⟨by omega,by rw[<-q_2.2.1,oW (k:=G.1) (by omega),if_neg (by rw[hb];omega),hb],La q_2.2.2.1 (by refine⟨?_,?_,?_,?_⟩ <;> simp only <;> omega),by simp only[bw,b9];omega,by simp only[bw,b9];omega⟩,by simp only;omega,⟨by simp only;omega,rfl,rfl,ba⟩,(by trivial)⟩
def Tryz.aam:bO Tryz.prog Tryz.B.eT Tryz.X 109 [.slice (.int .i64),.slice bA] [.slice (.int .i64),.err] (fun _=>True) (fun x y=>y=(fun x=>cC x) x):=
 bP (B:=(jl Tryz.B [65])) (X:=Tryz.X) (bL.hint (l:=[65]) Tryz.TE) Tryz.func109 (by kernel_rfl) (fun x=>Ni x.1 x.2) (fun x hw hp=>aal x.1 x.2 hw)
end Go.Proofs.YtgokjhhcfemnhabGreatDoor

