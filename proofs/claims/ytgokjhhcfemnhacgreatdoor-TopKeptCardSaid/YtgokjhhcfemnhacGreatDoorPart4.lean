/- A part of the proof that the law TopKeptCard holds of the given program: facts that are used there. -/
import Derived.Test.YtgokjhhcfemnhacGreatDoorPart3
import Derived.Test.YtgokjhhcfemnhacGreatDoorChecked
import Derived.Lib.LaidTab
import Derived.Lib.ItoaNum
import Derived.Shelf.Strconv.Itoa3
import Derived.Shelf.Strconv.AtoiAll
import Derived.Shelf.Strings.Split
import Derived.Shelf.Small.Wraps
import Derived.Shelf.Strings.Prefix
import Derived.Shelf.LaysM
import Derived.Shelf.LaysC
import Derived.Sort.Grow
import Derived.Lib.SplitLaws
import Derived.Lib.Builder
import Derived.Lib.UnsafeStr
import Derived.Lib.Strings
import Derived.Lib.Slices
import Derived.Lib.Walk
import Derived.Laws.Externs
import Derived.Deep.Heap
import Derived.Shelf.RegionOpenPlain
import Derived.RangeFuncLeaves
import Derived.Shelf.Abstract
import Derived.WalkKit
import Derived.OwnWalkIn
import Derived.TacticsInMore
import Derived.LoopNIn
import Derived.LoopIn
import Derived.BigRegionIn
import Derived.Deep.LoopGhost
import Derived.Deep.RegionLaw
import Derived.Lib.SliceRun
import Derived.Shelf.SlicesG.Delete
import Derived.Deep.Upon
set_option linter.unusedSimpArgs false
set_option linter.unusedVariables false
set_option maxRecDepth 100000
set_option maxHeartbeats 4000000
set_option linter.defProp false
noncomputable section
open True renaming intro->ba
open List renaming length->bb,nil->bc,take->bg,drop->bj,map->bo,length_append->bt,length_cons->bw,length_map->bx,length_nil->bz,length_singleton->b3,length_take->b9,replicate->ch,length_replicate->cp,range->cr,drop_zero->c6,set->c7,any->da,length_eq_zero_iff->dk,length_eq_one_iff->dn,length_drop->dv,take_of_length_le->dw,mem_of_getElem?->ef,length_set->en,range_succ->ep,take_zero->er
open Int renaming toNat->bd,fdiv->cf,tmod->db,le_refl->dh,one_mul->du,le_of_lt_add_one->dz,toNat_natCast->e0
open Prod renaming snd->bf,fst->bh
open Go.IntKind renaming wrap->bk,i64->bm,u64->bu,u8->cd,bits->cj
open Go.Lib renaming itoa->bp,countB->bq,trimSuffix->br,splitB->b7,trimPrefix->cb,cell_of_heap->cc,hasPrefix->cy,atoiAll->dc,frozen_of_heap->de,TabIs->di,pow10Tab->dj,atoiSat->dm,nDigits_small->dT,decDigits_length->ec,splitB_all->ed,splitB_data->ee,run_unsafeSliceData_row->ej
open UInt8 renaming toNat->b4
open Nat renaming le_trans->b5,zero_le->b6,le_refl->b8,min->cg,not_lt_zero->cu,add_zero->dp,lt_div_iff_mul_lt->eo
open BitVec renaming ofInt->ca,toNat->cq
open Option renaming isNone->ck,map_eq_some_iff->cz,map_some->eg
open Go.Builtin renaming zeroCells->cm,clear_->dx,unsafeSliceData_->ei,unsafeString_->ek
open Go.Value renaming string->cn
open Bool renaming noConfusion->ct,eq_iff_iff->dy
open Go.Shelf renaming Ren->cw
open And renaming intro->c8
open ByteArray renaming size->dd
open Array renaming length_toList->df
open Go.Result renaming andThen->dq
open Go.Oper renaming upon_value->dr
open Go.Deep renaming nblk_setCell->ds,blk_setCell_other->dt
open Go.World renaming shape?->eh,os_setCells->eu,output_setCells->ew,heap_setCells_other->ey
open Go.Proofs.Lays renaming n103->e5,n102->e9,n146->fa
open Go.Proofs.LaysM renaming n171->e7
open Go.Proofs.LaysC renaming n172->e8
open Go.Extern.AbiNoEscape renaming same->fb
namespace Go.Proofs.YtgokjhhcfemnhacGreatDoor
open Go.Vg
def Tryz.B:Cx:={eT:=128,τ:=[(2,(.int .i64)),(3,(.int .i64)),(4,.bool),(5,(.int .u8)),(7,(.prod (.int .i64) (.prod (.int .i64) (.prod .bool (.prod (.int .u8) .unit))))),(9,.str),(12,(.int .u64)),(13,(.prod .str (.prod (.int .u64) .unit))),(18,(.prod .gB .unit)),(21,(.int .i32)),(22,(.slice dB)),(23,(.int .u64)),(25,.gB),(26,.gB),(31,(.slice aC)),(32,(.prod (.slice aC) .unit)),(33,(.prod (.slice aC) .unit)),(35,.err),(36,.err),(37,(.slice aG)),(38,(.slice aS)),(39,aC),(40,aC),(41,dB),(42,dB),(53,aG),(54,aG),(56,(.slice .str)),(57,(.slice (.int .i64))),(58,(.slice aR)),(59,(.slice bB)),(60,aA),(61,aA),(65,.gB),(68,(.slice aA)),(73,(.slice dF)),(78,(.slice (.slice (.int .i64)))),(81,dF),(82,dF),(85,bB),(86,bB),(89,aS),(90,aS),(98,aR),(99,aR),(110,.gB),(121,(.slice jr)),(122,Um),(123,Um),(125,(.prod .gB (.prod (.int .i64) (.prod (.slice aC) .unit)))),(126,(.prod .gB (.prod (.int .i64) (.prod (.slice aC) .unit)))),(128,(.int .i64)),(132,jr),(133,jr),(142,(.slice (.int .u8))),(143,(.prod .gB (.prod (.slice (.int .u8)) .unit))),(144,(.prod .gB (.prod (.slice (.int .u8)) .unit))),(150,.gB),(151,(.prod .gB (.prod (.int .i64) .unit))),(152,(.prod .gB (.prod (.int .i64) .unit))),(153,(.prod .str (.prod (.int .i64) .unit))),(154,(.prod .str (.prod (.int .i64) .unit))),(166,(.prod .gB (.prod .gB .unit))),(167,(.prod .gB (.prod .gB .unit))),(182,(.int .u64)),(211,(.slice aZ)),(212,aZ),(213,aZ),(216,(.int .u32)),(235,(.int .i64)),(247,(.prod (.int .u8) (.prod (.int .u8) .unit))),(248,(.prod (.int .u8) (.prod (.int .u8) .unit))),(253,(.prod .str (.prod .str (.prod .err .unit)))),(254,(.prod .str (.prod .str (.prod .err .unit)))),(259,(.prod .str .unit)),(260,(.prod .str .unit))],Af:=[(95,(40,4)),(227,(24,5)),(242,(20,23)),(243,(65,5)),(246,(256,5)),(249,(16,248)),(261,(32,5)),(262,(64,5)),(265,(0,16))],Γ:=[],N:=0,eqs:=[54,86,90,99],oI:=[25,26,141],qy:=[(150,(9,154))],sr:=[(144,5)]}
def Tryz.bQ:TyOK Tryz.prog Tryz.B:=UW (n:=16) (by kernel_rfl)
structure Tryz.WA (w:World):Prop where
 pow:di Tryz.prog w "internal/strconv.uint64pow10" .u64 dj
 max:∃m,w.cell? ⟨0,0,none⟩=some (.int .i64 m)
 Xt:∃ev,w.cell? ⟨4,0,none⟩=some ev/\(ev=.nilIface\/∃te pe,ev=.iface te pe)
 Xu:∃ev,w.cell? ⟨5,0,none⟩=some ev/\(ev=.nilIface\/∃te pe,ev=.iface te pe)
def Tryz.WB:Tryz.prog.globalNamed "internal/strconv.uint64pow10" =some 1:=by kernel_rfl
def yD{w:World}{b o:Nat}{v:Value}(h:w.cell? ⟨b,o,none⟩=some v):b<w.heap.size:=by
 unfold World.cell? at h;by_cases hb:b<w.heap.size
 ·exact hb
 ·have h0:w.heap[b]?=none:=Array.getElem?_eq_none (by omega)
  simp[h0]at h
def vE{w w':World}{b o:Nat}(h:w'.heap[b]?=w.heap[b]?):w'.cell? ⟨b,o,none⟩=w.cell? ⟨b,o,none⟩:=by
 unfold World.cell?;rw[h]
def QM{P:Program}{w w':World}{nm:String}{g:Nat}(hg:P.globalNamed nm=some g)(h:w'.heap[g]?=w.heap[g]?):w'.var? P nm=w.var? P nm:=by
 unfold World.var?;rw[hg];simp[h]
def Tryz.X:Ext:=
 {WY with
  vZ:=Tryz.WA
  DP:=[1,0,4,5]
  Gi:=fun{w} h b hb=>by
   obtain⟨h1,⟨m,h2⟩,⟨e3,h3,_⟩,⟨e4,h4,_⟩⟩:=h;simp only[List.mem_cons,List.not_mem_nil,or_false]at hb;rcases hb with rfl|rfl|rfl|rfl
   ·have h1':=World.var?_cell Tryz.WB h1 0
    exact yD (v:=.int .u64 1) (by simpa[dj]using h1')
   ·exact yD h2
   ·exact yD h3
   ·exact yD h4
  Bl:=fun{w w'} h hb=>by
   obtain⟨h1,⟨m,h2⟩,⟨e3,h3,h5⟩,⟨e4,h4,h6⟩⟩:=h;refine⟨?_,⟨m,?_⟩,⟨e3,?_,h5⟩,⟨e4,?_,h6⟩⟩
   ·unfold di at h1 ⊢
    rw[QM Tryz.WB (hb 1 (by simp))];exact h1
   ·rw[vE (hb 0 (by simp))];exact h2
   ·rw[vE (hb 4 (by simp))];exact h3
   ·rw[vE (hb 5 (by simp))];exact h4}
end Go.Proofs.YtgokjhhcfemnhacGreatDoor

namespace Go.Proofs.YtgokjhhcfemnhacGreatDoor
open Go.Vg Go.Mrl
def IF(s:List UInt8):dL:=[(0,fun st=>{X:=Nat,inv:=fun i=>i<=s.length/\∀j,j<i->iZ j (dH s j)=false,bX:=fun i=>s.length-i,bK:=fun i=>[(15,.s (.one (.d (.int .i64) i)))],aF:=fun _=>[],keep:=[0,14],gD:=[]})]
def IG(s:List UInt8):dL:=[(0,fun st=>{X:=Nat,inv:=fun i=>i<=s.length/\∀j,j<i->iZ j (dH s j)=false,bX:=fun i=>s.length-i,bK:=fun i=>[(3,.s (.one (.d (.int .i64) i)))],aF:=fun _=>[],keep:=[0],gD:=[]})]
def Tx(s:List UInt8)(hw:fY [.str] s):(cV Tryz.B [] Tryz.f76 (IF s) [.str] [.err] (fun x y=>y=(fun s=>aI (aN s)) x) s).holds:=by
 refine holds_of (p:=
  let za:=aI (aN s)
  let zb:=aM.no 1=za
  let zc:=bb s
  let zd:=fun(E:Nat)=>(↑(b4 (dH s E)):Int)
  let ze:=aM.no 3=za
  let zf:=fun(E:Nat)=>aJ (↑E:Int)->aJ 1->aJ ((↑E:Int)+1)/\∃(x':Nat),(x'<=zc/\∀(j:Nat),j<x'->iZ j (dH s j)=false)/\zc-x'<zc-E/\((↑E:Int)+1=(↑x':Int)/\True)/\True
  let zg:=fun(E:Nat)=>((zd E != 95)=true->ze)/\((zd E != 95)=false->zf E)
  let zh:=fun(E:Nat)=>(((↑E:Int) == 0)=true->ze)/\(((↑E:Int) == 0)=false->((decide (zd E<48))=true->zg E)/\((decide (zd E<48))=false->((decide (zd E > 57))=true->zg E)/\((decide (zd E > 57))=false->zf E)))
  ((s == @bc UInt8)=true->zb)/\((s == @bc UInt8)=false->zc<=aK->((decide ((↑zc:Int) > 8))=true->zb)/\((decide ((↑zc:Int) > 8))=false->zc<=aK->(∃(x:Nat),(x<=zc/\∀(j:Nat),j<x->iZ j (dH s j)=false)/\(0=(↑x:Int)/\True)/\True)/\∀E:Nat,(E<=zc/\∀(j:Nat),j<E->iZ j (dH s j)=false)->((decide ((↑E:Int)<(↑zc:Int)))=true->(0<=(↑E:Int)/\(↑E:Int)<(↑zc:Int))/\((decide (zd E<97))=true->zh E)/\((decide (zd E<97))=false->((decide (zd E > 122))=true->zh E)/\((decide (zd E > 122))=false->zf E)))/\((decide ((↑E:Int)<(↑zc:Int)))=false->aM.nil=za)))) (by kernel_rfl) ?_
 dsimp -iota -proj -eta only;refine iQ (fun h0 =>?a) (fun h0 h1=>iL (fun h2 =>?b) (fun h2 h3=>⟨(⟨0,⟨by omega,fun j hj=>by omega⟩,⟨rfl,ba⟩,ba⟩),fun E q_0=>iL (fun h4=>⟨?c,iL (fun h5=>iQ (fun h6 =>?d) (fun h6=>iL (fun h7=>iN (fun h8 =>?e) (fun h8 h9 h10=>⟨?f,?g⟩)) (fun h7=>iL (fun h8=>iN (fun h9 =>?h) (fun h9 h10 h11=>⟨?i,?j⟩)) (fun h8 h9 h10=>⟨?k,?l⟩)))) (fun h5=>iL (fun h6=>iQ (fun h7 =>?m) (fun h7=>iL (fun h8=>iN (fun h9 =>?n) (fun h9 h10 h11=>⟨?o,?p⟩)) (fun h8=>iL (fun h9=>iN (fun h10 =>?q) (fun h10 h11 h12=>⟨?r,?s⟩)) (fun h9 h10 h11=>⟨?t,?u⟩)))) (fun h6 h7 h8=>⟨?v,?w⟩))⟩) (fun h4 =>?x)⟩))
 case a|b=>rw[vQ (by first|omega|simp[h0])];rfl
 case c|f|o|r|t=>omega
 case d|e|h|m|n|q=>
  have hl:s.length≠0:=fun e=>h0 (dk.1 e)
  rw[iA (i:=E) (by omega) (by omega) (lJ.2 (by omega))];rfl
 case g|j|l|p|s|u|w=>exact⟨E+1,⟨by omega,oM q_0.2 (kY.2 (by omega))⟩,by omega,⟨by omega,ba⟩,ba⟩
 case i|k|v=>simp only[aJ,aK]at*;omega
 case x=>
  have hl:s.length≠0:=fun e=>h0 (dk.1 e)
  rw[tU (by omega) (fun i hi=>q_0.2 i (by omega))];rfl
def Tryz.jm:bT Tryz.prog Tryz.B.eT Tryz.X 76 [.str] [.err] (fun _=>True) (fun x y=>y=(fun s=>aI (aN s)) x):=
 bW (X:=Tryz.X) (bR Tryz.bQ) Tryz.func76 (by kernel_rfl) (fun x=>IF x) (fun x hw hp=>Tx x hw)
def IH(s:List UInt8)(hw:fY [.str] s):(cV Tryz.B [] Tryz.f99 (IG s) [.str] [.int .i64] (fun x y=>y=(fun s=>aN s) x) s).holds:=by
 refine holds_of (p:=
  let za:=bb s
  let zb:=za<=aK
  let zc:=(↑za:Int)
  let zd:=aN s
  let ze:=fun(E:Nat)=>0<=(↑E:Int)/\(↑E:Int)<zc
  let zf:=fun(E:Nat)=>(↑(b4 (dH s E)):Int)
  let zg:=fun(E:Nat) =>!decide (zf E<=122)
  let zh:=3=zd
  let zi:=fun(E:Nat)=>aJ (↑E:Int)->aJ 1->aJ ((↑E:Int)+1)/\∃(x':Nat),(x'<=za/\∀(j:Nat),j<x'->iZ j (dH s j)=false)/\za-x'<za-E/\((↑E:Int)+1=(↑x':Int)/\True)/\True
  let zj:=fun(E:Nat)=>(((↑E:Int) == 0)=true->zh)/\(((↑E:Int) == 0)=false->zi E)
  let zk:=fun(E:Nat)=>(((↑E:Int) == 0)=true->zh)/\(((↑E:Int) == 0)=false->((!zf E == 95)=true->zh)/\((!zf E == 95)=false->zi E))
  let zl:=fun(E:Nat)=>ze E/\((zg E)=true->zk E)/\((zg E)=false->zi E)
  zb->((decide (zc<1))=true->1=zd)/\((decide (zc<1))=false->zb->((decide (zc > 8))=true->1=zd)/\((decide (zc > 8))=false->(∃(x:Nat),(x<=za/\∀(j:Nat),j<x->iZ j (dH s j)=false)/\(0=(↑x:Int)/\True)/\True)/\∀E:Nat,(E<=za/\∀(j:Nat),j<E->iZ j (dH s j)=false)->zb->((decide ((↑E:Int)<zc))=true->ze E/\((decide (zf E>=97))=true->ze E/\ze E/\((decide (zf E>=48))=true->ze E/\((decide (zf E<=57))=true->((zg E)=true->zj E)/\((zg E)=false->zi E))/\((decide (zf E<=57))=false->zl E))/\((decide (zf E>=48))=false->zl E))/\((decide (zf E>=97))=false->ze E/\((decide (zf E>=48))=true->ze E/\((decide (zf E<=57))=true->zj E)/\((decide (zf E<=57))=false->ze E/\zk E))/\((decide (zf E>=48))=false->ze E/\zk E)))/\((decide ((↑E:Int)<zc))=false->0=zd)))) (by kernel_rfl) ?_
 dsimp -iota -proj -eta only;refine fun h0=>iL (fun h1 =>?a) (fun h1 h2=>iL (fun h3 =>?b) (fun h3=>⟨(⟨0,⟨by omega,fun j hj=>by omega⟩,⟨rfl,ba⟩,ba⟩),fun E q_0 h4=>iL (fun h5=>⟨?c,iE (fun h6=>⟨?d,?e,iE (fun h7=>⟨?f,iE (fun h8=>⟨fun h9=>iQ (fun h10 =>?g) (fun h10 h11 h12=>⟨?h,?i⟩),fun h9 h10 h11=>⟨?j,?k⟩⟩) (fun h8=>⟨?l,⟨fun h9=>iQ (fun h10 =>?m) (fun h10=>⟨fun h11 =>?n,fun h11 h12 h13=>⟨?o,?p⟩⟩),fun h9 h10 h11=>⟨?q,?r⟩⟩⟩)⟩) (fun h7=>⟨?s,⟨fun h8=>iQ (fun h9 =>?t) (fun h9=>⟨fun h10 =>?u,fun h10 h11 h12=>⟨?v,?w⟩⟩),fun h8 h9 h10=>⟨?x,?y⟩⟩⟩)⟩) (fun h6=>⟨?z,iE (fun h7=>⟨?a0,iE (fun h8=>iQ (fun h9 =>?a1) (fun h9 h10 h11=>⟨(by simp only[aJ,aK]at*;omega),(⟨E+1,⟨by omega,oM q_0.2 (kY.2 (by omega))⟩,by omega,⟨by omega,ba⟩,ba⟩)⟩)) (fun h8=>⟨?a2,iQ (fun h9 =>?a3) (fun h9=>⟨fun h10 =>?a4,fun h10 h11 h12=>⟨?a5,?a6⟩⟩)⟩)⟩) (fun h7=>⟨?a7,iQ (fun h8 =>?a8) (fun h8=>⟨fun h9 =>?a9,fun h9 h10 h11=>⟨?aa,?ab⟩⟩)⟩)⟩)⟩) (fun h5=>(by rw[tU (by omega) (fun i hi=>q_0.2 i (by omega))]))⟩))
 case a|b=>rw[vQ (by omega)]
 case c|d|e|f|l|s|z|a0|a2|a7=>omega
 case g|m|a9=>
  simp only[bl,reduceCtorEq]at h9;rw[iA (i:=E) (by omega) (by omega) (lJ.2 (by omega))]
 case h|j|aa=>
  simp only[bl,reduceCtorEq]at h9;omega
 case i|k|r|ab=>
  simp only[bl,reduceCtorEq]at h9;exact⟨E+1,⟨by omega,oM q_0.2 (kY.2 (by omega))⟩,by omega,⟨by omega,ba⟩,ba⟩
 case n=>
  simp only[bl,reduceCtorEq]at h9 h11;rw[iA (i:=E) (by omega) (by omega) (lJ.2 (by omega))]
 case o=>
  simp only[bl,reduceCtorEq]at h9 h11;omega
 case p=>
  simp only[bl,reduceCtorEq]at h9 h11;exact⟨E+1,⟨by omega,oM q_0.2 (kY.2 (by omega))⟩,by omega,⟨by omega,ba⟩,ba⟩
 case q=>
  simp only[bl,reduceCtorEq]at h9;simp only[aJ,aK]at*;omega
 case t=>
  simp only[bl,reduceCtorEq]at h8;rw[iA (i:=E) (by omega) (by omega) (lJ.2 (by omega))]
 case u=>
  simp only[bl,reduceCtorEq]at h8 h10;rw[iA (i:=E) (by omega) (by omega) (lJ.2 (by omega))]
 case v=>
  simp only[bl,reduceCtorEq]at h8 h10;omega
 case w=>
  simp only[bl,reduceCtorEq]at h8 h10;exact⟨E+1,⟨by omega,oM q_0.2 (kY.2 (by omega))⟩,by omega,⟨by omega,ba⟩,ba⟩
 case x=>
  simp only[bl,reduceCtorEq]at h8;omega
 case y=>
  simp only[bl,reduceCtorEq]at h8;exact⟨E+1,⟨by omega,oM q_0.2 (kY.2 (by omega))⟩,by omega,⟨by omega,ba⟩,ba⟩
 case a1|a3|a8=>rw[iA (i:=E) (by omega) (by omega) (lJ.2 (by omega))]
 case a4=>
  simp only[bl,reduceCtorEq]at h10;rw[iA (i:=E) (by omega) (by omega) (lJ.2 (by omega))]
 case a5=>
  simp only[bl,reduceCtorEq]at h10;simp only[aJ,aK]at*;omega
 case a6=>
  simp only[bl,reduceCtorEq]at h10;exact⟨E+1,⟨by omega,oM q_0.2 (kY.2 (by omega))⟩,by omega,⟨by omega,ba⟩,ba⟩
def Tryz.fH:bT Tryz.prog Tryz.B.eT Tryz.X 99 [.str] [.int .i64] (fun _=>True) (fun x y=>y=(fun s=>aN s) x):=
 bW (X:=Tryz.X) (bR Tryz.bQ) Tryz.func99 (by kernel_rfl) (fun x=>IG x) (fun x hw hp=>IH x hw)
def QN(e:aM)(hw:fY [.err] e):(cV Tryz.B [] Tryz.f21 [] [.err] [.int .i64] (fun x y=>y=(fun e=>jy e) x) e).holds:=by
 refine holds_of (p:=
  ((aM.isNil e)=true->0=jy e)/\((aM.isNil e)=false->((!aM.LW e)=true->(-1:Int)=jy e)/\((!aM.LW e)=false->aM.num e=jy e))) (by kernel_rfl) ?_
 refine⟨fun h0 =>?a,fun h0=>iB (fun h1 =>?b) (fun h1 =>?c)⟩
 case a|b|c=>cases e <;> simp_all [aM.isNil,aM.LW,aM.num,jy]
def Tryz.im:bT Tryz.prog Tryz.B.eT Tryz.X 21 [.err] [.int .i64] (fun _=>True) (fun x y=>y=(fun e=>jy e) x):=
 bW (X:=Tryz.X) (bR Tryz.bQ) Tryz.func21 (by kernel_rfl) (fun _=>[]) (fun x hw hp=>QN x hw)
def Tryz.spZ0:Bool×aT:=(true,cB [.str] [.err] (fun _=>True) (fun s=>aI (aN s)))
def Tryz.spZ1:Bool×aT:=(true,cB [.str] [.int .i64] (fun _=>True) (fun s=>aN s))
def Tryz.spZ2:Bool×aT:=(true,cB [.err] [.int .i64] (fun _=>True) (fun e=>jy e))
def Tryz.Lr:List (FuncId×(Bool×aT)):=[(76,Tryz.spZ0),(99,Tryz.spZ1),(21,Tryz.spZ2)]
def Tryz.QO:bN Tryz.prog Tryz.B Tryz.X Tryz.Lr:=
 aP (aE Tryz.jm) (aP (aE Tryz.fH) (aP (aE Tryz.im) (bR Tryz.bQ)))
def Ls(e:D aC):dL:=[
 (0,fun st=>{X:=Nat,inv:=fun i=>i<=bb e.2.1/\∀j,j<i->eE (nth aG e.2.1 j)=0,bX:=fun i=>bb e.2.1-i,bK:=fun i=>[(34,sI i)],keep:=[1,32,33]}),
 (2,fun st=>{X:=Nat,inv:=fun i=>i<=bb e.2.2.1/\∀j,j<i->eM e.2.1.length (nth aS e.2.2.1 j)=0,bX:=fun i=>bb e.2.2.1-i,bK:=fun i=>[(73,sI i)],keep:=[1,71,72]})]
def QP(e:D aC)(hw:fY [aC] e):(cV Tryz.B Tryz.Lr Tryz.f49 (Ls e) [aC] [.err] (fun x y=>y=(fun e=>aI (bC e)) x) e).holds:=by
 refine holds_of (p:=
  let za:=aI (aN e.1)
  let zb:=aI (bC e)
  let zc:=e.2.1
  let zd:=bb zc
  let ze:=zd<=aK
  let zf:=(↑zd:Int)
  let zg:=aM.no (2:Int)=zb
  let zh:=e.2.2.1
  let zi:=bb zh
  let zj:=fun(E:Nat)=>aI (aN (nth aG zc E).1)
  let zk:=aM.no (1:Int)=zb
  let zl:=fun(E:Nat)=>(nth aG zc E).2.2.1
  let zm:=fun(E:Nat)=>(↑E:Int)+(1:Int)
  let zn:=(e.1=e.1/\zc=zc/\zh=zh/\True)/\True
  True/\((!aM.isNil za)=true->za=zb)/\((!aM.isNil za)=false->ze->((decide (zf<(1:Int)))=true->zg)/\((decide (zf<(1:Int)))=false->ze->((decide (zf > (6:Int)))=true->zg)/\((decide (zf > (6:Int)))=false->zi<=aK->((decide ((↑zi:Int) > (36:Int)))=true->zg)/\((decide ((↑zi:Int) > (36:Int)))=false->ze->(∃(x:Nat),(x<=zd/\∀(j:Nat),j<x->eE (nth aG zc j)=(0:Int))/\((0:Int)=(↑x:Int)/\True)/\True)/\∀E:Nat,(E<=zd/\∀(j:Nat),j<E->eE (nth aG zc j)=(0:Int))->((decide ((↑E:Int)<zf))=true->((0:Int)<=(↑E:Int)/\(↑E:Int)<zf)/\True/\((!aM.isNil (zj E))=true->zj E=zb)/\((!aM.isNil (zj E))=false->((decide ((nth aG zc E).2.1<(1:Int)))=true->zk)/\((decide ((nth aG zc E).2.1<(1:Int)))=false->((decide ((nth aG zc E).2.1 > (1000000:Int)))=true->zk)/\((decide ((nth aG zc E).2.1 > (1000000:Int)))=false->((decide (zl E<(0:Int)))=true->zk)/\((decide (zl E<(0:Int)))=false->((decide (zl E>=(256:Int)))=true->zk)/\((decide (zl E>=(256:Int)))=false->(16:Int)≠(0:Int)/\∀F:Int,F=db (zl E) (16:Int)->((F != (0:Int))=true->zk)/\((F != (0:Int))=false->aJ (↑E:Int)->aJ (1:Int)->aJ (zm E)/\∃(x':Nat),(x'<=zd/\∀(j:Nat),j<x'->eE (nth aG zc j)=(0:Int))/\zd-x'<zd-E/\(zm E=(↑x':Int)/\True)/\zn)))))))/\((decide ((↑E:Int)<zf))=false->zi<=aK->(∃(x:Nat),(x<=zi/\∀(j:Nat),j<x->eM zd (nth aS zh j)=(0:Int))/\((0:Int)=(↑x:Int)/\True)/\True)/\∀F:Nat,(F<=zi/\∀(j:Nat),j<F->eM zd (nth aS zh j)=(0:Int))->((decide ((↑F:Int)<(↑zi:Int)))=true->((0:Int)<=(↑F:Int)/\(↑F:Int)<(↑zi:Int))/\((decide ((nth aS zh F).1<(0:Int)))=true->zk)/\((decide ((nth aS zh F).1<(0:Int)))=false->ze->((decide ((nth aS zh F).1>=zf))=true->zk)/\((decide ((nth aS zh F).1>=zf))=false->((decide ((nth aS zh F).2.1<(0:Int)))=true->zk)/\((decide ((nth aS zh F).2.1<(0:Int)))=false->((decide ((nth aS zh F).2.1>=(40:Int)))=true->zk)/\((decide ((nth aS zh F).2.1>=(40:Int)))=false->((decide ((nth aS zh F).2.2.1<(-2147483648:Int)))=true->zk)/\((decide ((nth aS zh F).2.2.1<(-2147483648:Int)))=false->((decide ((nth aS zh F).2.2.1 > (2147483647:Int)))=true->zk)/\((decide ((nth aS zh F).2.2.1 > (2147483647:Int)))=false->aJ (↑F:Int)->aJ (1:Int)->aJ (zm F)/\∃(x':Nat),(x'<=zi/\∀(j:Nat),j<x'->eM zd (nth aS zh j)=(0:Int))/\zi-x'<zi-F/\(zm F=(↑x':Int)/\True)/\zn)))))))/\((decide ((↑F:Int)<(↑zi:Int)))=false->aM.nil=zb))))))) (by kernel_rfl) ?_
 dsimp -iota -proj -eta only;refine⟨ba,iB (fun h0=>(by rw[zN (mZ (eU _) h0)])) (fun h0 h1=>iL (fun h2=>(by rw[qt (dE (by assumption:(aI (aN e.1)).isNil=true)) (.inl (by omega))];rfl)) (fun h2 h3=>iL (fun h4=>(by rw[qt (dE (by assumption:(aI (aN e.1)).isNil=true)) (.inr (.inl (by omega)))];rfl)) (fun h4 h5=>iL (fun h6=>(by rw[qt (dE (by assumption:(aI (aN e.1)).isNil=true)) (.inr (.inr (by omega)))];rfl)) (fun h6 h7=>⟨?a,fun E q_0=>iL (fun h8=>⟨?b,ba,iB (fun h9=>(by have hp:=mZ (eU _) h9;rw[(jC (dE (by assumption:(aI (aN e.1)).isNil=true)) (iK (by omega) (by omega) (by omega)) q_0.2 (by omega) (Ng hp) (by omega))])) (fun h9=>iL (fun h10=>(by rw[(jC (dE (by assumption:(aI (aN e.1)).isNil=true)) (iK (by omega) (by omega) (by omega)) q_0.2 (by omega) (qK (dE h9) (.inl ‹_›)) (by decide))];rfl)) (fun h10=>iL (fun h11=>(by rw[(jC (dE (by assumption:(aI (aN e.1)).isNil=true)) (iK (by omega) (by omega) (by omega)) q_0.2 (by omega) (qK (dE h9) (.inr (.inl ‹_›))) (by decide))];rfl)) (fun h11=>iL (fun h12=>(by rw[(jC (dE (by assumption:(aI (aN e.1)).isNil=true)) (iK (by omega) (by omega) (by omega)) q_0.2 (by omega) (qK (dE h9) (.inr (.inr (.inl ‹_›)))) (by decide))];rfl)) (fun h12=>iE (fun h13=>(by rw[(jC (dE (by assumption:(aI (aN e.1)).isNil=true)) (iK (by omega) (by omega) (by omega)) q_0.2 (by omega) (qK (dE h9) (.inr (.inr (.inr (.inl ‹_›))))) (by decide))];rfl)) (fun h13=>⟨(by trivial),fun F q_1=>iN (fun h14=>(by have hb:=HV h12 q_1;rw[(jC (dE (by assumption:(aI (aN e.1)).isNil=true)) (iK (by omega) (by omega) (by omega)) q_0.2 (by omega) (qK (dE h9) (.inr (.inr (.inr (.inr (by rw[hb]at h14;exact(Int.lt_iff_le_and_ne.2 ⟨Int.emod_nonneg _ (by decide),fun e'=>h14 e'.symm⟩))))))) (by decide))];rfl)) (fun h14 h15 h16=>⟨?c,(by have hb:=HV h12 q_1;exact⟨E+1,⟨by omega,jU q_0.2 (HU (dE h9) h10 h11 h12 (dz (show _<(255:Int)+1 from h13)) (hb.symm.trans h14))⟩,by omega,⟨by omega,ba⟩,(by trivial)⟩)⟩)⟩)))))⟩) (fun h8 h9=>⟨?d,fun F q_1=>iL (fun h10=>⟨?e,iL (fun h11=>(by rw[(jD (dE (by assumption:(aI (aN e.1)).isNil=true)) (iK (by omega) (by omega) (by omega)) (fun j hj=>q_0.2 j (by omega)) q_1.2 (by omega) (o1 (.inl ‹_›)))];rfl)) (fun h11 h12=>iE (fun h13=>(by rw[(jD (dE (by assumption:(aI (aN e.1)).isNil=true)) (iK (by omega) (by omega) (by omega)) (fun j hj=>q_0.2 j (by omega)) q_1.2 (by omega) (o1 (.inr (.inl ‹_›))))];rfl)) (fun h13=>iL (fun h14=>(by rw[(jD (dE (by assumption:(aI (aN e.1)).isNil=true)) (iK (by omega) (by omega) (by omega)) (fun j hj=>q_0.2 j (by omega)) q_1.2 (by omega) (o1 (.inr (.inr (.inl ‹_›)))))];rfl)) (fun h14=>iE (fun h15=>(by rw[(jD (dE (by assumption:(aI (aN e.1)).isNil=true)) (iK (by omega) (by omega) (by omega)) (fun j hj=>q_0.2 j (by omega)) q_1.2 (by omega) (o1 (.inr (.inr (.inr (.inl ‹_›))))))];rfl)) (fun h15=>iL (fun h16=>(by rw[(jD (dE (by assumption:(aI (aN e.1)).isNil=true)) (iK (by omega) (by omega) (by omega)) (fun j hj=>q_0.2 j (by omega)) q_1.2 (by omega) (o1 (.inr (.inr (.inr (.inr (.inl ‹_›)))))))];rfl)) (fun h16=>iL (fun h17=>(by rw[(jD (dE (by assumption:(aI (aN e.1)).isNil=true)) (iK (by omega) (by omega) (by omega)) (fun j hj=>q_0.2 j (by omega)) q_1.2 (by omega) (o1 (.inr (.inr (.inr (.inr (.inr ‹_›)))))))];rfl)) (fun h17 h18 h19=>⟨?f,(⟨F+1,⟨by omega,jU q_1.2 (Ck ‹_› ‹_› ‹_› (dz (show _<(39:Int)+1 from h15)) ‹_› ‹_›)⟩,by omega,⟨by omega,ba⟩,(by trivial)⟩)⟩))))))⟩) (fun h10=>(by rw[EN (dE (by assumption:(aI (aN e.1)).isNil=true)) (iK (by omega) (by omega) (by omega)) (fun j hj=>q_0.2 j (by omega)) (fun j hj=>q_1.2 j (by omega))];rfl))⟩)⟩))))⟩
 case a|d=>exact⟨0,⟨b6 _,fun j hj=>absurd hj (cu _)⟩,⟨rfl,ba⟩,ba⟩
 case b|e=>omega
 case c|f=>simp only[aJ,aK]at*;omega
def Tryz.Ff:bT Tryz.prog Tryz.B.eT Tryz.X 49 [aC] [.err] (fun _=>True) (fun x y=>y=(fun e=>aI (bC e)) x):=
 bW (X:=Tryz.X) Tryz.QO Tryz.func49 (by kernel_rfl) (fun x=>Ls x) (fun x hw hp=>QP x hw)
end Go.Proofs.YtgokjhhcfemnhacGreatDoor

namespace Go.Proofs.YtgokjhhcfemnhacGreatDoor
open Go.Shelf
def Tryz.Kd:cw:=⟨fun|103=>130|210=>148|206=>167|n=>n,fun|9=>9|4=>4|24=>208|3=>3|n=>n,fun|n=>n⟩
def Tryz.Vr:e5 Tryz.prog Tryz.Kd:={
 mixed:=by kernel_rfl
 f103:=Tryz.func130.trans (congrArg some (by kernel_rfl))
 f206:=Tryz.func167.trans (congrArg some (by kernel_rfl))
 f210:=Tryz.func148.trans (congrArg some (by kernel_rfl))
 t3:=Tryz.underlying3
 a3:=Tryz.isAgg3
 z3:=Tryz.sizeOf3
 v3:=Tryz.zeroValue3
 t4:=Tryz.underlying4
 a4:=Tryz.isAgg4
 z4:=Tryz.sizeOf4
 v4:=Tryz.zeroValue4
 t9:=Tryz.underlying9
 a9:=Tryz.isAgg9
 z9:=Tryz.sizeOf9
 v9:=Tryz.zeroValue9
 t24:=Tryz.underlying208
 a24:=Tryz.isAgg208
 z24:=Tryz.sizeOf208
 v24:=Tryz.zeroValue208}
open Go.RowKit in
def Tryz.strings_CutPrefix(s p:ByteArray)(w:World) :
  Calls Tryz.prog 130 #[.string s,.string p] w fun e w'=>e=.returned (.tuple #[.string ⟨(cb s.data.toList p.data.toList).toArray⟩,.bool (cy s.data.toList p.data.toList)])/\w'=w:=Any.strings_CutPrefix Tryz.Vr s p w
def Tryz.II:cw:=⟨fun|171=>71|243=>109|246=>128|283=>144|284=>145|285=>146|286=>147|129=>163|317=>162|318=>164|319=>165|320=>166|337=>174|338=>175|n=>n,fun|3=>3|9=>9|2=>2|4=>4|171=>227|0=>0|53=>23|37=>142|5=>5|173=>230|212=>242|51=>216|20=>20|213=>243|46=>182|232=>261|233=>262|n=>n,fun|17=>1|18=>6|19=>7|n=>n⟩
def Tryz.Tz:e7 Tryz.prog Tryz.II:={
 mixed:=by kernel_rfl
 f129:=Tryz.func163.trans (congrArg some (by kernel_rfl))
 f171:=Tryz.func71.trans (congrArg some (by kernel_rfl))
 f243:=Tryz.func109.trans (congrArg some (by kernel_rfl))
 f246:=Tryz.func128.trans (congrArg some (by kernel_rfl))
 f283:=Tryz.func144.trans (congrArg some (by kernel_rfl))
 f284:=Tryz.func145.trans (congrArg some (by kernel_rfl))
 f285:=Tryz.func146.trans (congrArg some (by kernel_rfl))
 f286:=Tryz.func147.trans (congrArg some (by kernel_rfl))
 f317:=Tryz.func162.trans (congrArg some (by kernel_rfl))
 f318:=Tryz.func164.trans (congrArg some (by kernel_rfl))
 f319:=Tryz.func165.trans (congrArg some (by kernel_rfl))
 f320:=Tryz.func166.trans (congrArg some (by kernel_rfl))
 f337:=Tryz.func174.trans (congrArg some (by kernel_rfl))
 f338:=Tryz.func175.trans (congrArg some (by kernel_rfl))
 t0:=Tryz.underlying0
 a0:=Tryz.isAgg0
 z0:=Tryz.sizeOf0
 v0:=Tryz.zeroValue0
 t2:=Tryz.underlying2
 a2:=Tryz.isAgg2
 z2:=Tryz.sizeOf2
 v2:=Tryz.zeroValue2
 t3:=Tryz.underlying3
 a3:=Tryz.isAgg3
 z3:=Tryz.sizeOf3
 v3:=Tryz.zeroValue3
 t4:=Tryz.underlying4
 a4:=Tryz.isAgg4
 z4:=Tryz.sizeOf4
 v4:=Tryz.zeroValue4
 t5:=Tryz.underlying5
 a5:=Tryz.isAgg5
 z5:=Tryz.sizeOf5
 v5:=Tryz.zeroValue5
 t9:=Tryz.underlying9
 a9:=Tryz.isAgg9
 z9:=Tryz.sizeOf9
 v9:=Tryz.zeroValue9
 t20:=Tryz.underlying20
 a20:=Tryz.isAgg20
 z20:=Tryz.sizeOf20
 v20:=Tryz.zeroValue20
 t37:=Tryz.underlying142
 a37:=Tryz.isAgg142
 z37:=Tryz.sizeOf142
 v37:=Tryz.zeroValue142
 t46:=Tryz.underlying182
 a46:=Tryz.isAgg182
 z46:=Tryz.sizeOf182
 v46:=Tryz.zeroValue182
 t51:=Tryz.underlying216
 a51:=Tryz.isAgg216
 z51:=Tryz.sizeOf216
 v51:=Tryz.zeroValue216
 t53:=Tryz.underlying23
 a53:=Tryz.isAgg23
 z53:=Tryz.sizeOf23
 v53:=Tryz.zeroValue23
 t171:=Tryz.underlying227
 a171:=Tryz.isAgg227
 z171:=Tryz.sizeOf227
 v171:=Tryz.zeroValue227
 t173:=Tryz.underlying230
 a173:=Tryz.isAgg230
 z173:=Tryz.sizeOf230
 v173:=Tryz.zeroValue230
 t212:=Tryz.underlying242
 a212:=Tryz.isAgg242
 z212:=Tryz.sizeOf242
 v212:=Tryz.zeroValue242
 t213:=Tryz.underlying243
 a213:=Tryz.isAgg243
 z213:=Tryz.sizeOf243
 t232:=Tryz.underlying261
 a232:=Tryz.isAgg261
 z232:=Tryz.sizeOf261
 v232:=Tryz.zeroValue261
 t233:=Tryz.underlying262
 a233:=Tryz.isAgg262
 z233:=Tryz.sizeOf262
 v233:=Tryz.zeroValue262
 g17:=by kernel_rfl
 g18:=by kernel_rfl
 g19:=by kernel_rfl
 i0:=by kernel_rfl
 i2:=by kernel_rfl
 i3:=by kernel_rfl
 i4:=by kernel_rfl
 i5:=by kernel_rfl
 i9:=by kernel_rfl
 i20:=by kernel_rfl
 i37:=by kernel_rfl
 i46:=by kernel_rfl
 i51:=by kernel_rfl
 i53:=by kernel_rfl
 i171:=by kernel_rfl
 i173:=by kernel_rfl
 i212:=by kernel_rfl
 i232:=by kernel_rfl
 i233:=by kernel_rfl
 m17:=by kernel_rfl
 m18:=by kernel_rfl
 m19:=by kernel_rfl}
open Go.RowKit Go.Sort Go.Lib in
def Tryz.strconv_Itoa(n:Int)(h0 : -9223372036854775808<=n)(h1:n<=9223372036854775807)(w:World)(htab:di Tryz.prog w "internal/strconv.uint64pow10" .u64 dj) :
  Calls Tryz.prog 71 #[.int .i64 n] w fun e w'=>e=.returned (.string ⟨(bp n).toArray⟩)/\∃k os,w'=grow (w.drewN k) os:=Any.strconv_Itoa Tryz.Tz n h0 h1 w htab
def Tryz.IJ:cw:=⟨fun|172=>125|244=>141|245=>142|247=>157|279=>158|280=>159|281=>160|282=>161|287=>171|316=>172|171=>71|205=>173|321=>176|322=>177|243=>109|246=>128|283=>144|284=>145|285=>146|286=>147|129=>163|317=>162|318=>164|319=>165|320=>166|337=>174|338=>175|n=>n,fun|9=>9|3=>3|75=>36|76=>146|4=>4|5=>5|167=>235|37=>142|0=>0|85=>236|2=>2|168=>238|53=>23|175=>251|46=>182|210=>254|127=>188|145=>260|143=>258|21=>21|171=>227|173=>230|212=>242|51=>216|20=>20|213=>243|232=>261|233=>262|80=>149|n=>n,fun|15=>4|16=>5|17=>1|18=>6|19=>7|n=>n⟩
def Tryz.A5:e8 Tryz.prog Tryz.IJ:={
 mixed:=by kernel_rfl
 f129:=Tryz.func163.trans (congrArg some (by kernel_rfl))
 f171:=Tryz.func71.trans (congrArg some (by kernel_rfl))
 f172:=Tryz.func125.trans (congrArg some (by kernel_rfl))
 f205:=Tryz.func173.trans (congrArg some (by kernel_rfl))
 f243:=Tryz.func109.trans (congrArg some (by kernel_rfl))
 f244:=Tryz.func141.trans (congrArg some (by kernel_rfl))
 f245:=Tryz.func142.trans (congrArg some (by kernel_rfl))
 f246:=Tryz.func128.trans (congrArg some (by kernel_rfl))
 f247:=Tryz.func157.trans (congrArg some (by kernel_rfl))
 f279:=Tryz.func158.trans (congrArg some (by kernel_rfl))
 f280:=Tryz.func159.trans (congrArg some (by kernel_rfl))
 f281:=Tryz.func160.trans (congrArg some (by kernel_rfl))
 f282:=Tryz.func161.trans (congrArg some (by kernel_rfl))
 f283:=Tryz.func144.trans (congrArg some (by kernel_rfl))
 f284:=Tryz.func145.trans (congrArg some (by kernel_rfl))
 f285:=Tryz.func146.trans (congrArg some (by kernel_rfl))
 f286:=Tryz.func147.trans (congrArg some (by kernel_rfl))
 f287:=Tryz.func171.trans (congrArg some (by kernel_rfl))
 f316:=Tryz.func172.trans (congrArg some (by kernel_rfl))
 f317:=Tryz.func162.trans (congrArg some (by kernel_rfl))
 f318:=Tryz.func164.trans (congrArg some (by kernel_rfl))
 f319:=Tryz.func165.trans (congrArg some (by kernel_rfl))
 f320:=Tryz.func166.trans (congrArg some (by kernel_rfl))
 f321:=Tryz.func176.trans (congrArg some (by kernel_rfl))
 f322:=Tryz.func177.trans (congrArg some (by kernel_rfl))
 f337:=Tryz.func174.trans (congrArg some (by kernel_rfl))
 f338:=Tryz.func175.trans (congrArg some (by kernel_rfl))
 t0:=Tryz.underlying0
 a0:=Tryz.isAgg0
 z0:=Tryz.sizeOf0
 v0:=Tryz.zeroValue0
 t2:=Tryz.underlying2
 a2:=Tryz.isAgg2
 z2:=Tryz.sizeOf2
 v2:=Tryz.zeroValue2
 t3:=Tryz.underlying3
 a3:=Tryz.isAgg3
 z3:=Tryz.sizeOf3
 v3:=Tryz.zeroValue3
 t4:=Tryz.underlying4
 a4:=Tryz.isAgg4
 z4:=Tryz.sizeOf4
 v4:=Tryz.zeroValue4
 t5:=Tryz.underlying5
 a5:=Tryz.isAgg5
 z5:=Tryz.sizeOf5
 v5:=Tryz.zeroValue5
 t9:=Tryz.underlying9
 a9:=Tryz.isAgg9
 z9:=Tryz.sizeOf9
 v9:=Tryz.zeroValue9
 t20:=Tryz.underlying20
 a20:=Tryz.isAgg20
 z20:=Tryz.sizeOf20
 v20:=Tryz.zeroValue20
 t21:=Tryz.underlying21
 a21:=Tryz.isAgg21
 z21:=Tryz.sizeOf21
 v21:=Tryz.zeroValue21
 t37:=Tryz.underlying142
 a37:=Tryz.isAgg142
 z37:=Tryz.sizeOf142
 v37:=Tryz.zeroValue142
 t46:=Tryz.underlying182
 a46:=Tryz.isAgg182
 z46:=Tryz.sizeOf182
 v46:=Tryz.zeroValue182
 t51:=Tryz.underlying216
 a51:=Tryz.isAgg216
 z51:=Tryz.sizeOf216
 v51:=Tryz.zeroValue216
 t53:=Tryz.underlying23
 a53:=Tryz.isAgg23
 z53:=Tryz.sizeOf23
 v53:=Tryz.zeroValue23
 t75:=Tryz.underlying36
 a75:=Tryz.isAgg36
 z75:=Tryz.sizeOf36
 v75:=Tryz.zeroValue36
 t76:=Tryz.underlying146
 a76:=Tryz.isAgg146
 z76:=Tryz.sizeOf146
 v76:=Tryz.zeroValue146
 t85:=Tryz.underlying236
 a85:=Tryz.isAgg236
 z85:=Tryz.sizeOf236
 v85:=Tryz.zeroValue236
 t127:=Tryz.underlying188
 a127:=Tryz.isAgg188
 z127:=Tryz.sizeOf188
 v127:=Tryz.zeroValue188
 t143:=Tryz.underlying258
 a143:=Tryz.isAgg258
 z143:=Tryz.sizeOf258
 v143:=Tryz.zeroValue258
 t145:=Tryz.underlying260
 a145:=Tryz.isAgg260
 z145:=Tryz.sizeOf260
 v145:=Tryz.zeroValue260
 t167:=Tryz.underlying235
 a167:=Tryz.isAgg235
 z167:=Tryz.sizeOf235
 v167:=Tryz.zeroValue235
 t168:=Tryz.underlying238
 a168:=Tryz.isAgg238
 z168:=Tryz.sizeOf238
 v168:=Tryz.zeroValue238
 t171:=Tryz.underlying227
 a171:=Tryz.isAgg227
 z171:=Tryz.sizeOf227
 v171:=Tryz.zeroValue227
 t173:=Tryz.underlying230
 a173:=Tryz.isAgg230
 z173:=Tryz.sizeOf230
 v173:=Tryz.zeroValue230
 t175:=Tryz.underlying251
 a175:=Tryz.isAgg251
 z175:=Tryz.sizeOf251
 v175:=Tryz.zeroValue251
 t210:=Tryz.underlying254
 a210:=Tryz.isAgg254
 z210:=Tryz.sizeOf254
 v210:=Tryz.zeroValue254
 t212:=Tryz.underlying242
 a212:=Tryz.isAgg242
 z212:=Tryz.sizeOf242
 v212:=Tryz.zeroValue242
 t213:=Tryz.underlying243
 a213:=Tryz.isAgg243
 z213:=Tryz.sizeOf243
 t232:=Tryz.underlying261
 a232:=Tryz.isAgg261
 z232:=Tryz.sizeOf261
 v232:=Tryz.zeroValue261
 t233:=Tryz.underlying262
 a233:=Tryz.isAgg262
 z233:=Tryz.sizeOf262
 v233:=Tryz.zeroValue262
 g15:=by kernel_rfl
 g16:=by kernel_rfl
 g17:=by kernel_rfl
 g18:=by kernel_rfl
 g19:=by kernel_rfl
 t80:=Tryz.underlying149
 a80:=Tryz.isAgg149
 z80:=Tryz.sizeOf149
 v80:=Tryz.zeroValue149
 i0:=by kernel_rfl
 i2:=by kernel_rfl
 i3:=by kernel_rfl
 i4:=by kernel_rfl
 i5:=by kernel_rfl
 i9:=by kernel_rfl
 i20:=by kernel_rfl
 i21:=by kernel_rfl
 i37:=by kernel_rfl
 i46:=by kernel_rfl
 i51:=by kernel_rfl
 i53:=by kernel_rfl
 i75:=by kernel_rfl
 i76:=by kernel_rfl
 i80:=by kernel_rfl
 i85:=by kernel_rfl
 i127:=by kernel_rfl
 i143:=by kernel_rfl
 i145:=by kernel_rfl
 i167:=by kernel_rfl
 i168:=by kernel_rfl
 i171:=by kernel_rfl
 i173:=by kernel_rfl
 i175:=by kernel_rfl
 i210:=by kernel_rfl
 i212:=by kernel_rfl
 i232:=by kernel_rfl
 i233:=by kernel_rfl
 m15:=by kernel_rfl
 m16:=by kernel_rfl
 m17:=by kernel_rfl
 m18:=by kernel_rfl
 m19:=by kernel_rfl
 c0:=by kernel_rfl
 c2:=by kernel_rfl
 c3:=by kernel_rfl
 c4:=by kernel_rfl
 c5:=by kernel_rfl
 c9:=by kernel_rfl
 c20:=by kernel_rfl
 c21:=by kernel_rfl
 c37:=by kernel_rfl
 c46:=by kernel_rfl
 c51:=by kernel_rfl
 c53:=by kernel_rfl
 c75:=by kernel_rfl
 c76:=by kernel_rfl
 c80:=by kernel_rfl
 c85:=by kernel_rfl
 c127:=by kernel_rfl
 c143:=by kernel_rfl
 c145:=by kernel_rfl
 c167:=by kernel_rfl
 c168:=by kernel_rfl
 c171:=by kernel_rfl
 c173:=by kernel_rfl
 c175:=by kernel_rfl
 c210:=by kernel_rfl
 c212:=by kernel_rfl
 c213:=by kernel_rfl
 c232:=by kernel_rfl
 c233:=by kernel_rfl}
open Go.RowKit in
def Tryz.strconv_Atoi_ok(s:ByteArray)(hmax:s.size<=9223372036854775806)(v:Int)(h:dc s.data.toList=.ok v)(w:World) :
  Calls Tryz.prog 125 #[.string s] w fun e w'=>e=.returned (.tuple #[.int .i64 v,.nilIface])/\(w'=w\/∃t,w'=Lib.bytesWorld w 5 t):=Any.strconv_Atoi_ok Tryz.A5 s hmax v h w
open Go.RowKit in
def Tryz.strconv_Atoi_syntax(s:ByteArray)(hlim:s.size<=281474976710656)(h:dc s.data.toList=Go.Lib.NumEnd.syntax)(ev:Value)(w:World)(hv:w.cell? ⟨4,0,none⟩=some ev)(hev:ev=.nilIface\/∃te pe,ev=.iface te pe) :
  Calls Tryz.prog 125 #[.string s] w fun e w'=>∃N,e=.returned (.tuple #[.int .i64 (0),.iface 238 (.pointer (some ⟨N,0,none⟩))])/\w.heap.size<=N/\w'.heap[N]?=some (.cells #[.string ⟨#[65,116,111,105]⟩,.string s,ev] 254 (0,0))/\Below w.heap.size w w':=Any.strconv_Atoi_syntax Tryz.A5 s hlim h ev w hv hev
open Go.RowKit in
def Tryz.strconv_Atoi_range(s:ByteArray)(hlim:s.size<=281474976710656)(h:dc s.data.toList=.range)(ev:Value)(w:World)(hv:w.cell? ⟨5,0,none⟩=some ev)(hev:ev=.nilIface\/∃te pe,ev=.iface te pe) :
  Calls Tryz.prog 125 #[.string s] w fun e w'=>∃N,e=.returned (.tuple #[.int .i64 (dm s.data.toList),.iface 238 (.pointer (some ⟨N,0,none⟩))])/\w.heap.size<=N/\w'.heap[N]?=some (.cells #[.string ⟨#[65,116,111,105]⟩,.string s,ev] 254 (0,0))/\Below w.heap.size w w':=Any.strconv_Atoi_range Tryz.A5 s hlim h ev w hv hev
def Tryz.Ke:cw:=⟨fun|102=>103|209=>124|207=>140|n=>n,fun|9=>9|4=>4|3=>3|n=>n,fun|n=>n⟩
def Tryz.Vs:e9 Tryz.prog Tryz.Ke:={
 mixed:=by kernel_rfl
 f102:=Tryz.func103.trans (congrArg some (by kernel_rfl))
 f207:=Tryz.func140.trans (congrArg some (by kernel_rfl))
 f209:=Tryz.func124.trans (congrArg some (by kernel_rfl))
 t3:=Tryz.underlying3
 a3:=Tryz.isAgg3
 z3:=Tryz.sizeOf3
 v3:=Tryz.zeroValue3
 t4:=Tryz.underlying4
 a4:=Tryz.isAgg4
 z4:=Tryz.sizeOf4
 v4:=Tryz.zeroValue4
 t9:=Tryz.underlying9
 a9:=Tryz.isAgg9
 z9:=Tryz.sizeOf9
 v9:=Tryz.zeroValue9}
open Go.RowKit Go.Lib in
def Tryz.strings_TrimSuffix(s p:ByteArray)(w:World)(hs:s.size<=9223372036854775807) :
  Calls Tryz.prog 103 #[.string s,.string p] w fun e w'=>e=.returned (.string ⟨(br s.data.toList p.data.toList).toArray⟩)/\w'=w:=Any.strings_TrimSuffix Tryz.Vs s p w hs
def Tryz.Kf:cw:=⟨fun|146=>102|221=>101|268=>121|138=>122|143=>123|195=>136|197=>137|218=>138|219=>139|260=>152|217=>153|225=>154|224=>155|267=>156|266=>169|314=>170|n=>n,fun|9=>9|31=>56|3=>3|4=>4|0=>0|105=>221|21=>21|5=>5|46=>182|119=>246|139=>249|138=>248|146=>217|51=>216|n=>n,fun|1=>0|3=>2|4=>3|n=>n⟩
def Tryz.Lt:fa Tryz.prog Tryz.Kf:={
 mixed:=by kernel_rfl
 f138:=Tryz.func122.trans (congrArg some (by kernel_rfl))
 f143:=Tryz.func123.trans (congrArg some (by kernel_rfl))
 f146:=Tryz.func102.trans (congrArg some (by kernel_rfl))
 f195:=Tryz.func136.trans (congrArg some (by kernel_rfl))
 f197:=Tryz.func137.trans (congrArg some (by kernel_rfl))
 f217:=Tryz.func153.trans (congrArg some (by kernel_rfl))
 f218:=Tryz.func138.trans (congrArg some (by kernel_rfl))
 f219:=Tryz.func139.trans (congrArg some (by kernel_rfl))
 f221:=Tryz.func101.trans (congrArg some (by kernel_rfl))
 f224:=Tryz.func155.trans (congrArg some (by kernel_rfl))
 f225:=Tryz.func154.trans (congrArg some (by kernel_rfl))
 f260:=Tryz.func152.trans (congrArg some (by kernel_rfl))
 f266:=Tryz.func169.trans (congrArg some (by kernel_rfl))
 f267:=Tryz.func156.trans (congrArg some (by kernel_rfl))
 f268:=Tryz.func121.trans (congrArg some (by kernel_rfl))
 f314:=Tryz.func170.trans (congrArg some (by kernel_rfl))
 t0:=Tryz.underlying0
 a0:=Tryz.isAgg0
 z0:=Tryz.sizeOf0
 v0:=Tryz.zeroValue0
 t3:=Tryz.underlying3
 a3:=Tryz.isAgg3
 z3:=Tryz.sizeOf3
 v3:=Tryz.zeroValue3
 t4:=Tryz.underlying4
 a4:=Tryz.isAgg4
 z4:=Tryz.sizeOf4
 v4:=Tryz.zeroValue4
 t5:=Tryz.underlying5
 a5:=Tryz.isAgg5
 z5:=Tryz.sizeOf5
 v5:=Tryz.zeroValue5
 t9:=Tryz.underlying9
 a9:=Tryz.isAgg9
 z9:=Tryz.sizeOf9
 v9:=Tryz.zeroValue9
 t21:=Tryz.underlying21
 a21:=Tryz.isAgg21
 z21:=Tryz.sizeOf21
 v21:=Tryz.zeroValue21
 t31:=Tryz.underlying56
 a31:=Tryz.isAgg56
 z31:=Tryz.sizeOf56
 v31:=Tryz.zeroValue56
 t46:=Tryz.underlying182
 a46:=Tryz.isAgg182
 z46:=Tryz.sizeOf182
 v46:=Tryz.zeroValue182
 t51:=Tryz.underlying216
 a51:=Tryz.isAgg216
 z51:=Tryz.sizeOf216
 v51:=Tryz.zeroValue216
 t105:=Tryz.underlying221
 a105:=Tryz.isAgg221
 z105:=Tryz.sizeOf221
 v105:=Tryz.zeroValue221
 t119:=Tryz.underlying246
 a119:=Tryz.isAgg246
 z119:=Tryz.sizeOf246
 t138:=Tryz.underlying248
 a138:=Tryz.isAgg248
 z138:=Tryz.sizeOf248
 v138:=Tryz.zeroValue248
 t139:=Tryz.underlying249
 a139:=Tryz.isAgg249
 z139:=Tryz.sizeOf249
 v139:=Tryz.zeroValue249
 t146:=Tryz.underlying217
 a146:=Tryz.isAgg217
 z146:=Tryz.sizeOf217
 v146:=Tryz.zeroValue217
 g1:=by kernel_rfl
 g3:=by kernel_rfl
 g4:=by kernel_rfl}
open Go.RowKit Go.Lib in
def Tryz.strings_Split(s sep:ByteArray)(m:Int)(w:World)(hs:s.size<4294967281)(hm:w.cell? ⟨0,0,none⟩=some (.int .i64 m))(h1:1<=sep.size) :
  Calls Tryz.prog 102 #[.string s,.string sep] w fun e w'=>
   e=.returned (.slice (some ⟨w.heap.size,0,none⟩) (bq s sep+1) (bq s sep+1))/\w'=w.alloc (.cells ((b7 sep 0 (bq s sep) s).map cn).toArray 9):=Any.strings_Split Tryz.Lt (by kernel_rfl) s sep m w hs hm h1
end Go.Proofs.YtgokjhhcfemnhacGreatDoor

namespace Go.Proofs.YtgokjhhcfemnhacGreatDoor
open Go.Vg Go.Mrl
def NO(w:World)(k:Nat)(os:Array Obj):Vg.Below w.heap.size w (Sort.grow (w.drewN k) os):=by
 refine⟨rfl,rfl,?_,fun i hi =>?_⟩
 ·show w.heap.size<=(w.heap++os).size
  simp
 ·show(w.heap++os)[i]?=w.heap[i]?
  rw[Array.getElem?_append,if_pos hi]
def Vt{eT:TypeId}{n:Int}{O:aH}{w:World}{v:Value}(h:VR eT (.int .i64) n O w v):v=.int .i64 n/\-9223372036854775808<=n/\n<=9223372036854775807:=by
 obtain⟨h1,h2,h3⟩:=VR.one rfl h;exact⟨by simpa using h1,h2,h3⟩
def nQ{eT:TypeId}{s:List UInt8}{O:aH}{w:World}{v:Value}(h:VR eT .str s O w v):v=.string ⟨s.toArray⟩/\s.length<=aK:=by
 obtain⟨h1,h2⟩:=VR.one rfl h;exact⟨by simpa using h1,h2⟩
def IK{eT:TypeId}{s:List UInt8}{O:aH}{w:World}(h:s.length<=aK):VR eT .str s O w (.string ⟨s.toArray⟩):=VR.cG rfl ⟨rfl,h⟩
def vF:∀(k u:Nat),u<10^(k+1)->Lib.nDigits u<=k+1
 |0,u,h=>by rw[dT (by simpa using h)];exact b8 _
 |k+1,u,h=>by
  by_cases hu:u<10
  ·rw[dT hu];omega
  ·rw[Lib.nDigits_big hu]
   have:=vF k (u / 10) (by rw[Nat.pow_succ]at h;omega);omega
def TA{n:Int}(h0 : -9223372036854775808<=n)(h1:n<=9223372036854775807):(bp n).length<=21:=by
 unfold bp;split
 ·rw[bw,ec]
  have:=vF 19 n.natAbs (by omega);omega
 ·rw[ec]
  have:=vF 19 n.toNat (by omega);omega
def Tryz.oT:bT Tryz.prog Tryz.B.eT Tryz.X 71 [.int .i64] [.str] (fun _=>True) (fun n y=>y=bp n):=by
 refine⟨⟨Tryz.f71,Tryz.func71,by kernel_rfl,by kernel_rfl⟩,fun O w n vs hG hO ha _ =>?_⟩;obtain⟨v,rfl,hv⟩:=ha;obtain⟨rfl,h0,h1⟩:=Vt hv;refine(Tryz.strconv_Itoa n h0 h1 w hG.pow).mono ?_;rintro e w' ⟨rfl,k,os,rfl⟩;exact⟨[.string ⟨(bp n).toArray⟩],bp n,rfl,rfl,⟨_,rfl,IK (by have:=TA h0 h1;unfold aK;omega)⟩,NO w k os⟩
def Tryz.sf:bT Tryz.prog Tryz.B.eT Tryz.X 125 [.str] [.int .i64,.err] (fun s=>s.length<=281474976710656) (fun s y=>y=dX s):=by
 refine⟨⟨Tryz.f125,Tryz.func125,by kernel_rfl,by kernel_rfl⟩,fun O w s vs hG hO ha hs =>?_⟩;obtain⟨v,rfl,hv⟩:=ha;obtain⟨rfl,hl⟩:=nQ hv;have hsz:(⟨s.toArray⟩:ByteArray).size=s.length:=by simp[dd]
 have hsl:(⟨s.toArray⟩:ByteArray).data.toList=s:=by simp
 cases ha:dc s with
 |ok n=>
  refine(Tryz.strconv_Atoi_ok ⟨s.toArray⟩ (by rw[hsz];omega) n (by rw[hsl];exact ha) w).mono ?_;rintro e w' ⟨rfl,hw⟩;obtain⟨b0,b1⟩:=Lib.atoiAll_bounds ha;refine⟨[.int .i64 n,.nilIface],(n,.nil),rfl,by unfold dX;rw[ha],⟨_,_,rfl,VR.cG rfl ⟨rfl,b0,b1⟩,⟨_,rfl,VR.cG rfl ⟨_,rfl,rfl⟩⟩⟩,?_⟩;rcases hw with rfl|⟨t,rfl⟩
  ·exact Vg.Below.refl _ _
  ·exact .of (Lib.bytesWorld_below _ _ _)
 |range=>
  obtain⟨ev,hv,he⟩:=hG.Xu;obtain⟨b0,b1⟩:=Lib.atoiSat_bounds s;have hA:=Tryz.strconv_Atoi_range ⟨s.toArray⟩ (by rw[hsz];exact hs) (by rw[hsl];exact ha) ev w hv he;rw[hsl]at hA;refine hA.mono ?_;rintro e w' ⟨N,rfl,_,_,hb⟩;exact⟨[.int .i64 (dm s),_],(dm s,.other),rfl,by unfold dX;rw[ha],⟨_,_,rfl,VR.cG rfl ⟨rfl,b0,b1⟩,⟨_,rfl,VR.cG rfl ⟨_,rfl,_,_,rfl,by decide+kernel⟩⟩⟩,.of hb⟩
 |_=>
  obtain⟨ev,hv,he⟩:=hG.Xt;refine(Tryz.strconv_Atoi_syntax ⟨s.toArray⟩ (by rw[hsz];exact hs) (by rw[hsl];exact ha) ev w hv he).mono ?_;rintro e w' ⟨N,rfl,_,_,hb⟩;exact⟨[.int .i64 0,_],(0,.other),rfl,by unfold dX;rw[ha],⟨_,_,rfl,VR.cG rfl ⟨rfl,by decide,by decide⟩,⟨_,rfl,VR.cG rfl ⟨_,rfl,_,_,rfl,by decide+kernel⟩⟩⟩,.of hb⟩
def Tryz.nr:bT Tryz.prog Tryz.B.eT Tryz.X 130 [.str,.str] [.str,.bool] (fun _=>True) (fun x y=>y=(cb x.1 x.2,cy x.1 x.2)):=by
 refine⟨⟨Tryz.f130,Tryz.func130,by kernel_rfl,by kernel_rfl⟩,fun O w x vs hG hO ha _ =>?_⟩;obtain⟨s,p⟩:=x;obtain⟨v,vs',rfl,hv,u,rfl,hu⟩:=ha;obtain⟨rfl,hl⟩:=nQ hv;obtain⟨rfl,_⟩:=nQ hu;refine(Tryz.strings_CutPrefix ⟨s.toArray⟩ ⟨p.toArray⟩ w).mono ?_;rintro e w' ⟨rfl,rfl⟩;have hle:(cb s p).length<=s.length:=by unfold cb;split <;> simp
 exact⟨[.string ⟨(cb s p).toArray⟩,.bool (cy s p)],_,rfl,rfl,⟨_,_,rfl,IK (b5 hle hl),_,rfl,VR.cG rfl rfl⟩,Vg.Below.refl _ _⟩
def Tryz.mq:bT Tryz.prog Tryz.B.eT Tryz.X 103 [.str,.str] [.str] (fun _=>True) (fun x y=>y=br x.1 x.2):=by
 refine⟨⟨Tryz.f103,Tryz.func103,by kernel_rfl,by kernel_rfl⟩,fun O w x vs hG hO ha _ =>?_⟩;obtain⟨s,p⟩:=x;obtain⟨v,vs',rfl,hv,u,rfl,hu⟩:=ha;obtain⟨rfl,hl⟩:=nQ hv;obtain⟨rfl,_⟩:=nQ hu;have hl:s.length<=aK:=hl;have hsz:(⟨s.toArray⟩:ByteArray).size=s.length:=by simp[dd]
 refine(Tryz.strings_TrimSuffix ⟨s.toArray⟩ ⟨p.toArray⟩ w (by rw[hsz];exact hl)).mono ?_;rintro e w' ⟨rfl,rfl⟩;have hle:(br s p).length<=s.length:=by unfold br;split <;> simp
 exact⟨[.string ⟨(br s p).toArray⟩],_,rfl,rfl,⟨_,rfl,IK (b5 hle hl)⟩,Vg.Below.refl _ _⟩
def Tryz.sg:bT Tryz.prog Tryz.B.eT Tryz.X 102 [.str,.str] [.slice .str] (fun x=>x.1.length<4294967281/\x.2.length=1) (fun x y=>y=parts (Hu x.2) x.1):=by
 refine⟨⟨Tryz.f102,Tryz.func102,by kernel_rfl,by kernel_rfl⟩,fun O w x vs hG hO ha hp =>?_⟩;obtain⟨s,p⟩:=x;obtain⟨hs,hp⟩:=hp;obtain⟨c,rfl⟩:∃c,p=[c]:=dn.1 hp
 obtain⟨v,vs',rfl,hv,u,rfl,hu⟩:=ha;obtain⟨rfl,hl⟩:=nQ hv;obtain⟨rfl,_⟩:=nQ hu;obtain⟨m,hm⟩:=hG.max;have hsz:(⟨s.toArray⟩:ByteArray).size=s.length:=by simp[dd]
 have h1:1<=(⟨#[c]⟩:ByteArray).size:=b8 1;refine(Tryz.strings_Split ⟨s.toArray⟩ ⟨#[c]⟩ m w (by rw[hsz];exact hs) hm h1).mono ?_;rintro e w' ⟨rfl,rfl⟩;have hlen:=ed ⟨#[c]⟩ h1 0 _ ⟨s.toArray⟩ rfl;have hdat:=ee ⟨#[c]⟩ 0 (bq ⟨s.toArray⟩ ⟨#[c]⟩) ⟨s.toArray⟩;have hcb:=Lib.countB_le ⟨#[c]⟩ h1 _ ⟨s.toArray⟩ (b8 _);have hd:(b7 ⟨#[c]⟩ 0 (bq ⟨s.toArray⟩ ⟨#[c]⟩) ⟨s.toArray⟩).map (·.data.toList)=parts c s:=by rw[hdat,<-r6,<-Lib.count_one]
 have hlf:(parts c s).length=bq ⟨s.toArray⟩ ⟨#[c]⟩ +1:=by rw[<-hd,bx,hlen]
 refine⟨[_],parts c s,rfl,rfl,⟨_,rfl,VR.cG rfl ⟨_,rfl,?_,.inr ⟨w.heap.size,0,bq ⟨s.toArray⟩ ⟨#[c]⟩ +1,by rw[hlf],by rw[hlf];exact b8 _,fun i y hy =>?_⟩⟩⟩,(Vg.Below.refl _ w).alloc (b8 _) _⟩
 ·rw[hlf];have hs:s.length<4294967281:=hs;rw[hsz]at hcb;unfold aK;omega
 ·have hyl:=oN c s y (ef hy)
  refine⟨[.string ⟨y.toArray⟩],⟨rfl,b5 hyl hl⟩,fun j u hj=>⟨?_,fun hh =>?_⟩⟩
  ·have hj0:j=0:=by
    rcases j with _|j
    ·rfl
    ·simp at hj
   subst hj0;simp at hj;subst hj;rw[<-hd,List.getElem?_map,cz]at hy;obtain⟨q,hq,rfl⟩:=hy;have hh:(w.alloc (.cells ((b7 ⟨#[c]⟩ 0 (bq ⟨s.toArray⟩ ⟨#[c]⟩) ⟨s.toArray⟩).map cn).toArray 9)).heap[w.heap.size]?=some (.cells ((b7 ⟨#[c]⟩ 0 (bq ⟨s.toArray⟩ ⟨#[c]⟩) ⟨s.toArray⟩).map cn).toArray 9 (0,0)):=heap_alloc_new w _;rw[cc hh];simp only[Ty.size,Nat.mul_one,Nat.zero_add,dp,List.getElem?_toArray,List.getElem?_map,hq,eg]
  ·have:=hO _ _ hh
   simp at this
def Tryz.spZ3:Bool×aT:=(true,cB [.int .i64] [.str] (fun _=>True) (fun n=>bp n))
def Tryz.spZ4:Bool×aT:=(true,cB [aC] [.err] (fun _=>True) (fun e=>aI (bC e)))
def Tryz.IL:List (FuncId×(Bool×aT)):=[(76,Tryz.spZ0),(99,Tryz.spZ1),(21,Tryz.spZ2),(71,Tryz.spZ3),(49,Tryz.spZ4)]
def Tryz.NP:bN Tryz.prog Tryz.B Tryz.X Tryz.IL:=
 aP (aE Tryz.jm) (aP (aE Tryz.fH) (aP (aE Tryz.im) (aP (aE Tryz.oT) (aP (aE Tryz.Ff) (bR Tryz.bQ)))))
def IM(e:D aC):dL:=[
 (0,fun st=>{X:=Nat,inv:=fun i=>i<=bb e.2.1,bX:=fun i=>bb e.2.1-i,bK:=fun i=>[(35,sI i),(6,sS (jJ e i))],keep:=[1,2,3,5,33,34]}),
 (2,fun st=>{X:=Nat,inv:=fun i=>i<=bb e.2.2.1,bX:=fun i=>bb e.2.2.1-i,bK:=fun i=>[(60,sI i),(6,sS (jv e i))],keep:=[2,3,5,58,59]})]
def TB(e:D aC)(hw:fY [aC] e):(cV (nE Tryz.B [23,30,47,53,68,74,80]) Tryz.IL Tryz.f105 (IM e) [aC] [.str,.err] (fun x y=>y=(fun e=>dI e) x) e).holds:=by
 refine holds_of (p:=
  let za:=aI (bC e)
  let zb:=[(32:UInt8)]
  let zc:=bb zb
  let zd:=e.2.1
  let ze:=bb zd
  let zf:=e.2.2.1
  let zg:=bb zf
  let zh:=bp (↑ze:Int)
  let zi:=e.1++zb++zh
  let zj:=bp (↑zg:Int)
  let zk:=fun(E:Nat)=>zb++(nth aG zd E).1
  let zl:=fun(E:Nat)=>bp (nth aG zd E).2.1
  let zm:=fun(E:Nat)=>zk E++zb++zl E++zb
  let zn:=fun(E:Nat)=>bp (nth aG zd E).2.2.1
  let zo:=fun(E:Nat)=>(↑E:Int)+1
  let zp:=(e.1=e.1/\zd=zd/\zf=zf/\True)/\True
  let zq:=fun(F:Nat)=>zb++bp (nth aS zf F).1
  let zr:=fun(F:Nat)=>zq F++zb++bp (nth aS zf F).2.1
  let zs:=fun(F:Nat)=>bp (nth aS zf F).2.2.1
  True/\((!aM.isNil za)=true->([],za)=dI e)/\((!aM.isNil za)=false->bb e.1+zc<=aK/\(ze<=aK->zg<=aK->True/\bb (e.1++zb)+bb zh<=aK/\bb zi+zc<=aK/\True/\bb (zi++zb)+bb zj<=aK/\(ze<=aK->(∃(x:Nat),x<=ze/\(0=(↑x:Int)/\zi++zb++zj=jJ e x/\True)/\True)/\∀E:Nat,E<=ze->((decide ((↑E:Int)<(↑ze:Int)))=true->(0<=(↑E:Int)/\(↑E:Int)<(↑ze:Int))/\zc+bb (nth aG zd E).1<=aK/\bb (zk E)+zc<=aK/\True/\bb (zk E++zb)+bb (zl E)<=aK/\bb (zk E++zb++zl E)+zc<=aK/\True/\bb (zm E)+bb (zn E)<=aK/\bb (jJ e E)+bb (zm E++zn E)<=aK/\(aJ (↑E:Int)->aJ 1->aJ (zo E)/\∃(x':Nat),x'<=ze/\ze-x'<ze-E/\(zo E=(↑x':Int)/\jJ e E++(zm E++zn E)=jJ e x'/\True)/\zp))/\((decide ((↑E:Int)<(↑ze:Int)))=false->zg<=aK->(∃(x:Nat),x<=zg/\(0=(↑x:Int)/\jJ e E=jv e x/\True)/\True)/\∀F:Nat,F<=zg->((decide ((↑F:Int)<(↑zg:Int)))=true->(0<=(↑F:Int)/\(↑F:Int)<(↑zg:Int))/\True/\zc+bb (bp (nth aS zf F).1)<=aK/\bb (zq F)+zc<=aK/\True/\bb (zq F++zb)+bb (bp (nth aS zf F).2.1)<=aK/\bb (zr F)+zc<=aK/\True/\bb (zr F++zb)+bb (zs F)<=aK/\bb (jv e F)+bb (zr F++zb++zs F)<=aK/\(aJ (↑F:Int)->aJ 1->aJ (zo F)/\∃(x':Nat),x'<=zg/\zg-x'<zg-F/\(zo F=(↑x':Int)/\jv e F++(zr F++zb++zs F)=jv e x'/\True)/\zp))/\((decide ((↑F:Int)<(↑zg:Int)))=false->bb (jv e F)+bb [(10:UInt8)]<=aK/\(jv e F++[(10:UInt8)],aM.nil)=dI e)))))) (by kernel_rfl) ?_
 dsimp -iota -proj -eta only;refine⟨ba,iB (fun h0=>(Nq (fun e=>by rw[aQ.2 e]at h0;cases h0))) (fun h0=>⟨?a,fun h1 h2=>⟨ba,?b,?c,ba,?d,fun h3=>⟨(⟨0,by omega,⟨rfl,(Nh e).symm,ba⟩,ba⟩),fun E q_0=>iL (fun h4=>⟨?e,?f,?g,ba,?h,?i,ba,?j,?k,fun h5 h6=>⟨?l,(⟨E+1,by omega,by omega,⟨by omega,No (by omega),ba⟩,(by trivial)⟩)⟩⟩) (fun h4 h5=>⟨(⟨0,by omega,⟨rfl,by rw[Ni,show E=e.2.1.length by omega],ba⟩,ba⟩),fun F q_1=>iL (fun h6=>⟨?m,ba,?n,?o,ba,?p,?q,ba,?r,?s,fun h7 h8=>⟨?t,(⟨F+1,by omega,by omega,⟨by omega,Np (by omega),ba⟩,(by trivial)⟩)⟩⟩) (fun h6=>⟨(by have a:=(lF (aQ.1 h0)).AJ F;simp only[bt,bw,bz,aK];omega),(P0 (aQ.1 h0) (by omega))⟩)⟩)⟩⟩⟩)⟩
 case a|b|c|d=>have a:=(lF (aQ.1 h0)).lens;simp only[bt,bw,bz,aK];omega
 case e|m=>omega
 case f|g|h|i|j|k=>have a:=(lF (aQ.1 h0)).W0 (i:=E) (by omega);simp only[bt,bw,bz,aK];omega
 case l|t=>simp only[aJ,aK]at*;omega
 case n|o|p|q|r|s=>have a:=(lF (aQ.1 h0)).W4 (i:=F) (by omega);simp only[bt,bw,bz,aK];omega
def Tryz.IN:bT Tryz.prog Tryz.B.eT Tryz.X 105 [aC] [.str,.err] (fun _=>True) (fun x y=>y=(fun e=>dI e) x):=
 bW (B:=(nE Tryz.B [23,30,47,53,68,74,80])) (X:=Tryz.X) (bN.hint (l:=[23,30,47,53,68,74,80]) Tryz.NP) Tryz.func105 (by kernel_rfl) (fun x=>IM x) (fun x hw hp=>TB x hw)
end Go.Proofs.YtgokjhhcfemnhacGreatDoor

namespace Go.Proofs.YtgokjhhcfemnhacGreatDoor
open Go.RowKit Go.Vg
def Tryz.Xg:(Tryz.prog.info? 144).map (·.size)=some 2:=by kernel_rfl
def Tryz.Xv:liesAt Tryz.prog Tryz.prog.depth 144 (2 / Tryz.prog.cellsOf 144) 0 144 1=true:=by kernel_rfl
set_option maxHeartbeats 1000000 in
set_option maxRecDepth 100000 in
def Tryz.NQ(b:Nat)(v:Value)(w:World)(hb:w.heap[b]?=some (.cells #[.pointer (some ⟨b,0,none⟩),v] 144 (0,0))) :
  Calls Tryz.prog 110 #[.pointer (some ⟨b,0,none⟩)] w fun e w'=>e=.returned (.tuple #[])/\w'=w:=by
 obtain⟨j,hj,_⟩:=cz.1 Tryz.Xg;have h0:w.cell? ⟨b,0,none⟩=some (.pointer (some ⟨b,0,none⟩)):=by rw[cc hb];rfl
 go_enter Tryz.func110,Tryz.ntmps110
 go_wp2
 rw[Lib.run_neq_ptr_same w _ Tryz.underlying141 hj]
 go_wp2
 go_end0
 exact⟨rfl,rfl⟩
set_option maxHeartbeats 1000000 in
set_option maxRecDepth 100000 in
def Tryz.Kg(b:Nat)(v:Value)(w:World)(hb:w.heap[b]?=some (.cells #[.pointer none,v] 144 (0,0))) :
  Calls Tryz.prog 110 #[.pointer (some ⟨b,0,none⟩)] w fun e w'=>e=.returned (.tuple #[])/\w'=w.setCell ⟨b,0,none⟩ (.pointer (some ⟨b,0,none⟩)):=by
 obtain⟨j,hj,hjs⟩:=cz.1 Tryz.Xg;have h0:w.cell? ⟨b,0,none⟩=some (.pointer none):=by rw[cc hb];rfl
 have hsh:w.shape? b=some (144,2):=by simp[eh,hb]
 have hfz:w.frozen? ⟨b,0,none⟩=false:=de hb 0
 go_enter Tryz.func110,Tryz.ntmps110
 go_wp2
 rw[Lib.run_to_unsafe w ⟨b,0,none⟩ Tryz.underlying141 Tryz.underlying206 hj (by rw[hjs];decide) hsh (Nat.zero_lt_succ 1)];simp only[dq];rw[dr]
 go_wp2
 rw[run_callFunc_extern Tryz.func129 (by kernel_rfl) (by kernel_rfl) (by kernel_rfl) (e:=fb) (by kernel_rfl)];rw[Lib.run_noEscape];simp only[dq];rw[dr]
 go_wp2
 rw[Lib.run_from_unsafe w ⟨b,0,none⟩ Tryz.underlying206 Tryz.underlying141 hj hsh Tryz.Xv];simp only[dq];rw[dr]
 go_wp2
 go_end0
 exact⟨rfl,rfl⟩
def Tryz.Xw:(Tryz.prog.info? 5).map (fun i=>(i.zero,i.size,i.bytes))=some (some (.int .u8 0),1,1):=by kernel_rfl
def Tryz.Xp:Tryz.prog.cellsOf 5=1:=by kernel_rfl
set_option maxHeartbeats 2000000 in
set_option maxRecDepth 100000 in
def Tryz.QQ(b:Nat)(p v:Value)(xs:List Value)(s:ByteArray)(w:World)(hb:w.heap[b]?=some (.cells #[p,v] 144 (0,0)))(hp:p=.pointer none\/p=.pointer (some ⟨b,0,none⟩))
  (hown:w.ownsRow 0 5 1 v xs.length xs)(hne:v.ownBlock≠some b)(hcap:∀a n c,v=.slice (some a) n c->0<c)(hlen:xs.length+s.size<=140737488355328) :
  Calls Tryz.prog 72 #[.pointer (some ⟨b,0,none⟩),.string s] w fun e w'=>e=.returned (.tuple #[.int .i64 s.size,.nilIface])/\
   ∃v',w'.heap[b]?=some (.cells #[.pointer (some ⟨b,0,none⟩),v'] 144 (0,0))/\w'.ownsRow 0 5 1 v' (xs.length+s.size) (xs++Lib.strCells s)/\v'.ownBlock≠some b/\Kept b v w w'/\
    (∀a n c,v'=.slice (some a) n c->0<c)/\(∀g,v'.ownBlock=some g->v.ownBlock=some g\/w.heap.size<=g):=by
 obtain⟨i0,hi,hz0⟩:=cz.1 Tryz.Xw;simp only[Prod.mk.injEq]at hz0;obtain⟨hz0,hz1,hz2⟩:=hz0;have hchk:Calls Tryz.prog 110 #[.pointer (some ⟨b,0,none⟩)] w fun e w1=>e=.returned (.tuple #[])/\w1.heap[b]?=some (.cells #[.pointer (some ⟨b,0,none⟩),v] 144 (0,0))/\
   w1.os=w.os/\w1.output=w.output/\w1.heap.size=w.heap.size/\∀k,k≠b->w1.heap[k]?=w.heap[k]?:=by
  rcases hp with rfl|rfl
  ·refine(Tryz.Kg b v w hb).mono ?_
   rintro e w1 ⟨rfl,rfl⟩;exact⟨rfl,(Sr hb).trans (by simp),rfl,rfl,ds _ _ _,fun k hk=>dt _ _ _ _ hk⟩
  ·refine(Tryz.NQ b v w hb).mono ?_
   rintro e w1 ⟨rfl,rfl⟩;exact⟨rfl,hb,rfl,rfl,rfl,fun _ _=>rfl⟩
 go_enter Tryz.func72,Tryz.ntmps72
 go_wp2_with (go_at_call 110;refine hchk.mono ?_)
 rintro e w1 ⟨rfl,hb1,ho1,hu1,hs1,hk1⟩;have hown1:w1.ownsRow 0 5 1 v xs.length xs:=by
  refine⟨hown.1,?_⟩;rcases hown.2 with h|⟨g,cap,cur,h1,h2,h3,h4⟩
  ·exact .inl h
  ·refine .inr ⟨g,cap,cur,h1,h2,?_,h4⟩
   rw[hk1 g (fun e=>hne (by rw[h1,e];rfl))];exact h3
 have c0:w1.cell? ⟨b,0,none⟩=some (.pointer (some ⟨b,0,none⟩)):=by rw[cc hb1];rfl
 have c1:w1.cell? ⟨b,1,none⟩=some v:=by rw[cc hb1];rfl
 obtain⟨v',w2,hrun,hown',hgrow,hcap',hnew⟩:=UX (t:=142) (u:=9) (ty:=142) Tryz.underlying142 Tryz.underlying9 hi hz0 hz1 hz2 hown1 hcap s hlen;have hlt:b<w1.heap.size:=(Array.getElem?_eq_some_iff.1 hb1).1;have hb2:w2.heap[b]?=some (.cells #[.pointer (some ⟨b,0,none⟩),v] 144 (0,0)):=by rw[hgrow.block b hlt (fun e=>hne e.symm)];exact hb1
 have d1:w2.cell? ⟨b,1,none⟩=some v:=by rw[cc hb2];rfl
 have f1:w2.frozen? ⟨b,1,none⟩=false:=de hb2 1;have hne':v'.ownBlock≠some b:=by
  intro e;rcases hown'.2 with⟨h,_⟩|⟨g',cap,cur,h,_,h3,_⟩
  ·rw[h]at e;cases e
  ·rw[h]at e
   cases e;rw[hb2]at h3;cases h3
 have hv1:∃a n c,v'=.slice a n c:=by
  rcases hown'.2 with⟨h,_⟩|⟨g',cap,cur,h,_⟩ <;> exact⟨_,_,_,h⟩
 obtain⟨va,vn,vc,rfl⟩:=hv1;rw[hs1]at hnew
 go_wp2_with (at_builtin;refine yG rfl _ _ 142 9 rfl rfl rfl hrun ?_)
 go_ret2
 refine⟨rfl,.slice va vn vc,(Sr hb2).trans (by simp),⟨hown'.1,?_⟩,hne',⟨hgrow.os.trans ho1,hgrow.output.trans hu1,?_,fun k h1 h2 h3 =>?_⟩,hcap',hnew⟩
 ·rcases hown'.2 with h|⟨g,cap,cur,h1,h2,h3,h4⟩
  ·exact .inl h
  ·refine .inr ⟨g,cap,cur,h1,h2,?_,h4⟩
   rw[dt _ _ _ _ (fun e=>hne' (by rw[h1,show g=b from e];rfl))];exact h3
 ·rw[ds];have:=hgrow.size;omega
 ·rw[dt _ _ _ _ (show k≠b from h2),hgrow.block k (by omega) (fun e=>h3 e.symm),hk1 k h2]
set_option maxHeartbeats 2000000 in
set_option maxRecDepth 100000 in
def Tryz.NR(b:Nat)(p v:Value)(l:List UInt8)(w:World)(hb:w.heap[b]?=some (.cells #[p,v] 144 (0,0)))(hown:w.ownsRow 0 5 1 v l.length (l.map fun c=>Value.int .u8 c.toNat))(hcap:∀a n c,v=.slice (some a) n c->0<c) :
  Calls Tryz.prog 75 #[.pointer (some ⟨b,0,none⟩)] w fun e w'=>e=.returned (.string ⟨l.toArray⟩)/\My v w w':=by
 have c1:w.drew.cell? ⟨b,1,none⟩=some v:=by
  have:w.drew.heap[b]?=some (.cells #[p,v] 144 (0,0)):=hb;rw[cc this];rfl
 have mixed:Tryz.prog.follows .mixedOrders=true:=by kernel_rfl
 by_cases h0:l=[]
 ·subst h0
  obtain⟨q,n,c,rfl,hn,hSD⟩:∃q n c,v=.slice q n c/\n=0/\(ei #[142] 188 #[v]).run Tryz.prog w.drew=.ok (.pointer q) w.drew:=by
   rcases hown.2 with⟨rfl,_⟩|⟨g,cap,cur,rfl,_⟩
   ·exact⟨none,0,0,rfl,rfl,Lib.run_unsafeSliceData_nil _ _ _ _ _⟩
   ·exact⟨_,_,_,rfl,rfl,ej _ _ _ _ _ _ (by have:=hcap _ _ _ rfl;omega)⟩
  subst hn;have hUS:(ek #[188,3] 9 #[.pointer q,.int .i64 0]).run Tryz.prog w.drew=.ok (.string .empty) w.drew:=Lib.run_unsafeString_none _ _ _ _ q
  go_enter Tryz.func75,Tryz.ntmps75
  go_wp2
  go_region_o
  all_goals (go_wp2;go_ret;exact⟨rfl,rfl,rfl,rfl,fun _ _=>rfl⟩)
 ·have hl0:l.length≠0:=by simpa using h0
  rcases hown.2 with⟨_,hz⟩|⟨g,cap,cur,rfl,hbg,hg,hnc,hcm,hcs,htake⟩
  ·exact absurd hz hl0
  have hSD:(ei #[142] 188 #[.slice (some ⟨g,0,none⟩) l.length cap]).run Tryz.prog w.drew=.ok (.pointer (some ⟨g,0,none⟩)) w.drew:=ej _ _ _ _ _ _ (by omega);have hUS:(ek #[188,3] 9 #[.pointer (some ⟨g,0,none⟩),.int .i64 l.length]).run Tryz.prog w.drew=.ok (.string ⟨l.toArray⟩) (w.drew.freeze ⟨g,0,none⟩ l.length):=by
   refine Lib.run_unsafeString_row w.drew 188 3 9 5 Tryz.underlying188 Tryz.Xp g cur.size (by have hg':w.drew.heap[g]?=some (.cells cur 5 (0,0)):=hg;simp[eh,hg']) l h0 (by omega) (by unfold maxLen at hcm;omega) ?_;intro j x hx;exact hown.cells (g:=g) rfl j (.int .u8 x.toNat) (by simp[hx])
  go_enter Tryz.func75,Tryz.ntmps75
  go_wp2
  go_region_o
  all_goals (go_wp2;go_ret;exact⟨rfl,JI⟩)
def Tryz.Vu(b:Nat)(p _q:Value)(a:Option Addr)(n c:Nat)(w:World)(hb:w.heap[b]?=some (.cells #[p,.slice a n c] 144 (0,0))) :
  Calls Tryz.prog 74 #[.pointer (some ⟨b,0,none⟩)] w fun r w'=>r=.returned (.int .i64 n)/\w'=w:=by
 have c1:w.cell? ⟨b,1,none⟩=some (.slice a n c):=by rw[cc hb];rfl
 go_enter Tryz.func74,Tryz.ntmps74
 go_wp2
 go_ret
 exact⟨rfl,rfl⟩
def Tryz.z7:bZ Tryz.prog Tryz.B.eT Tryz.X 72 false (rW 144 5):=
 BY ⟨Tryz.f72,Tryz.func72,by kernel_rfl,by kernel_rfl⟩ Tryz.QQ
def Tryz.xO:bZ Tryz.prog Tryz.B.eT Tryz.X 75 false (qH 144 5):=
 AB ⟨Tryz.f75,Tryz.func75,by kernel_rfl,by kernel_rfl⟩ Tryz.NR
def Tryz.Fg:bZ Tryz.prog Tryz.B.eT Tryz.X 74 true (wR 144 5):=
 FY ⟨Tryz.f74,Tryz.func74,by kernel_rfl,by kernel_rfl⟩ Tryz.Vu
end Go.Proofs.YtgokjhhcfemnhacGreatDoor

namespace Go.Proofs.YtgokjhhcfemnhacGreatDoor
open Go.Vg Go.Mrl
@[reducible] def Tryz.bD:List Ob:=[.box 123 [.obj 1,.obj 2,.obj 3,.d (.int .i64),.d .bool],.row true .str,.row true .str,.tok jr]
def Vv(s:List UInt8)(hw:fY [.str] s)(hp:(fun s=>s.length<=64) s):(cV Tryz.B [] Tryz.f88 [] [.str] [.str] (fun x y=>y=(fun s=>eI s) x) s).holds:=by
 refine holds_of (p:=
  let za:=bb s
  let zb:=64-(↑za:Int)
  let zc:=ch (bd zb) (bY (Ty.int cd))
  za<=aK->aJ 64->aJ (↑za:Int)->aJ zb/\(0<=zb/\zb=zb/\zb<=1000000000)/\bb zc<=aK/\za+bb (bytesOf zc)<=aK/\s++bytesOf zc=eI s) (by kernel_rfl) ?_
 dsimp -iota -proj -eta only;exact fun h0 h1 h2=>⟨(by simp only[aJ,aK]at*;omega),(by omega),(by simp only[cp,Gg];omega),(by simp only[bytesOf,bx,cp,Gg];omega),(by show s++bytesOf (ch _ 0)=_;rw[MD,eI,show bd (64-(s.length:Int))=64-s.length by omega])⟩
def Tryz.Lu:bT Tryz.prog Tryz.B.eT Tryz.X 88 [.str] [.str] (fun s=>s.length<=64) (fun x y=>y=(fun s=>eI s) x):=
 bW (X:=Tryz.X) (bR Tryz.bQ) Tryz.func88 (by kernel_rfl) (fun _=>[]) (fun x hw hp=>Vv x hw hp)
def TC(x:Int)(y:Int)(hw:fY [.int .u64,.int .u64] (x,y))(hp:(fun z=>z.1=1/\0<=z.2/\z.2<=1000000) (x,y)):(cV Tryz.B [] Tryz.f135 [] [.int .u64,.int .u64] [.int .u64,.int .u64] (fun x y=>y=(fun z=>xb z) x) (x,y)).holds:=by
 refine holds_of (p:=
  let za:=cj bu
  let zb:=ca za (4294967295:Int)
  let zc:=(0:Int)<=(32:Int)
  let zd:=(2:Int)^min 32 za
  let ze:=fun(M K:Int)=>M=bk bu K
  ∀E:Int,E=bk bu (↑(cq (ca za x&&&zb)):Int)->zc/\∀F:Int,F=cf x zd->∀G:Int,G=bk bu (↑(cq (ca za y&&&zb)):Int)->zc/\∀I:Int,I=cf y zd->∀K:Int,K=E*G->∀M:Int,ze M K->∀R:Int,R=F*G->∀U:Int,ze U R->zc/\∀x_8:Int,x_8=cf M zd->∀Q:Int,Q=bk bu (U+x_8)->∀V:Int,V=bk bu (↑(cq (ca za Q&&&zb)):Int)->zc/\∀x_11:Int,x_11=cf Q zd->∀Y:Int,Y=E*I->∀Z:Int,ze Z Y->∀x_14:Int,x_14=bk bu (V+Z)->∀x_15:Int,x_15=F*I->∀x_16:Int,ze x_16 x_15->∀x_17:Int,x_17=bk bu (x_16+x_11)->zc/\∀x_18:Int,x_18=cf x_14 zd->∀x_19:Int,x_19=bk bu (x_17+x_18)->∀x_20:Int,x_20=x*y->∀x_21:Int,ze x_21 x_20->(x_19,x_21)=xb (x,y)) (by kernel_rfl) ?_
 dsimp -iota -proj -eta only;dsimp only at hp;refine fun E q_0=>⟨?a,fun F q_1 G q_2=>⟨?b,fun I q_3 K q_4 M q_5 R q_6 U q_7=>⟨?c,fun x_8 q_8 Q q_9 V q_10=>⟨?d,fun x_11 q_11 Y q_12 Z q_13 x_14 q_14 x_15 q_15 x_16 q_16 x_17 q_17=>⟨?e,fun x_18 q_18 x_19 q_19 x_20 q_20 x_21 q_21 =>?f⟩⟩⟩⟩⟩
 case a|b|c|d|e=>trivial
 case f=>
  have a0:=SD q_0 (by omega) (by omega);have a1:=Hl q_1 rfl (by omega) (by omega);have a2:=SD q_2 (by omega) (by omega);have a3:=Hl q_3 rfl (by omega) (by omega);have a4:K=y:=by rw[q_4,a0,a2,hp.1,du]
  have a5:M=y:=by rw[q_5,a4];exact lA (by omega) (by omega)
  have a6:R=0:=by rw[q_6,a1,Int.zero_mul]
  have a7:U=0:=by rw[q_7,a6];rfl
  have a8:=Hl q_8 rfl (by omega) (by omega);have a9:Q=0:=by rw[q_9,a7,a8];rfl
  have a10:V=0:=by rw[SD q_10 (by omega) (by omega)];exact a9
  have a11:=Hl q_11 rfl (by omega) (by omega);have a12:Y=0:=by rw[q_12,a3,Int.mul_zero]
  have a13:Z=0:=by rw[q_13,a12];rfl
  have a14:x_14=0:=by rw[q_14,a10,a13];rfl
  have a15:x_15=0:=by rw[q_15,a1,Int.zero_mul]
  have a16:x_16=0:=by rw[q_16,a15];rfl
  have a17:x_17=0:=by rw[q_17,a16,a11];rfl
  have a18:=Hl q_18 rfl (by omega) (by omega);have a19:x_19=0:=by rw[q_19,a17,a18];rfl
  have a21:x_21=y:=by rw[q_21,q_20,hp.1,du];exact lA (by omega) (by omega)
  rw[a19,a21];simp[xb,hp.1]
def Tryz.TD:bT Tryz.prog Tryz.B.eT Tryz.X 135 [.int .u64,.int .u64] [.int .u64,.int .u64] (fun z=>z.1=1/\0<=z.2/\z.2<=1000000) (fun x y=>y=(fun z=>xb z) x):=
 bW (X:=Tryz.X) (bR Tryz.bQ) Tryz.func135 (by kernel_rfl) (fun _=>[]) (fun x hw hp=>TC x.1 x.2 hw hp)
def Tryz.spZ5:Bool×aT:=(true,cB [.int .u64,.int .u64] [.int .u64,.int .u64] (fun z=>z.1=1/\0<=z.2/\z.2<=1000000) (fun z=>xb z))
def Tryz.IP:List (FuncId×(Bool×aT)):=[(135,Tryz.spZ5)]
def Tryz.NS:bN Tryz.prog Tryz.B Tryz.X Tryz.IP:=
 aP (aE Tryz.TD) (bR Tryz.bQ)
def WC(x:Int)(y:Int)(hw:fY [.int .u64,.int .u64] (x,y))(hp:(fun z=>z.1=1/\0<=z.2/\z.2<=1000000) (x,y)):(cV Tryz.B Tryz.IP Tryz.f117 [] [.int .u64,.int .u64] [.int .u64,.int .u64] (fun x y=>y=(fun z=>xb z) x) (x,y)).holds:=by
 refine holds_of (p:=
  (x=1/\0<=y/\y<=1000000)/\(0,x*y)=xb (x,y)) (by kernel_rfl) ?_
 dsimp only at hp;refine⟨?a,?b⟩
 case a|b=>trivial
def Tryz.WD:bT Tryz.prog Tryz.B.eT Tryz.X 117 [.int .u64,.int .u64] [.int .u64,.int .u64] (fun z=>z.1=1/\0<=z.2/\z.2<=1000000) (fun x y=>y=(fun z=>xb z) x):=
 bW (X:=Tryz.X) Tryz.NS Tryz.func117 (by kernel_rfl) (fun _=>[]) (fun x hw hp=>WC x.1 x.2 hw hp)
def Tryz.QS:List (FuncId×(Bool×aT)):=[(117,Tryz.spZ5)]
def Tryz.TE:bN Tryz.prog Tryz.B Tryz.X Tryz.QS:=
 aP (aE Tryz.WD) (bR Tryz.bQ)
def Fh(x:List (List UInt8))(n:Int):dL:=[(0,fun st=>{X:=Nat,inv:=fun k=>1<=k/\k<=n.toNat,bX:=fun k=>n.toNat-k,bK:=fun k=>[(8,sI k)],aF:=fun k=>[(bJ st 7,.aV .str (lX (nth .str x 0) n.toNat k))],keep:=[4,7],gY:=[bJ st 7]})]
def vG:List (Alt [] [.d (.slice .str),.d (.int .i64)]):=[{bO:=[.row false .str],res:=[.obj 0],out:=fun a _=>(ch a.2.1.toNat (nth .str a.1 0),()),ret:=fun _ _=>()}]
def QT(x:List (List UInt8))(n:Int)(hw:gV [.d (.slice .str),.d (.int .i64)] (x,n,()))(hp:(fun a _=>a.1.length=1/\1<=a.2.1/\a.2.1<=1000000) (x,n,()) ()):(cW Tryz.B Tryz.QS Tryz.f87 (Fh x n) [] [.d (.slice .str),.d (.int .i64)] vG (x,n,()) ()).holds:=by
 refine holds_of (p:=
  let za:=bb x
  let zb:=bk bu (↑za:Int)
  let zc:=bk bu n
  let zd:=bk bm (zb*zc)
  let ze:=ch (bd zd) (bY Ty.str)
  let zf:=bb ze
  let zg:=bd n
  let zh:=min za zf
  let zi:=nth Ty.str x 0
  let zj:=fun(E:Nat)=>lX zi zg E
  let zk:=fun(E:Nat)=>bb (zj E)
  let zl:=fun(E:Nat)=>(↑(zk E):Int)
  let zm:=fun(E:Nat)=>bg (E-0) (bj 0 (zj E))
  let zn:=fun(E:Nat)=>min (bb (zm E)) (zk E-E)
  let zo:=fun(E:Nat)=>(↑E:Int)+(↑(zn E):Int)
  ((decide (n<(0:Int)))=true->False)/\((decide (n<(0:Int)))=false->za<=aK->(zb=(1:Int)/\(0:Int)<=zc/\zc<=(1000000:Int))/\((decide ((0:Int) > (0:Int)))=true->False)/\((decide ((0:Int) > (0:Int)))=false->((decide (zb*zc > (9223372036854775807:Int)))=true->False)/\((decide (zb*zc > (9223372036854775807:Int)))=false->((0:Int)<=zd/\zd=zd/\zd<=(1000000000:Int))/\(True/\0+zf<=zf)/\(∃(F:Nat),(1<=F/\F<=zg)/\((↑zh:Int)=(↑F:Int)/\True)/\bg 0 ze++bg zh x++bj (0+zh) ze=lX zi zg F/\True)/\∀E:Nat,1<=E/\E<=zg->zk E<=aK->((decide ((↑E:Int)<zl E))=true->((0:Int)<=(↑E:Int)/\(↑E:Int)<=zl E/\zl E<=zl E)/\((0:Int)<=(0:Int)/\(0:Int)<=(↑E:Int)/\(↑E:Int)<=zl E)/\(0+(E-0)<=zk E/\E+(zk E-E)<=zk E)/\(aJ (↑E:Int)->aJ (↑(zn E):Int)->aJ (zo E)/\∃(x':Nat),(1<=x'/\x'<=zg)/\zg-x'<zg-E/\(zo E=(↑x':Int)/\True)/\bg E (zj E)++bg (zn E) (zm E)++bj (E+zn E) (zj E)=lX zi zg x'/\@bc (List UInt8)=@bc (List UInt8)/\True))/\((decide ((↑E:Int)<zl E))=false->True/\(zj E,())=(ch zg zi,())/\()=()))))) (by kernel_rfl) ?_
 dsimp -iota -proj -eta only;dsimp only at hp;have e1:bk bu n=n:=lA (by omega) (by omega);have e2:bk bu (x.length:Int)=1:=by rw[hp.1];exact lA (by decide) (by decide)
 have e3:bk bm (1*n)=n:=by rw[du];exact lB (by omega) (by omega)
 refine iL (fun h0 =>?a) (fun h0 h1=>⟨(by rw[e1,e2];omega),⟨fun h2=>absurd (show false=true from h2) (by decide),fun h2=>iL (fun h3=>(by rw[e1,e2]at*;omega)) (fun h3=>⟨(by rw[e1,e2,e3];omega),(by simp_all),?b,fun E q_0 h4=>iL (fun h5=>⟨?c,?d,?e,fun h6 h7=>⟨(by simp only[aJ,aK]at*;omega),?f⟩⟩) (fun h5=>(by rw[show E=bd n by have hl:=Hm (s:=nth .str x 0) (n:=bd n) (k:=E) (by omega);omega,Pk];exact⟨ba,rfl,rfl⟩))⟩)⟩⟩)
 case a|c|d|e=>omega
 case b=>
  rw[e1,e2,e3];obtain⟨s,rfl⟩:=dn.1 hp.1;refine⟨1,by omega,⟨?_,ba⟩,?_,(by trivial)⟩
  ·simp only[b3,cp];omega
  ·have hm:min (bb [s]) (bb (ch (bd n) (bY Ty.str)))=1:=by simp only[b3,cp];omega
   rw[hm];exact ME (n:=bd n) (by omega) rfl [s] rfl
 case f=>
  have hl:=Hm (s:=nth .str x 0) (n:=bd n) (k:=E) (by omega);have e6:min (bb (bg (E-0) (bj 0 (lX (nth .str x 0) (bd n) E)))) (bb (lX (nth .str x 0) (bd n) E)-E)=min E (bd n-E):=by
   simp only[b9,c6];omega
  rw[e6];refine⟨E+min E (bd n-E),by omega,by omega,⟨by omega,ba⟩,?_,(by trivial)⟩;rw[Nat.sub_zero,c6];exact Pj (by omega) (by omega)
def Tryz.QU:bZ Tryz.prog Tryz.B.eT Tryz.X 87 false (aY [] [.d (.slice .str),.d (.int .i64)] (fun a _=>a.1.length=1/\1<=a.2.1/\a.2.1<=1000000) vG):=
 bG (X:=Tryz.X) Tryz.TE Tryz.func87 (by kernel_rfl) (fun(a:CD [.d (.slice .str),.d (.int .i64)]) (x:PD [])=>Fh a.1 a.2.1) (fun(a:CD [.d (.slice .str),.d (.int .i64)]) (x:PD []) hw hp=>QT a.1 a.2.1 hw hp)
def xP:List (Alt [.row true .str] [.obj 0]):=[{bO:=[.row true .str,.row false .str],res:=[.obj 1],ok:=fun _ x=>x.1≠[],out:=fun _ x=>(x.1,x.1,()),ret:=fun _ _=>()}]
def QV(l:List (List UInt8))(hw:gV [.obj 0] ())(hp:(fun _ x=>x.1≠[]/\x.1.length<=1000000) () (l,())):(cW Tryz.B [] Tryz.f89 [] [.row true .str] [.obj 0] xP () (l,())).holds:=by
 refine holds_of (p:=
  ∀E:Bool,(0<bb l->E=false)->(E=true->False)/\(E=false->bb l<=1000000000/\l≠@bc (List UInt8)/\(l,l,())=(l,l,())/\()=())) (by kernel_rfl) ?_
 dsimp only at hp;refine fun E q_0=>⟨fun h0 =>?a,fun h0=>⟨(by omega),?b⟩⟩
 case a|b=>simp_all
def Tryz.QW:bZ Tryz.prog Tryz.B.eT Tryz.X 89 false (aY [.row true .str] [.obj 0] (fun _ x=>x.1≠[]/\x.1.length<=1000000) xP):=
 bG (X:=Tryz.X) (bR Tryz.bQ) Tryz.func89 (by kernel_rfl) (fun(a:CD [.obj 0]) (x:PD [.row true .str])=>[]) (fun(a:CD [.obj 0]) (x:PD [.row true .str]) hw hp=>QV x.1 hw hp)
def Tryz.spZ6:Bool×aT:=(true,cB [.str] [.str] (fun s=>s.length<=64) (fun s=>eI s))
def Tryz.IQ:List (FuncId×(Bool×aT)):=[(88,Tryz.spZ6),(87,(false,aY [] [.d (.slice .str),.d (.int .i64)] (fun a _=>a.1.length=1/\1<=a.2.1/\a.2.1<=1000000) vG)),(89,(false,aY [.row true .str] [.obj 0] (fun _ x=>x.1≠[]/\x.1.length<=1000000) xP))]
def Tryz.NT:bN Tryz.prog Tryz.B Tryz.X Tryz.IQ:=
 aP (aE Tryz.Lu) (aP (Tryz.QU) (aP (Tryz.QW) (bR Tryz.bQ)))
def Tryz.A6:List (Alt Tryz.bD [.obj 0]):=[{bO:=Tryz.bD,res:=[.d .err],out:=fun _ x=>(stepOf x).1,ret:=fun _ x=>(aI (stepOf x).2,())}]
def Vw(d:Dk)(hw:gV [.obj 0] ())(hp:(fun _ x =>-1<=x.1.1) () d):(cW Tryz.B [] Tryz.f118 [] Tryz.bD [.obj 0] Tryz.A6 () d).holds:=by
 refine holds_of (p:=
  let za:=d.2.2.2.1=d.2.2.2.1
  let zb:=(-1:Int)
  let zc:=(stepOf d).1
  let zd:=(aI (stepOf d).2,())
  let ze:=(aM.no 9,())=zd
  let zf:=zb-1
  let zg:=(aM.nil,())=zd
  let zh:=d.1.1-1
  let zi:=((d.1.2.1)=true->za/\True/\d=zc/\ze)/\((d.1.2.1)=false->aJ d.1.1->aJ 1->aJ zh/\za/\True/\((if zb > zh then zb else zh,d.1.2),d.2)=zc/\zg)
  ((!d.1.2.1)=true->((d.1.1 == 0)=true->(true=true->za/\True/\((zb,true,()),d.2)=zc/\ze)/\(true=false->aJ zb->aJ 1->aJ zf/\za/\True/\((if zb > zf then zb else zf,true,()),d.2)=zc/\zg))/\((d.1.1 == 0)=false->zi))/\((!d.1.2.1)=false->zi)) (by kernel_rfl) ?_
 dsimp -iota -proj -eta only;refine iB (fun h0=>iQ (fun h1=>⟨fun h2=>(by rw[JU (by simp_all) ‹_›];exact⟨rfl,ba,rfl,rfl⟩),fun h2=>absurd (show true=false from h2) (by decide)⟩) (fun h1=>⟨fun h2 =>?a,fun h2 h3 h4=>⟨?b,(by rw[Pn (by simp_all) ‹_› hp];exact⟨rfl,ba,rfl,rfl⟩)⟩⟩)) (fun h0=>⟨fun h1 =>?c,fun h1 h2 h3=>⟨?d,(by simp_all)⟩⟩)
 case a|c=>rw[JT (by simp_all)];exact⟨rfl,ba,rfl,rfl⟩
 case b|d=>simp only[aJ]at*;omega
def Tryz.Vx:bZ Tryz.prog Tryz.B.eT Tryz.X 118 false (aY Tryz.bD [.obj 0] (fun _ x =>-1<=x.1.1) Tryz.A6):=
 bG (X:=Tryz.X) (bR Tryz.bQ) Tryz.func118 (by kernel_rfl) (fun(a:CD [.obj 0]) (x:PD Tryz.bD)=>[]) (fun(a:CD [.obj 0]) (x:PD Tryz.bD) hw hp=>Vw x hw hp)
def Tryz.A7:List (FuncId×(Bool×aT)):=[(88,Tryz.spZ6),(118,(false,aY Tryz.bD [.obj 0] (fun _ x =>-1<=x.1.1) Tryz.A6))]
def Tryz.CG:bN Tryz.prog Tryz.B Tryz.X Tryz.A7:=
 aP (aE Tryz.Lu) (aP (Tryz.Vx) (bR Tryz.bQ))
def Tryz.xQ:List (Alt Tryz.bD [.obj 0,.d (.int .i64),.d .str]):=[{bO:=Tryz.bD,res:=[.d .err],out:=fun a x=>(bL x a.1 a.2.1).1,ret:=fun a x=>(aI (bL x a.1 a.2.1).2,())}]
def QX(at_:Int)(s:List UInt8)(d:Dk)(hw:gV [.obj 0,.d (.int .i64),.d .str] (at_,s,()))(hp:(fun _ x =>-1<=x.1.1/\x.2.2.2.1.length<=900000000) (at_,s,()) d):(cW Tryz.B Tryz.A7 Tryz.f90 [] Tryz.bD [.obj 0,.d (.int .i64),.d .str] Tryz.xQ (at_,s,()) d).holds:=by
 refine holds_of (p:=
  let za:=d.2.2.2.1=d.2.2.2.1
  let zb:=bL d at_ s
  let zc:=(aI zb.2,())
  let zd:=za/\True/\d=zb.1/\(aM.no 1,())=zc
  let ze:=bb d.2.2.1
  let zf:=bb s
  let zg:=aI (stepOf d).2
  let zh:=(stepOf d).1
  let zi:=bb zh.2.2.1
  let zj:=bd at_
  let zk:=c7 zh.2.2.1 zj (eI s)
  let zl:=zh.2.2.2.1
  let zm:=[(at_,nth Ty.str zk zj,())]
  let zn:=zl++zm
  let zo:=(zg,())=zc
  ((decide (at_<0))=true->zd)/\((decide (at_<0))=false->ze<=aK->((decide (at_>=(↑ze:Int)))=true->zd)/\((decide (at_>=(↑ze:Int)))=false->zf<=aK->((decide ((↑zf:Int) > 64))=true->zd)/\((decide ((↑zf:Int) > 64))=false->za/\(-1:Int)<=d.1.1/\(True->((aM.isNil zg)=true->zf<=64/\(0<=at_/\at_<(↑zi:Int))/\zj<zi/\(0<=at_/\at_<(↑(bb zk):Int))/\zj<bb zk/\(zl=zl/\bb zl+bb zm<=1000000000)/\zn=zn/\True/\(zh.1,zh.2.1,zk,zn,())=zb.1/\zo)/\((aM.isNil zg)=false->zl=zl/\True/\zh=zb.1/\zo)))))) (by kernel_rfl) ?_
 dsimp -iota -proj -eta only;refine iL (fun h0 =>?a) (fun h0 h1=>iE (fun h2 =>?b) (fun h2 h3=>iL (fun h4 =>?c) (fun h4=>⟨rfl,?d,fun h5=>⟨fun h6=>⟨?e,?f,?g,?h,?i,?j,?k⟩,fun h6=>(by rw[JS (by omega) (fun h=>by have:=aQ.2 h;simp_all)];exact⟨rfl,ba,rfl,rfl⟩)⟩⟩)))
 case a|b|c=>rw[MF (by omega)];exact⟨rfl,ba,rfl,rfl⟩
 case d|e=>omega
 case f|g=>
  have hlen:(stepOf d).fst.snd.snd.fst=d.snd.snd.fst:=congrArg (fun z=>z.2.1) (eV d);have hwt:(stepOf d).fst.snd.snd.snd.fst=d.snd.snd.snd.fst:=congrArg (fun z=>z.2.2.1) (eV d);have hkp:(stepOf d).fst.snd.fst=d.snd.fst:=congrArg (fun z=>z.1) (eV d);rw[hlen];omega
 case h|i=>
  have hlen:(stepOf d).fst.snd.snd.fst=d.snd.snd.fst:=congrArg (fun z=>z.2.1) (eV d);have hwt:(stepOf d).fst.snd.snd.snd.fst=d.snd.snd.snd.fst:=congrArg (fun z=>z.2.2.1) (eV d);have hkp:(stepOf d).fst.snd.fst=d.snd.fst:=congrArg (fun z=>z.1) (eV d);rw[en,hlen];omega
 case j=>
  have hlen:(stepOf d).fst.snd.snd.fst=d.snd.snd.fst:=congrArg (fun z=>z.2.1) (eV d);have hwt:(stepOf d).fst.snd.snd.snd.fst=d.snd.snd.snd.fst:=congrArg (fun z=>z.2.2.1) (eV d);have hkp:(stepOf d).fst.snd.fst=d.snd.fst:=congrArg (fun z=>z.1) (eV d);rw[hwt];simp only[b3,true_and];omega
 case k=>
  have hlen:(stepOf d).fst.snd.snd.fst=d.snd.snd.fst:=congrArg (fun z=>z.2.1) (eV d);have hwt:(stepOf d).fst.snd.snd.snd.fst=d.snd.snd.snd.fst:=congrArg (fun z=>z.2.2.1) (eV d);have hkp:(stepOf d).fst.snd.fst=d.snd.fst:=congrArg (fun z=>z.1) (eV d);rw[Pl (by omega) (aQ.1 ‹_›),U3 (t:=.str) (by rw[hlen];omega),hlen,hwt,hkp];exact⟨rfl,ba,rfl,by simp[aQ.1 ‹(aI (stepOf d).snd).isNil=true›]⟩
def Tryz.xR:bZ Tryz.prog Tryz.B.eT Tryz.X 90 false (aY Tryz.bD [.obj 0,.d (.int .i64),.d .str] (fun _ x =>-1<=x.1.1/\x.2.2.2.1.length<=900000000) Tryz.xQ):=
 bG (X:=Tryz.X) Tryz.CG Tryz.func90 (by kernel_rfl) (fun(a:CD [.obj 0,.d (.int .i64),.d .str]) (x:PD Tryz.bD)=>[]) (fun(a:CD [.obj 0,.d (.int .i64),.d .str]) (x:PD Tryz.bD) hw hp=>QX a.1 a.2.1 x hw hp)
def Tryz.A8:List (Alt Tryz.bD [.obj 0,.d (.int .i64)]):=[{bO:=Tryz.bD,res:=[.d .str,.d .err],out:=fun _ x=>x,ret:=fun a x=>((qo x a.1).1,aI (qo x a.1).2,())}]
def TF(at_:Int)(d:Dk)(hw:gV [.obj 0,.d (.int .i64)] (at_,())):(cW Tryz.B [] Tryz.f65 [] Tryz.bD [.obj 0,.d (.int .i64)] Tryz.A8 (at_,()) d).holds:=by
 refine holds_of (p:=
  let za:=d.2.2.2.1=d.2.2.2.1
  let zb:=((qo d at_).1,aI (qo d at_).2,())
  let zc:=za/\True/\d=d/\([],aM.no 1,())=zb
  let zd:=bb d.2.2.1
  ((d.1.2.1)=true->za/\True/\d=d/\([],aM.no 9,())=zb)/\((d.1.2.1)=false->((decide (at_<0))=true->zc)/\((decide (at_<0))=false->zd<=aK->((decide (at_>=(↑zd:Int)))=true->zc)/\((decide (at_>=(↑zd:Int)))=false->(0<=at_/\at_<(↑zd:Int))/\bd at_<zd/\za/\True/\d=d/\(nth Ty.str d.2.2.1 (bd at_),aM.nil,())=zb)))) (by kernel_rfl) ?_
 dsimp -iota -proj -eta only;refine⟨fun h0=>(by rw[MG ‹_›];exact⟨rfl,ba,rfl,rfl⟩),fun h0=>iL (fun h1 =>?a) (fun h1 h2=>iE (fun h3 =>?b) (fun h3=>⟨(by trivial),(by omega),(by rw[SG ‹_› (by omega)];exact⟨rfl,ba,rfl,rfl⟩)⟩))⟩
 case a|b=>rw[Po ‹_› (by omega)];exact⟨rfl,ba,rfl,rfl⟩
def Tryz.TG:bZ Tryz.prog Tryz.B.eT Tryz.X 65 false (aY Tryz.bD [.obj 0,.d (.int .i64)] (fun _ _=>True) Tryz.A8):=
 bG (X:=Tryz.X) (bR Tryz.bQ) Tryz.func65 (by kernel_rfl) (fun(a:CD [.obj 0,.d (.int .i64)]) (x:PD Tryz.bD)=>[]) (fun(a:CD [.obj 0,.d (.int .i64)]) (x:PD Tryz.bD) hw hp=>TF a.1 x hw)
def Tryz.xS:List (Alt Tryz.bD [.obj 0]):=[{bO:=Tryz.bD,res:=[.d .err],out:=fun _ x=>(bP x).1,ret:=fun _ x=>(aI (bP x).2,())}]
def QY(d:Dk)(hw:gV [.obj 0] ())(hp:(fun _ x =>-1<=x.1.1/\x.2.1.length=x.2.2.1.length) () d):(cW Tryz.B Tryz.A7 Tryz.f91 [] Tryz.bD [.obj 0] Tryz.xS () d).holds:=by
 refine holds_of (p:=
  let za:=aI (stepOf d).2
  let zb:=(stepOf d).1
  let zc:=bb zb.2.1
  let zd:=zb.2.2.1
  let ze:=min (bb zd) zc
  let zf:=(za,())=(aI (bP d).2,())
  d.2.2.2.1=d.2.2.2.1/\(-1:Int)<=d.1.1/\(True->((aM.isNil za)=true->(True/\0+zc<=zc)/\(@bc (Int×List UInt8×Unit)=@bc (Int×List UInt8×Unit)/\True/\(zb.1,bg 0 zb.2.1++bg ze zd++bj (0+ze) zb.2.1,zd,[],())=(bP d).1/\zf))/\((aM.isNil za)=false->zb.2.2.2.1=zb.2.2.2.1/\True/\zb=(bP d).1/\zf))) (by kernel_rfl) ?_
 dsimp -iota -proj -eta only;refine⟨rfl,(by omega),fun h0=>⟨fun h1=>⟨(by simp_all),?a⟩,fun h1=>(by rw[zB (fun h=>by have:=aQ.2 h;simp_all)];exact⟨rfl,ba,rfl,rfl⟩)⟩⟩
 case a=>
  have hlen:(stepOf d).fst.snd.snd.fst=d.snd.snd.fst:=congrArg (fun z=>z.2.1) (eV d);have hwt:(stepOf d).fst.snd.snd.snd.fst=d.snd.snd.snd.fst:=congrArg (fun z=>z.2.2.1) (eV d);have hkp:(stepOf d).fst.snd.fst=d.snd.fst:=congrArg (fun z=>z.1) (eV d);have h0:=aQ.1 ‹(aI (stepOf d).snd).isNil=true›;rw[Ep h0,hlen,hkp,Hn hp.2,h0];exact⟨rfl,ba,rfl,rfl⟩
def Tryz.xT:bZ Tryz.prog Tryz.B.eT Tryz.X 91 false (aY Tryz.bD [.obj 0] (fun _ x =>-1<=x.1.1/\x.2.1.length=x.2.2.1.length) Tryz.xS):=
 bG (X:=Tryz.X) Tryz.CG Tryz.func91 (by kernel_rfl) (fun(a:CD [.obj 0]) (x:PD Tryz.bD)=>[]) (fun(a:CD [.obj 0]) (x:PD Tryz.bD) hw hp=>QY x hw hp)
def Tryz.DC:List (Alt Tryz.bD [.obj 0,.d (.int .i64)]):=[{bO:=Tryz.bD,res:=[],out:=fun a x=>Wp x a.1,ret:=fun _ _=>()}]
def Vy(n:Int)(d:Dk)(hw:gV [.obj 0,.d (.int .i64)] (n,())):(cW Tryz.B [] Tryz.f16 [] Tryz.bD [.obj 0,.d (.int .i64)] Tryz.DC (n,()) d).holds:=by
 refine holds_of (p:=
  d.2.2.2.1=d.2.2.2.1/\True/\((if(-1:Int) > n then(-1:Int)else n,d.1.2),d.2)=Wp d n/\()=()) (by kernel_rfl) ?_
 exact⟨rfl,ba,rfl,rfl⟩
def Tryz.Vz:bZ Tryz.prog Tryz.B.eT Tryz.X 16 false (aY Tryz.bD [.obj 0,.d (.int .i64)] (fun _ _=>True) Tryz.DC):=
 bG (X:=Tryz.X) (bR Tryz.bQ) Tryz.func16 (by kernel_rfl) (fun(a:CD [.obj 0,.d (.int .i64)]) (x:PD Tryz.bD)=>[]) (fun(a:CD [.obj 0,.d (.int .i64)]) (x:PD Tryz.bD) hw hp=>Vy a.1 x hw)
def Tryz.A9:List (Alt Tryz.bD [.obj 0]):=[{bO:=Tryz.bD,res:=[.d .bool],out:=fun _ x=>x,ret:=fun _ x=>(x.1.2.1,())}]
def TH(d:Dk)(hw:gV [.obj 0] ()):(cW Tryz.B [] Tryz.f63 [] Tryz.bD [.obj 0] Tryz.A9 () d).holds:=by
 refine holds_of (p:=
  d.2.2.2.1=d.2.2.2.1/\True/\d=d/\d.1.2=d.1.2) (by kernel_rfl) ?_
 exact(by trivial)
def Tryz.IS:bZ Tryz.prog Tryz.B.eT Tryz.X 63 false (aY Tryz.bD [.obj 0] (fun _ _=>True) Tryz.A9):=
 bG (X:=Tryz.X) (bR Tryz.bQ) Tryz.func63 (by kernel_rfl) (fun(a:CD [.obj 0]) (x:PD Tryz.bD)=>[]) (fun(a:CD [.obj 0]) (x:PD Tryz.bD) hw hp=>TH x hw)
def Tryz.tw:List (Alt Tryz.bD [.obj 0]):=[{bO:=Tryz.bD,res:=[.d (.int .i64)],out:=fun _ x=>x,ret:=fun _ x=>((x.2.2.1.length:Int),())}]
def Kh(d:Dk)(hw:gV [.obj 0] ()):(cW Tryz.B [] Tryz.f64 [] Tryz.bD [.obj 0] Tryz.tw () d).holds:=by
 refine holds_of (p:=
  let za:=bb d.2.2.1
  let zb:=((↑za:Int),())
  za<=aK->d.2.2.2.1=d.2.2.2.1/\True/\d=d/\zb=zb) (by kernel_rfl) ?_
 dsimp -iota -proj -eta only;exact fun h0=>(by trivial)
def Tryz.tx:bZ Tryz.prog Tryz.B.eT Tryz.X 64 false (aY Tryz.bD [.obj 0] (fun _ _=>True) Tryz.tw):=
 bG (X:=Tryz.X) (bR Tryz.bQ) Tryz.func64 (by kernel_rfl) (fun(a:CD [.obj 0]) (x:PD Tryz.bD)=>[]) (fun(a:CD [.obj 0]) (x:PD Tryz.bD) hw hp=>Kh x hw)
def Tryz.tz:List (Alt Tryz.bD [.obj 0,.d (.int .u64)]):=[{bO:=Tryz.bD,res:=[],out:=fun a x=>Hj x a.1,ret:=fun _ _=>()}]
def CH(k:Int)(d:Dk):dL:=[(0,fun st=>{X:=Nat,inv:=fun i=>i<=d.2.2.2.1.length,bX:=fun i=>d.2.2.2.1.length-i,bK:=fun i=>[(11,sI i)],aF:=fun i=>[(1,.aV .str (kR k d.2.2.2.1 d.2.1 i))],keep:=[0,1,9,10],gY:=[1]})]
def Ki(k:Int)(d:Dk)(hw:gV [.obj 0,.d (.int .u64)] (k,()))(hp:(fun _ x=>x.2.1.length=x.2.2.1.length/\∀i,i<x.2.2.2.1.length->0<=((nth jr x.2.2.2.1 i).1:Int)/\((nth jr x.2.2.2.1 i).1:Int)<x.2.2.1.length) (k,()) d):(cW Tryz.B [] Tryz.f22 (CH k d) Tryz.bD [.obj 0,.d (.int .u64)] Tryz.tz (k,()) d).holds:=by
 refine holds_of (p:=
  let za:=d.2.2.2.1
  let zb:=bb za
  let zc:=d.2.1
  let zd:=fun(E:Nat)=>(nth jr za E).1
  let ze:=fun(E:Nat)=>kR k za zc E
  let zf:=fun(E:Nat)=>(↑E:Int)+(1:Int)
  let zg:=d.2.2.1
  let zh:=(C.aV 1=C.aV 1/\C.aV 2=C.aV 2/\za=za/\d.1.1=d.1.1/\d.1.2.1=d.1.2.1/\True)/\zg=zg/\za=za/\True
  let zi:=bb zg
  zb<=aK->(∃(x:Nat),x<=zb/\((0:Int)=(↑x:Int)/\True)/\zc=kR k za zc x/\True)/\∀E:Nat,E<=zb->((decide ((↑E:Int)<(↑zb:Int)))=true->((0:Int)<=(↑E:Int)/\(↑E:Int)<(↑zb:Int))/\(64:Int)≠(0:Int)/\∀F:Int,F=db (↑E:Int) (64:Int)->(0:Int)<=F/\∀G:Int,G=cf k ((2:Int)^min (bd F) (cj bu))->∀I:Int,I=bk bu (↑(cq (ca (cj bu) G&&&ca (cj bu) (1:Int))):Int)->((I == (1:Int))=true->((0:Int)<=zd E/\zd E<(↑(bb (ze E)):Int))/\bd (zd E)<bb (ze E)/\(aJ (↑E:Int)->aJ (1:Int)->aJ (zf E)/\∃(x':Nat),x'<=zb/\zb-x'<zb-E/\(zf E=(↑x':Int)/\True)/\c7 (ze E) (bd (zd E)) (nth jr za E).2.1=kR k za zc x'/\zh))/\((I == (1:Int))=false->aJ (↑E:Int)->aJ (1:Int)->aJ (zf E)/\∃(x':Nat),x'<=zb/\zb-x'<zb-E/\(zf E=(↑x':Int)/\True)/\ze E=kR k za zc x'/\zh))/\((decide ((↑E:Int)<(↑zb:Int)))=false->(True/\0+zi<=zi)/\(@bc (Int×List UInt8×Unit)=@bc (Int×List UInt8×Unit)/\True/\(((-1:Int),false,()),ze E,bg 0 zg++bg (min (bb (ze E)) zi) (ze E)++bj (0+min (bb (ze E)) zi) zg,[],())=Hj d k/\()=()))) (by kernel_rfl) ?_
 dsimp -iota -proj -eta only;refine fun h0=>⟨?a,fun E q_0=>iL (fun h1=>⟨(by omega),(by trivial),fun F q_1=>⟨(by have:=Uo E;rw[Int.tmod_eq_emod_of_nonneg (by omega)]at*;omega),fun G q_2 I q_3=>iQ (fun h2=>⟨?b,?c,fun h3 h4=>⟨?d,?e⟩⟩) (fun h2 h3 h4=>⟨?f,?g⟩)⟩⟩) (fun h1=>⟨(by simp_all),?h⟩)⟩
 case a=>refine⟨0,?_⟩;(repeat' (first|exact trivial|rfl|omega|assumption|apply c8))
 case b|c=>have:=hp.2 E (by omega);rw[xc];(try dsimp only[D]at*);omega
 case d|f=>simp only[aJ,aK]at*;omega
 case e|g=>
  have hb:=SE (k:=k) (i:=E) (x:=G) (y:=I) ‹_› (by rw[‹F=_›];exact Uo E) ‹_›
  first|exact⟨E+1,by omega,by omega,⟨by omega,ba⟩,SF (hb.1 ‹_›),(by trivial)⟩|exact⟨E+1,by omega,by omega,⟨by omega,ba⟩,Pm ((not_congr hb).1 ‹_›),(by trivial)⟩
 case h=>
  obtain rfl:E=d.2.2.2.1.length:=by omega
  rw[Hn (by rw[xc];exact hp.1.symm)];exact⟨rfl,ba,rfl,rfl⟩
def Tryz.Kj:bZ Tryz.prog Tryz.B.eT Tryz.X 22 false (aY Tryz.bD [.obj 0,.d (.int .u64)] (fun _ x=>x.2.1.length=x.2.2.1.length/\∀i,i<x.2.2.2.1.length->0<=((nth jr x.2.2.2.1 i).1:Int)/\((nth jr x.2.2.2.1 i).1:Int)<x.2.2.1.length) Tryz.tz):=
 bG (X:=Tryz.X) (bR Tryz.bQ) Tryz.func22 (by kernel_rfl) (fun(a:CD [.obj 0,.d (.int .u64)]) (x:PD Tryz.bD)=>CH a.1 x) (fun(a:CD [.obj 0,.d (.int .u64)]) (x:PD Tryz.bD) hw hp=>Ki a.1 x hw hp)
def Tryz.Ba:List (Alt [] [.d (.int .i64)]):=[
 {bO:=[],res:=[.gX,.d .err],ok:=fun a _=>a.1<1\/120<a.1,out:=fun _ _=>(),ret:=fun _ _=>(aM.no 1,())},
 {bO:=Tryz.bD,res:=[.obj 0,.d .err],ok:=fun a _=>1<=a.1/\a.1<=120,out:=fun a _=>qV a.1,ret:=fun _ _=>(aM.nil,())}]
def VA(n:Int)(hw:gV [.d (.int .i64)] (n,())):(cW Tryz.B Tryz.IQ Tryz.f54 [] [] [.d (.int .i64)] Tryz.Ba (n,()) ()).holds:=by
 refine holds_of (p:=
  let za:=(aM.no 1,())
  let zb:=(n<1\/120<n)/\()=()/\za=za
  let zc:=[eI (@bc UInt8)]
  let zd:=ch (bd n) (nth Ty.str zc 0)
  let ze:=zd≠@bc (List UInt8)
  ((decide (n<1))=true->zb)/\((decide (n<1))=false->((decide (n > 120))=true->zb)/\((decide (n > 120))=false->bb (@bc UInt8)<=64/\(bb zc=1/\1<=n/\n<=1000000)/\(True->(ze/\bb zd<=1000000)/\(ze->(@bc (Int×List UInt8×Unit)=@bc (Int×List UInt8×Unit)/\(1<=n/\n<=120)/\(((-1:Int),false,()),zd,zd,[],())=qV n/\(aM.nil,())=(aM.nil,()))))))) (by kernel_rfl) ?_
 dsimp -iota -proj -eta only;refine iL (fun h0 =>?a) (fun h0=>iL (fun h1 =>?b) (fun h1=>⟨(by trivial),⟨rfl,by omega,by omega⟩,fun h2=>⟨?c,fun h3=>⟨rfl,by omega,rfl,rfl⟩⟩⟩))
 case a|b=>exact⟨by omega,rfl,rfl⟩
 case c=>
  refine⟨fun h =>?_,by simp only[cp];omega⟩;have:=congrArg bb h;simp only[cp,bz]at this;omega
def Tryz.VB:bZ Tryz.prog Tryz.B.eT Tryz.X 54 false (aY [] [.d (.int .i64)] (fun _ _=>True) Tryz.Ba):=
 bG (X:=Tryz.X) Tryz.NT Tryz.func54 (by kernel_rfl) (fun(a:CD [.d (.int .i64)]) (x:PD [])=>[]) (fun(a:CD [.d (.int .i64)]) (x:PD []) hw hp=>VA a.1 hw)
def VD(n:Int)(hw:fY [.int .i64] n):(cV Tryz.B [] Tryz.f119 [] [.int .i64] [.str] (fun x y=>y=(fun n=>jW n) x) n).holds:=by
 refine holds_of (p:=
  (0:Int)<=(8:Int)/\∀E:Int,E=cf n ((2:Int)^min 8 (cj bm))->(0:Int)<=(16:Int)/\∀F:Int,F=cf n ((2:Int)^min 16 (cj bm))->(0:Int)<=(24:Int)/\∀G:Int,G=cf n ((2:Int)^min 24 (cj bm))->bb [bk cd n,bk cd E,bk cd F,bk cd G]<=aK/\bytesOf [bk cd n,bk cd E,bk cd F,bk cd G]=jW n) (by kernel_rfl) ?_
 refine⟨?a,fun E q_0=>⟨?b,fun F q_1=>⟨?c,fun G q_2=>⟨((by decide:4<=aK)),(by subst q_0;subst q_1;subst q_2;rfl)⟩⟩⟩⟩
 case a|b|c=>trivial
def Tryz.VE:bT Tryz.prog Tryz.B.eT Tryz.X 119 [.int .i64] [.str] (fun _=>True) (fun x y=>y=(fun n=>jW n) x):=
 bW (X:=Tryz.X) (bR Tryz.bQ) Tryz.func119 (by kernel_rfl) (fun _=>[]) (fun x hw hp=>VD x hw)
def Tryz.Lv:List (FuncId×(Bool×aT)):=[(119,(true,cB [.int .i64] [.str] (fun _=>True) (fun n=>jW n)))]
def Tryz.QZ:bN Tryz.prog Tryz.B Tryz.X Tryz.Lv:=
 aP (aE Tryz.VE) (bR Tryz.bQ)
def TI(a:Int)(b:Int)(hw:fY [.int .i64,.int .i64] (a,b)):(cV Tryz.B Tryz.Lv Tryz.f92 [] [.int .i64,.int .i64] [.str] (fun x y=>y=(fun x=>fJ x.1 x.2) x) (a,b)).holds:=by
 refine holds_of (p:=
  let za:=[(83:UInt8)]++jW a
  True/\bb [(83:UInt8)]+bb (jW a)<=aK/\True/\bb za+bb (jW b)<=aK/\za++jW b=fJ a b) (by kernel_rfl) ?_
 dsimp -iota -proj -eta only;exact⟨ba,(by rw[sR];exact(by decide:1+4<=aK)),ba,(by rw[bt,sR,sR];exact(by decide:1+4+4<=aK)),(by trivial)⟩
def Tryz.IT:bT Tryz.prog Tryz.B.eT Tryz.X 92 [.int .i64,.int .i64] [.str] (fun _=>True) (fun x y=>y=(fun x=>fJ x.1 x.2) x):=
 bW (X:=Tryz.X) Tryz.QZ Tryz.func92 (by kernel_rfl) (fun _=>[]) (fun x hw hp=>TI x.1 x.2 hw)
def Q0(s:List UInt8)(hw:fY [.str] s)(hp:(fun s=>4<=s.length) s):(cV Tryz.B [] Tryz.f66 [] [.str] [.int .i64] (fun s y=>(y:Int)=iP s) s).holds:=by
 refine holds_of (p:=
  let za:=(↑(bb s):Int)
  let zb:=cj bm
  let zc:=fun(I F G:Int)=>I=bk bm (↑(cq (ca zb F ||| ca zb G)):Int)
  ((0:Int)<=(0:Int)/\(0:Int)<za)/\((0:Int)<=(1:Int)/\(1:Int)<za)/\(0:Int)<=(8:Int)/\∀E:Int,E=bk bm ((↑(b4 (dH s 1)):Int)*(2:Int)^min 8 zb)->∀F:Int,F=bk bm (↑(cq (ca zb (↑(b4 (dH s 0)):Int) ||| ca zb E)):Int)->((0:Int)<=(2:Int)/\(2:Int)<za)/\(0:Int)<=(16:Int)/\∀G:Int,G=bk bm ((↑(b4 (dH s 2)):Int)*(2:Int)^min 16 zb)->∀I:Int,zc I F G->((0:Int)<=(3:Int)/\(3:Int)<za)/\(0:Int)<=(24:Int)/\∀K:Int,K=bk bm ((↑(b4 (dH s 3)):Int)*(2:Int)^min 24 zb)->∀M:Int,zc M I K->M=iP s) (by kernel_rfl) ?_
 dsimp -iota -proj -eta only;refine⟨?a,?b,?c,fun E q_0 F q_1=>⟨?d,?e,fun G q_2 I q_3=>⟨?f,?g,fun K q_4 M q_5=>(by subst_vars;rfl)⟩⟩⟩
 case a|b|d|f=>omega
 case c|e|g=>trivial
def Tryz.Q1:bT Tryz.prog Tryz.B.eT Tryz.X 66 [.str] [.int .i64] (fun s=>4<=s.length) (fun s y=>(y:Int)=iP s):=
 bW (X:=Tryz.X) (bR Tryz.bQ) Tryz.func66 (by kernel_rfl) (fun _=>[]) (fun x hw hp=>Q0 x hw hp)
def Tryz.spZ7:Bool×aT:=(true,cB [aC] [.str,.err] (fun _=>True) (fun e=>dI e))
def Tryz.Fi:List (FuncId×(Bool×aT)):=[(72,(false,rW 144 5)),(75,(false,qH 144 5)),(74,(true,wR 144 5)),(105,Tryz.spZ7)]
def Tryz.Kk:bN Tryz.prog Tryz.B Tryz.X Tryz.Fi:=
 aP (Tryz.z7) (aP (Tryz.xO) (aP (Tryz.Fg) (aP (aE Tryz.IN) (bR Tryz.bQ))))
def Fj(l:List (D aC)):dL:=[
 (0,fun st=>{X:=Nat,inv:=fun i=>i<=l.length/\∀j,j<i->bC (nth aC l j)=0,bX:=fun i=>l.length-i,bK:=fun i=>[(11,sI i)],keep:=[4,9,10],aF:=fun i=>[(bJ st 4,.ext 2 kx (bI (fL (l.take i)),(144:Int),(5:Int),()))],gY:=[bJ st 4]})]
def TJ(l:List (D aC))(hw:fY [.slice aC] l)(hp:(fun l=>l.length<=100) l):(cV (nE Tryz.B [17]) Tryz.Fi Tryz.f97 (Fj l) [.slice aC] [.str,.err] (fun x y=>y=(fun l=>dO l) x) l).holds:=by
 refine holds_of (p:=
  let za:=bb l
  let zb:=(↑(144:Nat):Int)
  let zc:=fun(b:UInt8)=>(↑(b4 b):Int)
  let zd:=((144:Int),(5:Int),())
  let ze:=(↑(5:Nat):Int)
  let zf:=fun(E:Nat)=>bo zc (fL (bg E l))
  za<=aK->(∃(x:Nat),(x<=za/\∀(j:Nat),j<x->bC (nth aC l j)=(0:Int))/\((0:Int)=(↑x:Int)/\True)/\([],zb,(↑(5:TypeId):Int),())=(bo zc (fL (bg x l)),zd)/\True)/\∀E:Nat,(E<=za/\∀(j:Nat),j<E->bC (nth aC l j)=(0:Int))->((decide ((↑E:Int)<(↑za:Int)))=true->((0:Int)<=(↑E:Int)/\(↑E:Int)<(↑za:Int))/\True/\((!aM.isNil (dI (nth aC l E)).2)=true->([],(dI (nth aC l E)).2)=dO l)/\((!aM.isNil (dI (nth aC l E)).2)=false->((144:Int)=zb/\(5:Int)=ze/\bb (zf E)+bb (dI (nth aC l E)).1<=(140737488355328:Nat))/\(aJ (↑E:Int)->aJ (1:Int)->aJ ((↑E:Int)+(1:Int))/\∃(x':Nat),(x'<=za/\∀(j:Nat),j<x'->bC (nth aC l j)=(0:Int))/\za-x'<za-E/\((↑E:Int)+(1:Int)=(↑x':Int)/\True)/\(zf E++bo zc (dI (nth aC l E)).1,zb,ze,())=(bo zc (fL (bg x' l)),zd)/\True)))/\((decide ((↑E:Int)<(↑za:Int)))=false->((144:Int)=zb/\(5:Int)=ze)/\(bytesOf (zf E),aM.nil)=dO l)) (by kernel_rfl) ?_
 dsimp -iota -proj -eta only;refine fun h0=>⟨(⟨0,⟨b6 _,fun j hj=>absurd hj (cu _)⟩,⟨rfl,ba⟩,rfl,ba⟩),fun E q_0=>iL (fun h1=>⟨(by omega),ba,iB (fun h2=>(Qm q_0.2 (by omega) h2)) (fun h2=>⟨?a,fun h3 h4=>⟨(by simp only[aJ,aK]at*;omega),(⟨E+1,⟨by omega,jU q_0.2 (vq h2).1⟩,by omega,⟨by omega,ba⟩,oP (Qn (by omega) h2),ba⟩)⟩⟩)⟩) (fun h1=>⟨(by trivial),(by rw[show bytesOf (bo _ (fL (bg E l)))=_ from u5 _];exact Td q_0.2 (by omega))⟩)⟩
 case a=>refine⟨rfl,rfl,?_⟩;rw[bx];have h1:=Qo hp (i:=E) (by omega) q_0.2;have h2:=Nv h2;omega
def Tryz.TK:bT Tryz.prog Tryz.B.eT Tryz.X 97 [.slice aC] [.str,.err] (fun l=>l.length<=100) (fun x y=>y=(fun l=>dO l) x):=
 bW (B:=(nE Tryz.B [17])) (X:=Tryz.X) (bN.hint (l:=[17]) Tryz.Kk) Tryz.func97 (by kernel_rfl) (fun x=>Fj x) (fun x hw hp=>TJ x hw hp)
end Go.Proofs.YtgokjhhcfemnhacGreatDoor

namespace Go.Proofs.YtgokjhhcfemnhacGreatDoor
open Go.Vg Go.Shelf Go.RowKit
attribute [local go_sem] Oper.semAt_some
def CI(p j k:Nat):Prop:=p=j*k
def WE{n k m:Nat}(h:min k n=m):(if n<k then((n:Nat):Int)else(k:Int))=(m:Int):=by split <;> omega
def Tryz.Xx(b1 b2:Nat)(a:Option Addr)(len cap k:Nat)(w0:World)(h1k:1<=k)(hk9:k<=1000000000)(hl9:len<=1000000000)(hlc:len<=cap)(hsome:0<len->∃b o,a=some ⟨b,o,none⟩)
  (l:Nat)(J Jx:List Nat->World->Prop)(hJd:∀s W,J s W->J s W.drew)
  (hY:∀pre x W1,J pre W1->pre.length<fN len k->YieldAt Fence.wide 1 Tryz.prog l #[ku a len k x] W1 fun e W'=>
   (e=.returned (.bool true)/\J (pre++[x]) W'/\(W'.cell? ⟨b1,0,none⟩=W1.cell? ⟨b1,0,none⟩/\W'.cell? ⟨b2,0,none⟩=W1.cell? ⟨b2,0,none⟩))\/(e=.returned (.bool false)/\Jx (pre++[x]) W'))
  (W:World)(hc1:W.cell? ⟨b1,0,none⟩=some (.slice a len cap))(hc2:W.cell? ⟨b2,0,none⟩=some (.int .i64 k))(h0:J [] W) :
  CallsIn Fence.wide 2 Tryz.prog 120 #[.func (.yield l) #[] #[],.pointer (some ⟨b1,0,none⟩),.pointer (some ⟨b2,0,none⟩)] W fun e W'=>(∃v,e=.returned v)/\((∃xs,xs=cr (fN len k)/\J xs W')\/(∃pre,(∃j,pre=cr j)/\Jx pre W')):=by
 refine callsIn_of_wp Tryz.func120 rfl trivial ?_ rfl;have hn:Tryz.f120.ntmps=31:=rfl;simp only[hn,List.size_toArray,bw,bz,Nat.reduceAdd,Nat.reduceSub,Array.replicate_succ,Array.replicate_zero,List.push_toArray,List.append_toArray,List.nil_append,List.cons_append]
 gi_wp2
 gi_loopw [4] (fun i wr=>∃j p:Nat,CI p j k/\j<=fN len k/\i=.int .i64 (p:Int)/\J (cr j) wr/\wr.cell? ⟨b1,0,none⟩=some (.slice a len cap)/\wr.cell? ⟨b2,0,none⟩=some (.int .i64 k))
  (fun i _=>len+k-(intOf i).toNat)
 case atStart=>exact⟨0,0,(Nat.zero_mul k).symm,b6 _,rfl,h0,hc1,hc2⟩
 case round=>
  obtain⟨j,p,hp,hj,rfl,hJs,hw1,hw2⟩:=hrel;by_cases hlt:p<len
  ·have hlt':(p:Int)<(len:Int):=Int.ofNat_lt.2 hlt
   obtain⟨b,o,rfl⟩:=hsome (by omega);obtain⟨m,hm⟩:∃m:Nat,m=min k (len-p):=⟨_,rfl⟩
   have hm0:0<m:=by omega
   have hm00:¬m=0:=by omega
   have hm2:p+m<=len:=by omega
   have hb1:(((p:Nat):Int)+(m:Int))<=1000000000:=by omega
   have hb0:(0:Int)<=((p:Nat):Int)+(m:Int):=by omega
   have hjN:j<fN len k:=by
    unfold fN;rw[eo (by omega)];unfold CI at hp;omega
   obtain⟨fn,tmps,assign,body,hy,hR⟩:=hY (cr j) j wr.drew (hJd _ _ hJs) (by rw[List.length_range];exact hjN);rw[show ku (some ⟨b,o,none⟩) len k j=.slice (some ⟨b,o+p,none⟩) m m by unfold CI at hp;subst hp;subst hm;rfl]at hy
   gi_wp2
   gi_region
   try rw[WE (show min k (len-p)=m from hm.symm)]
   try rw[show min ((k:Nat):Int) ((len-p:Nat):Int)=(m:Int) by omega]
   try rw[<-hm]
   clear hm
   gi_wp2
   refine hR.mono ?_;rintro e W3 (⟨rfl,hJ3,hk3⟩|⟨rfl,hJx3⟩)
   ·have hw3:=hk3.1.trans hw1
    have hw4:=hk3.2.trans hw2;have hs1:(0:Int)<=(p:Int)+(k:Int):=by omega
    have hs2:(p:Int)+(k:Int)<=2000000000:=by omega
    gi_wp2
    go_roundw
    case rel=>exact⟨j+1,p+k,by unfold CI at*;rw[hp,Nat.add_mul,Nat.one_mul],hjN,by simp,by rw[ep];exact hJ3,hw3,hw4⟩
    case measure=>simp[intOf];omega
   ·gi_wp2
    refine bodyPost_ret (results_none rfl _ _ _) rfl ?_;exact⟨⟨_,rfl⟩,.inr ⟨_,⟨j+1,ep.symm⟩,hJx3⟩⟩
  ·have hjN:j=fN len k:=by
    refine Nat.le_antisymm hj (Nat.le_of_not_lt fun hc=>hlt ?_);unfold fN at hc;rw[eo (by omega)]at hc;unfold CI at hp;omega
   gi_wp2
   go_end0
   exact⟨⟨_,rfl⟩,.inl ⟨_,rfl,by rw[<-hjN];exact hJs⟩⟩
def Tryz.VF:uh Tryz.prog 120:=fun b1 b2 a len cap k w h1k hk9 hl9 hlc hsome hb1 hb2 hc1 hc2 l J Jx W hW hJ _ hY h0=>
 Tryz.Xx b1 b2 a len cap k w h1k hk9 hl9 hlc hsome l J Jx (fun s W hs=>hJ s W W.drew none hs ⟨rfl,rfl,rfl,b8 _,fun _ _ _=>rfl⟩ (fun r e=>by cases e)) hY W
  ((hW.cell (p:=⟨b1,0,none⟩) hb1).trans hc1) ((hW.cell (p:=⟨b2,0,none⟩) hb2).trans hc2) h0
end Go.Proofs.YtgokjhhcfemnhacGreatDoor

namespace Go.Proofs.YtgokjhhcfemnhacGreatDoor
open Go.Vg Go.Mrl
@[reducible] def Tryz.cF:List Ob:=[.box 126 [.obj 1,.d (.int .i64),.d (.slice aC)],.box 123 [.obj 2,.obj 3,.obj 4,.d (.int .i64),.d .bool],.row true .str,.row true .str,.tok jr]
@[reducible] def Tryz.VG:List Ob:=[.box 26 [.obj 1],.box 126 [.obj 2,.d (.int .i64),.d (.slice aC)],.box 123 [.obj 3,.obj 4,.obj 5,.d (.int .i64),.d .bool],.row true .str,.row true .str,.tok jr,.box 36 [.d .err],.box 36 [.d .err],.box 3 [.d (.int .i64)]]
def Tryz.spZ8:Bool×aT:=(true,cB [.int .i64,.int .i64] [.str] (fun _=>True) (fun x=>fJ x.1 x.2))
def Tryz.spZ9:Bool×aT:=(false,aY Tryz.bD [.obj 0,.d (.int .i64),.d .str] (fun _ x =>-1<=x.1.1/\x.2.2.2.1.length<=900000000) Tryz.xQ)
def Tryz.spZ10:Bool×aT:=(false,aY Tryz.bD [.obj 0] (fun _ x =>-1<=x.1.1/\x.2.1.length=x.2.2.1.length) Tryz.xS)
def Tryz.Lw:List (FuncId×(Bool×aT)):=[(97,(true,cB [.slice aC] [.str,.err] (fun l=>l.length<=100) (fun l=>dO l))),(92,Tryz.spZ8),(98,(false,gx Tryz.B [] Tryz.f98 [])),(90,Tryz.spZ9),(91,Tryz.spZ10)]
def Tryz.Q2:bN Tryz.prog Tryz.B Tryz.X Tryz.Lw:=
 aP (aE Tryz.TK) (aP (aE Tryz.IT) (aP (eP (bR Tryz.bQ) Tryz.func98 (by kernel_rfl) []) (aP (Tryz.xR) (aP (Tryz.xT) (bR Tryz.bQ)))))
def Tryz.IU(l:List (D aC))(r:Int)(o:List (D aC))(d:Dk):List (Nat×(St->lG)):=[
 (0,fun st=>{inv:=fun pre=>(ik l r d pre).2=0,keep:=[1,2,4,5,6,7,8,29],aO:=Tryz.VG,refs:=[(2,0),(4,6),(6,7),(8,8)],pd:=fun pre=>((),(r,o,()),(ik l r d pre).1.1,(ik l r d pre).1.2.1,(ik l r d pre).1.2.2.1,(ik l r d pre).1.2.2.2.1,(aM.nil,()),(aM.nil,()),((2+(r+1).tmod 2*55+(pre.length:Int):Int),()),())})]
def Tryz.Bb:List (Alt Tryz.cF [.obj 0,.d (.slice aC)]):=[{bO:=Tryz.cF,res:=[.d .err],out:=fun a x=>(if(eJ x.2 x.1.1 a.1).2=0 then(x.1.1+1,a.1,())else x.1,(eJ x.2 x.1.1 a.1).1),ret:=fun a x=>(aI (eJ x.2 x.1.1 a.1).2,())}]
def VH(l:List (D aC))(r:Int)(o:List (D aC))(d:Dk)(hw:gV [.obj 0,.d (.slice aC)] (l,()))(hp:(fun a x=>a.1.length<=100/\0<=(x.1.1:Int)/\(x.1.1:Int)<=1000000000/\cZ x.2 1000000) (l,()) ((r,o,()),d)):(Du Tryz.B Tryz.Lw 120 Tryz.f60 (Tryz.IU l r o d) Tryz.cF [.obj 0,.d (.slice aC)] Tryz.Bb (l,()) ((r,o,()),d)).holds:=by
 refine holds_of (p:=
  let za:=d.2.2.2.1
  let zb:=(r,o,())
  let zc:=eJ d r l
  let zd:=r+(1:Int)
  let ze:=(zd,l,())
  let zf:=(if zc.2=(0:Int)then ze else zb,zc.1)
  let zg:=((dO l).2,())
  let zh:=(aI zc.2,())
  let zi:=(2:Int)≠(0:Int)
  let zj:=db zd (2:Int)
  let zk:=bo (fun(b:UInt8)=>(↑(b4 b):Int)) (dO l).1
  let zl:=(aM.nil,())
  let zm:=(2:Int)+zj*(55:Int)
  let zn:=(bb zk+(64:Nat)-(1:Nat)) / (64:Nat)
  let zo:=fun(I:Nat)=>bg (64:Nat) (bj (I*(64:Nat)) zk)
  let zp:=fun(G:List Nat)=>(ik l r d G).1
  let zq:=(-1:Int)
  let zr:=fun(G:List Nat)=>zm+(↑(bb G):Int)
  let zs:=fun(G:List Nat) (I:Nat)=>aI (bL (zp G) (zr G) (bytesOf (zo I))).2
  let zt:=fun(G:List Nat) (I:Nat)=>(bL (zp G) (zr G) (bytesOf (zo I))).1
  let zu:=fun(I:Nat) (G:List Nat)=>(bb (zo I)<=aK)/\((zp G).2.2.2.1=(zp G).2.2.2.1)/\(zq<=(zp G).1.1/\bb (zp G).2.2.2.1<=(900000000:Nat))/\((True)->(((!aM.isNil (zs G I))=true->((G=cr I)->((zt G I).2.2.2.1=(zt G I).2.2.2.1/\True/\(zb,zt G I)=zf/\(zs G I,())=zh)))/\((!aM.isNil (zs G I))=false->((aJ (zr G))->((aJ (1:Int))->(aJ (zr G+(1:Int)))/\((zt G I).2.2.2.1=(zt G I).2.2.2.1/\∃(x':List Nat),(ik l r d x').2=(0:Int)/\x'=G++[I]/\True/\True/\true=true/\((),zb,(zt G I).1,(zt G I).2.1,(zt G I).2.2.1,(zt G I).2.2.2.1,zl,(zs G I,()),(zr G+(1:Int),()),())=((),zb,(ik l r d x').1.1,(ik l r d x').1.2.1,(ik l r d x').1.2.2.1,(ik l r d x').1.2.2.2.1,zl,zl,(zm+(↑(bb x'):Int),()),())))))))
  let zv:=ik l r d (cr zn)
  let zw:=zv.1.2.2.2.1
  let zx:=aI (bP zv.1).2
  let zy:=aM.isNil zx
  let zz:=bb (dO l).1
  let zaa:=(bP zv.1).1
  let zab:=zaa.2.2.2.1
  let zac:=zab=zab
  let zad:=zq<=zaa.1.1
  let zae:=fun(G:Int)=>bL zaa G (fJ zd (↑zz:Int))
  let zaf:=fun(G:Int)=>(zae G).1.2.2.2.1=(zae G).1.2.2.2.1
  let zag:=fun(G:Int)=>(bP (zae G).1).1
  let zah:=fun(G:Int)=>(zag G).2.2.2.1=(zag G).2.2.2.1
  let zai:=fun(G:Int)=>(aI (bP (zae G).1).2,())=zh
  let zaj:=fun(G:Int)=>(aI (zae G).2,())=zh
  let zak:=aI (bP zaa).2
  let zal:=(bP zaa).1
  let zam:=zal.2.2.2.1=zal.2.2.2.1
  let zan:=(zak,())=zh
  let zao:=(zx,())=zh
  (bb l<=(100:Nat))/\(((!aM.isNil (dO l).2)=true->(za=za/\True/\(zb,d)=zf/\zg=zh))/\((!aM.isNil (dO l).2)=false->((aJ r)->((aJ (1:Int))->(aJ zd)/\(zi)/\(∀E:Int,((E=zj)->(∀F:Int,((F=E*(55:Int))->((aJ E)->((aJ (55:Int))->(aJ F)/\((aJ (2:Int))->((aJ F)->(aJ ((2:Int)+F))/\(((decide ((64:Int)<(1:Int)))=true->(False))/\((decide ((64:Int)<(1:Int)))=false->((((1:Int)<=(64:Int)/\(64:Int)<=(1000000000:Int)/\bb zk<=(1000000000:Nat)))/\((za=za/\∃(x':List Nat),(ik l r d x').2=(0:Int)/\x'=@bc Nat/\True/\True/\true=true/\((),zb,d.1,d.2.1,d.2.2.1,za,zl,zg,((2:Int)+F,()),())=((),zb,(ik l r d x').1.1,(ik l r d x').1.2.1,(ik l r d x').1.2.2.1,(ik l r d x').1.2.2.2.1,zl,zl,(zm+(↑(bb x'):Int),()),())))/\((∀G:List Nat,(((ik l r d G).2=(0:Int))->(∀I:Nat,((bb G<zn)->((((fun a0 a1:Prop=>a0/\a0/\a1) (((fun a0:Prop=>a0/\a0) ((zu I G)))) ((zu I G))))/\(((((fun a0:Prop=>a0/\a0) ((zu I G))))/\((zu I G))))/\((zu I G))))))))/\(((zv.2=(0:Int))->(zw=zw)/\(zq<=zv.1.1.1/\bb zv.1.2.1=bb zv.1.2.2.1)/\((True)->(((zy)=true->(zi)/\(∀G:Int,((G=zj)->((zz<=aK)->(True)/\(zac)/\(zad/\bb zab<=(900000000:Nat))/\((True)->(((aM.isNil (aI (zae G).2))=true->(zaf G)/\(zq<=(zae G).1.1.1/\bb (zae G).1.2.1=bb (zae G).1.2.2.1)/\((True)->(((aM.isNil (aI (bP (zae G).1).2))=true->((fun a0:Prop=>a0/\a0) ((zah G/\True/\(ze,zag G)=zf/\zai G))))/\((aM.isNil (aI (bP (zae G).1).2))=false->(zah G/\True/\(zb,zag G)=zf/\zai G)))))/\((aM.isNil (aI (zae G).2))=false->(((aM.isNil (aI (zae G).2))=true->((fun a0:Prop=>a0/\a0) ((zaf G/\True/\(ze,(zae G).1)=zf/\zaj G))))/\((aM.isNil (aI (zae G).2))=false->(zaf G/\True/\(zb,(zae G).1)=zf/\zaj G))))))))))/\((zy)=false->(((zy)=true->(zac)/\(zad/\bb zaa.2.1=bb zaa.2.2.1)/\((True)->(((aM.isNil zak)=true->((fun a0:Prop=>a0/\a0) ((zam/\True/\(ze,zal)=zf/\zan))))/\((aM.isNil zak)=false->(zam/\True/\(zb,zal)=zf/\zan)))))/\((zy)=false->(((zy)=true->((fun a0:Prop=>a0/\a0) ((zac/\True/\(ze,zaa)=zf/\zao))))/\((zy)=false->(zac/\True/\(zb,zaa)=zf/\zao)))))))))))))))))))))))))) (by kernel_rfl) ?_
 dsimp -iota -proj -eta only;dsimp only at hp;refine⟨hp.1,iB (fun h0 =>?a) (fun h0 h1 h2=>⟨(by have hr:=hp.2.1;have hr2:=hp.2.2.1;simp only[aJ]at*;dsimp only[D]at*;omega),?b,fun E q_0 F q_1 h3 h4=>⟨?c,fun h5 h6=>⟨?d,⟨fun h7=>absurd (show false=true from h7) (by decide),fun h7=>⟨?e,?f,fun G q_2 I q_3=>⟨(show ∀{a0 a1:Prop},a0->a1->a0/\a0/\a1 from fun g0 g1=>⟨g0,g0,g1⟩) ((show ∀{a0:Prop},a0->a0/\a0 from fun g0=>⟨g0,g0⟩) (⟨?g,rfl,?h,fun h8=>iB (fun h9 h10 =>?i) (fun h9 h10 h11=>⟨?j,?k⟩)⟩)) (⟨?l,rfl,?m,fun h8=>iB (fun h9 h10 =>?n) (fun h9 h10 h11=>⟨?o,?p⟩)⟩),⟨(show ∀{a0:Prop},a0->a0/\a0 from fun g0=>⟨g0,g0⟩) (⟨?q,rfl,?r,fun h8=>iB (fun h9 h10 =>?s) (fun h9 h10 h11=>⟨?t,?u⟩)⟩),⟨?v,rfl,?w,fun h8=>iB (fun h9 h10 =>?x) (fun h9 h10 h11=>⟨?y,?z⟩)⟩⟩,⟨?a0,rfl,?a1,fun h8=>iB (fun h9 h10 =>?a2) (fun h9 h10 h11=>⟨?a3,?a4⟩)⟩⟩,fun h8=>⟨rfl,(by have hf:=AZ (r:=r) hp.1 hp.2.2.2;exact⟨hf.l8,hf.len⟩),fun h9=>⟨fun h10=>⟨?a5,fun G q_2 h11=>⟨ba,rfl,(by have hf:=rn (AZ (r:=r) hp.1 hp.2.2.2);exact⟨hf.l8,b5 hf.mJ (by decide)⟩),fun h12=>⟨fun h13=>⟨rfl,(by have hf:=l9 (rn (AZ (r:=r) hp.1 hp.2.2.2)) G (fJ (r+1) (dO l).1.length);exact⟨hf.l8,hf.len⟩),fun h14=>⟨fun h15=>(show ∀{a0:Prop},a0->a0/\a0 from fun g0=>⟨g0,g0⟩) ((by subst q_2;exact⟨rfl,ba,Qq (E2 h0 h8 (aQ.1 h10) (aQ.1 h13)) (aQ.1 h15)⟩)),fun h15=>(by subst q_2;exact⟨rfl,ba,sb (E2 h0 h8 (aQ.1 h10) (aQ.1 h13)) (dZ h15)⟩)⟩⟩,fun h13=>⟨fun h14=>(show ∀{a0:Prop},a0->a0/\a0 from fun g0=>⟨g0,g0⟩) ((ct (h13.symm.trans h14))),fun h14=>(by subst q_2;exact⟨rfl,ba,sb (Vf h0 h8 (aQ.1 h10) (dZ h13)) (dZ h13)⟩)⟩⟩⟩⟩,fun h10=>⟨fun h11=>⟨rfl,?a6,fun h12=>⟨fun h13=>(show ∀{a0:Prop},a0->a0/\a0 from fun g0=>⟨g0,g0⟩) (?a7),fun h13 =>?a8⟩⟩,fun h11=>⟨fun h12=>(show ∀{a0:Prop},a0->a0/\a0 from fun g0=>⟨g0,g0⟩) ((ct (h10.symm.trans h12))),fun h12=>⟨rfl,ba,sb (Ve h0 h8 (dZ h10)) (dZ h10)⟩⟩⟩⟩⟩⟩⟩⟩⟩⟩)⟩
 case a=>
  obtain⟨e1,e2,e3⟩:=Qp d r h0;rw[e3];exact⟨rfl,ba,sb (z:=(d,lH l)) e1 e2⟩
 case b|a5=>trivial
 case c|d=>have ht:=Ux (r:=r) hp.2.1;simp only[aJ]at*;dsimp only[D]at*;omega
 case e=>refine⟨by decide,by decide,?_⟩;rw[bx];have:=E1 hp.1;omega
 case f=>
  refine⟨rfl,[],rfl,rfl,ba,ba,rfl,?_⟩;rw[(qO h0).1,q_1,q_0];simp[ik,mn]
 case g|l|q|v|a0=>rw[b9];exact b5 (Nat.min_le_left _ _) (by decide)
 case h|m|r|w|a1=>
  have hf:=Il (l:=l) (r:=r) hp.2.2.2 G;have h5000:=vw hp.1;exact⟨hf.l8,b5 hf.mJ (by have:G.length<fN (bI (dO l).1).length 64:=q_3;omega)⟩
 case i|n|s|x|a2=>exact⟨rfl,ba,sb (NA h0 q_2 h10 q_3 (dZ h9)) (dZ h9)⟩
 case j|o|t|y|a3=>
  have ht:=Ux (r:=r) hp.2.1;have h5000:=vw hp.1;have:G.length<fN (bI (dO l).1).length 64:=q_3;simp only[aJ]at*;dsimp only[D]at*;omega
 case k|p|u|z|a4=>
  have hz:=aQ.1 h9;refine⟨rfl,G++[I],?_,rfl,ba,ba,rfl,?_⟩
  ·rw[Io I q_2];exact hz
  ·rw[Io I q_2,bt]
   refine congrArg (fun z=>((),(r,o,()),z)) ?_;rw[show aI _=aM.nil from congrArg aI hz];simp only[b3,Int.natCast_add,Int.natCast_one,Int.add_assoc];rfl
 case a6|a7|a8=>exact ct (h10.symm.trans h11)
def Tryz.Lx:bZ Tryz.prog Tryz.B.eT Tryz.X 60 false (aY Tryz.cF [.obj 0,.d (.slice aC)] (fun a x=>a.1.length<=100/\0<=(x.1.1:Int)/\(x.1.1:Int)<=1000000000/\cZ x.2 1000000) Tryz.Bb):=
 Dv (X:=Tryz.X) Tryz.Q2 Tryz.VF Tryz.func120 (by kernel_rfl) Tryz.func60 (by kernel_rfl) (fun(a:CD [.obj 0,.d (.slice aC)]) (x:PD Tryz.cF)=>Tryz.IU a.1 x.1.1 x.1.2.1 x.2) (fun(a:CD [.obj 0,.d (.slice aC)]) (x:PD Tryz.cF) hw hp=>VH a.1 x.1.1 x.1.2.1 x.2 hw hp)
def Tryz.CJ:List (FuncId×(Bool×aT)):=[(94,(false,gx Tryz.B [] Tryz.f94 []))]
def Tryz.IV:bN Tryz.prog Tryz.B Tryz.X Tryz.CJ:=
 aP (eP (bR Tryz.bQ) Tryz.func94 (by kernel_rfl) []) (bR Tryz.bQ)
def Fk:dL:=[(0,fun st=>{X:=Nat,inv:=fun i=>i<=(cU (.slice aC) st 0).length/\∀j,j<i->(nth aC (cU (.slice aC) st 0) j).1≠Sp .str st (Mx st 1 0),bX:=fun i=>(cU (.slice aC) st 0).length-i,bK:=fun i=>[(8,sI i)],keep:=[0,1,7]})]
def Tryz.Ly:List (FuncId×(Bool×aT)):=[(93,(false,gx Tryz.B Tryz.CJ Tryz.f93 Fk))]
def Tryz.Q3:bN Tryz.prog Tryz.B Tryz.X Tryz.Ly:=
 aP (eP Tryz.IV Tryz.func93 (by kernel_rfl) Fk) (bR Tryz.bQ)
def Tryz.Bc:List (Alt Tryz.cF [.obj 0,.d .str]):=[{bO:=Tryz.cF,res:=[.d (.int .i64)],out:=fun _ x=>x,ret:=fun a x=>(eB x.1.2.1 a.1,())}]
def VI(s:List UInt8)(r:Int)(o:List (D aC))(d:Dk)(hw:gV [.obj 0,.d .str] (s,())):(cW Tryz.B Tryz.Ly Tryz.f58 [] Tryz.cF [.obj 0,.d .str] Tryz.Bc (s,()) ((r,o,()),d)).holds:=by
 refine holds_of (p:=
  let za:=bb o
  let zb:=d.2.2.2.1=d.2.2.2.1
  let zc:=((r,o,()),d)
  let zd:=(eB o s,())
  let ze:=C.ref 1 0
  za<=aK->(∃(x:Nat),(x<=za/\∀(j:Nat),j<x->(nth aC o j).1≠s)/\(0=(↑x:Int)/\True)/\True)/\∀E:Nat,(E<=za/\∀(j:Nat),j<E->(nth aC o j).1≠s)->((decide ((↑E:Int)<(↑za:Int)))=true->(0<=(↑E:Int)/\(↑E:Int)<(↑za:Int))/\(((nth aC o E).1 == s)=true->zb/\True/\zc=zc/\((↑E:Int),())=zd)/\(((nth aC o E).1 == s)=false->aJ (↑E:Int)->aJ 1->aJ ((↑E:Int)+1)/\∃(x':Nat),(x'<=za/\∀(j:Nat),j<x'->(nth aC o j).1≠s)/\za-x'<za-E/\((↑E:Int)+1=(↑x':Int)/\True)/\(s=s/\True)/\(ze=ze/\r=r/\o=o/\True)/\(C.aV 2=C.aV 2/\C.aV 3=C.aV 3/\zb/\d.1.1=d.1.1/\d.1.2.1=d.1.2.1/\True)/\d.2.1=d.2.1/\d.2.2.1=d.2.2.1/\zb/\True))/\((decide ((↑E:Int)<(↑za:Int)))=false->zb/\True/\zc=zc/\((-1:Int),())=zd)) (by kernel_rfl) ?_
 dsimp -iota -proj -eta only;exact fun h0=>⟨(⟨0,⟨b6 _,fun j hj=>absurd hj (cu _)⟩,⟨rfl,ba⟩,ba⟩),fun E q_0=>iL (fun h1=>⟨(by omega),iQ (fun h2=>⟨rfl,ba,rfl,by rw[AX (by omega) q_0.2 h2]⟩) (fun h2 h3 h4=>⟨(by simp only[aJ,aK]at*;omega),(⟨E+1,⟨by omega,jU q_0.2 h2⟩,by omega,⟨by omega,ba⟩,(by trivial)⟩)⟩)⟩) (fun h1=>⟨rfl,ba,rfl,by rw[rm fun j hj=>q_0.2 j (by omega)]⟩)⟩
def Tryz.DD:bZ Tryz.prog Tryz.B.eT Tryz.X 58 false (aY Tryz.cF [.obj 0,.d .str] (fun _ _=>True) Tryz.Bc):=
 bG (X:=Tryz.X) Tryz.Q3 Tryz.func58 (by kernel_rfl) (fun(a:CD [.obj 0,.d .str]) (x:PD Tryz.cF)=>[]) (fun(a:CD [.obj 0,.d .str]) (x:PD Tryz.cF) hw hp=>VI a.1 x.1.1 x.1.2.1 x.2 hw)
def NU(l:List (D aG))(hw:fY [.slice aG] l)(hp:(fun l=>l.length<=1000000) l):(cV Tryz.B [] Tryz.f95 [] [.slice aG] [.slice aG] (fun x y=>y=(fun l=>l) x) l).holds:=by
 refine holds_of (p:=
  ∀E:Bool,(0<bb l->E=false)->(E=true->(@bc (List UInt8×Int×Int×Unit)=l))/\(E=false->bb l<=1000000000/\l=l)) (by kernel_rfl) ?_
 exact fun E q_0=>⟨fun h0=>(by simp_all),fun h0=>⟨(by omega),rfl⟩⟩
def Tryz.NV:bT Tryz.prog Tryz.B.eT Tryz.X 95 [.slice aG] [.slice aG] (fun l=>l.length<=1000000) (fun x y=>y=(fun l=>l) x):=
 bW (X:=Tryz.X) (bR Tryz.bQ) Tryz.func95 (by kernel_rfl) (fun _=>[]) (fun x hw hp=>NU x hw hp)
def NW(l:List (D aS))(hw:fY [.slice aS] l)(hp:(fun l=>l.length<=1000000) l):(cV Tryz.B [] Tryz.f96 [] [.slice aS] [.slice aS] (fun x y=>y=(fun l=>l) x) l).holds:=by
 refine holds_of (p:=
  ∀E:Bool,(0<bb l->E=false)->(E=true->(@bc (Int×Int×Int×Unit)=l))/\(E=false->bb l<=1000000000/\l=l)) (by kernel_rfl) ?_
 exact fun E q_0=>⟨fun h0=>(by simp_all),fun h0=>⟨(by omega),rfl⟩⟩
def Tryz.NX:bT Tryz.prog Tryz.B.eT Tryz.X 96 [.slice aS] [.slice aS] (fun l=>l.length<=1000000) (fun x y=>y=(fun l=>l) x):=
 bW (X:=Tryz.X) (bR Tryz.bQ) Tryz.func96 (by kernel_rfl) (fun _=>[]) (fun x hw hp=>NW x hw hp)
def Tryz.Fl:List (FuncId×(Bool×aT)):=[(95,(true,cB [.slice aG] [.slice aG] (fun l=>l.length<=1000000) (fun l=>l))),(96,(true,cB [.slice aS] [.slice aS] (fun l=>l.length<=1000000) (fun l=>l)))]
def Tryz.Kl:bN Tryz.prog Tryz.B Tryz.X Tryz.Fl:=
 aP (aE Tryz.NV) (aP (aE Tryz.NX) (bR Tryz.bQ))
def Q4(e:D aC)(hw:fY [aC] e)(hp:(fun e=>e.2.1.length<=1000000/\e.2.2.1.length<=1000000) e):(cV Tryz.B Tryz.Fl Tryz.f59 [] [aC] [aC] (fun x y=>y=(fun e=>e) x) e).holds:=by
 refine holds_of (p:=
  bb e.2.1<=1000000/\bb e.2.2.1<=1000000/\e=e) (by kernel_rfl) ?_
 refine⟨?a,?b,rfl⟩
 case a|b=>omega
def Tryz.Fm:bT Tryz.prog Tryz.B.eT Tryz.X 59 [aC] [aC] (fun e=>e.2.1.length<=1000000/\e.2.2.1.length<=1000000) (fun x y=>y=(fun e=>e) x):=
 bW (X:=Tryz.X) Tryz.Kl Tryz.func59 (by kernel_rfl) (fun _=>[]) (fun x hw hp=>Q4 x hw hp)
def Tryz.spZ11:Bool×aT:=(false,gx Tryz.B [] Tryz.f57 [])
def Tryz.spZ12:Bool×aT:=(false,aY Tryz.cF [.obj 0,.d .str] (fun _ _=>True) Tryz.Bc)
def Tryz.spZ13:Bool×aT:=(true,cB [aC] [aC] (fun e=>e.2.1.length<=1000000/\e.2.2.1.length<=1000000) (fun e=>e))
def Tryz.spZ14:Bool×aT:=(false,aY Tryz.cF [.obj 0,.d (.slice aC)] (fun a x=>a.1.length<=100/\0<=(x.1.1:Int)/\(x.1.1:Int)<=1000000000/\cZ x.2 1000000) Tryz.Bb)
def Tryz.IW:List (FuncId×(Bool×aT)):=[(49,Tryz.spZ4),(57,Tryz.spZ11),(58,Tryz.spZ12),(59,Tryz.spZ13),(60,Tryz.spZ14)]
def Tryz.NY:bN Tryz.prog Tryz.B Tryz.X Tryz.IW:=
 aP (aE Tryz.Ff) (aP (eP (bR Tryz.bQ) Tryz.func57 (by kernel_rfl) []) (aP (Tryz.DD) (aP (aE Tryz.Fm) (aP (Tryz.Lx) (bR Tryz.bQ)))))
def Tryz.DE:List (Alt Tryz.cF [.obj 0,.d aC]):=[{bO:=Tryz.cF,res:=[.d .err],out:=fun a x=>(kv x a.1).1,ret:=fun a x=>(aI (kv x a.1).2,())}]
def TL(e:D aC)(r:Int)(o:List (D aC))(d:Dk)(hw:gV [.obj 0,.d aC] (e,()))(hp:(fun a x=>(a.1.2.1.length<=1000000/\a.1.2.2.1.length<=1000000)/\x.1.2.1.length<=99/\0<=(x.1.1:Int)/\(x.1.1:Int)<=1000000000/\cZ x.2 1000000) (e,()) ((r,o,()),d)):(cW Tryz.B Tryz.IW Tryz.f17 [] Tryz.cF [.obj 0,.d aC] Tryz.DE (e,()) ((r,o,()),d)).holds:=by
 refine holds_of (p:=
  let za:=aI (bC e)
  let zb:=d.2.2.2.1=d.2.2.2.1
  let zc:=(r,o,())
  let zd:=kv (zc,d) e
  let ze:=(zc,d)=zd.1
  let zf:=(aI zd.2,())
  let zg:=bb o
  let zh:=eB o e.1
  let zi:=decide (zh>=0)
  let zj:=bb e.2.1<=1000000/\bb e.2.2.1<=1000000
  let zk:=0<=zh
  let zl:=bb (@bc (List UInt8×List (List UInt8×Int×Int×Unit)×List (Int×Int×Int×Unit)×Unit))
  let zm:=zb/\True/\ze/\(aM.no 2,())=zf
  let zn:=@bc (List UInt8×List (List UInt8×Int×Int×Unit)×List (Int×Int×Int×Unit)×Unit)++[e]
  let zo:=0<=r/\r<=1000000000/\cZ d 1000000
  let zp:=eJ d r zn
  let zq:=zp.1.2.2.2.1
  let zr:=r+1
  let zs:=c7 o (bd zh) e
  let zt:=eJ d r zs
  let zu:=zt.1.2.2.2.1
  let zv:=o++[e]
  let zw:=eJ d r zv
  let zx:=zw.1.2.2.2.1
  True/\((!aM.isNil za)=true->zb/\True/\ze/\(za,())=zf)/\((!aM.isNil za)=false->∀E:Bool,(0<zg->E=false)->(E=true->zb/\True/\(True->(zi=true->zj/\(zk/\zh<(↑zl:Int))/\False)/\(zi=false->zl<=aK->(((↑zl:Int) == 3)=true->zm)/\(((↑zl:Int) == 3)=false->zj/\(@bc (List UInt8×List (List UInt8×Int×Int×Unit)×List (Int×Int×Int×Unit)×Unit)=@bc (List UInt8×List (List UInt8×Int×Int×Unit)×List (Int×Int×Int×Unit)×Unit)/\zl+bb [e]<=1000000000)/\zb/\(bb zn<=100/\zo)/\(True->zq=zq/\True/\(if zp.2=0 then(zr,zn,())else zc,zp.1)=zd.1/\(aI zp.2,())=zf)))))/\(E=false->zg<=1000000000/\zb/\True/\(True->(zi=true->zj/\(zk/\zh<(↑zg:Int))/\bd zh<zg/\zb/\(bb zs<=100/\zo)/\(True->zu=zu/\True/\(if zt.2=0 then(zr,zs,())else zc,zt.1)=zd.1/\(aI zt.2,())=zf))/\(zi=false->zg<=aK->(((↑zg:Int) == 3)=true->zm)/\(((↑zg:Int) == 3)=false->zj/\(o=o/\zg+bb [e]<=1000000000)/\zb/\(bb zv<=100/\zo)/\(True->zx=zx/\True/\(if zw.2=0 then(zr,zv,())else zc,zw.1)=zd.1/\(aI zw.2,())=zf))))))) (by kernel_rfl) ?_
 dsimp -iota -proj -eta only;dsimp only at hp;refine⟨ba,iB (fun h0=>(by rw[E3 (dZ h0)];exact⟨rfl,ba,rfl,rfl⟩)) (fun h0 E q_0=>⟨fun h1=>⟨rfl,ba,fun h2=>iE (fun h3=>⟨?a,(by exfalso;have:=xI q_0 h1;subst this;exact o3 _ h3),(by have:=xI q_0 h1;subst this;exact o3 _ h3)⟩) (fun h3 h4=>⟨fun h5=>absurd (show false=true from h5) (by decide),fun h5=>⟨?b,?c,rfl,?d,fun h6 =>?e⟩⟩)⟩,fun h1=>⟨?f,rfl,ba,fun h2=>iE (fun h3=>⟨?g,⟨by omega,(p9 o e.1).1⟩,(by have:=(p9 o e.1).1;omega),rfl,?h,fun h4=>(by rw[Lm (x:=((r,o,()),d)) (aQ.1 h0) (by omega)];exact⟨rfl,ba,rfl,rfl⟩)⟩) (fun h3 h4=>iQ (fun h5=>(by rw[Ip (x:=((r,o,()),d)) (aQ.1 h0) (show ¬0<=eB o e.1 by omega) h5];exact⟨rfl,ba,rfl,rfl⟩)) (fun h5=>⟨?i,(by have h99:o.length<=99:=hp.2.1;exact⟨rfl,by rw[b3];omega⟩),rfl,?j,fun h6=>(by rw[Dw (x:=((r,o,()),d)) (aQ.1 h0) (show ¬0<=eB o e.1 by omega) h5];exact⟨rfl,ba,rfl,rfl⟩)⟩))⟩⟩)⟩
 case a|b|f|g|i=>omega
 case c|d|j=>simp_all
 case e=>
  have ho:=xI q_0 h1;subst ho;rw[Dw (x:=((r,[],()),d)) (aQ.1 h0) (o3 _) (show ¬((([]:List (D aC)).length:Int)=3)from by decide)];exact⟨rfl,ba,rfl,rfl⟩
 case h=>refine⟨?_,hp.2.2.1,hp.2.2.2.1,hp.2.2.2.2⟩;rw[en];exact b5 hp.2.1 (by decide)
def Tryz.TM:bZ Tryz.prog Tryz.B.eT Tryz.X 17 false (aY Tryz.cF [.obj 0,.d aC] (fun a x=>(a.1.2.1.length<=1000000/\a.1.2.2.1.length<=1000000)/\x.1.2.1.length<=99/\0<=(x.1.1:Int)/\(x.1.1:Int)<=1000000000/\cZ x.2 1000000) Tryz.DE):=
 bG (X:=Tryz.X) Tryz.NY Tryz.func17 (by kernel_rfl) (fun(a:CD [.obj 0,.d aC]) (x:PD Tryz.cF)=>[]) (fun(a:CD [.obj 0,.d aC]) (x:PD Tryz.cF) hw hp=>TL a.1 x.1.1 x.1.2.1 x.2 hw hp)
def Tryz.Q5:List (FuncId×(Bool×aT)):=[(58,Tryz.spZ12),(59,Tryz.spZ13)]
def Tryz.TN:bN Tryz.prog Tryz.B Tryz.X Tryz.Q5:=
 aP (Tryz.DD) (aP (aE Tryz.Fm) (bR Tryz.bQ))
def Tryz.DF:List (Alt Tryz.cF [.obj 0,.d .str]):=[{bO:=Tryz.cF,res:=[.d aC,.d .bool],out:=fun _ x=>x,ret:=fun a x=>((fK x.1.2.1 a.1).1,(fK x.1.2.1 a.1).2,())}]
def WG(s:List UInt8)(r:Int)(o:List (D aC))(d:Dk)(hw:gV [.obj 0,.d .str] (s,()))(hp:(fun _ x=>∀i,i<x.1.2.1.length->(nth aC x.1.2.1 i).2.1.length<=1000000/\(nth aC x.1.2.1 i).2.2.1.length<=1000000) (s,()) ((r,o,()),d)):(cW Tryz.B Tryz.Q5 Tryz.f69 [] Tryz.cF [.obj 0,.d .str] Tryz.DF (s,()) ((r,o,()),d)).holds:=by
 refine holds_of (p:=
  let za:=d.2.2.2.1=d.2.2.2.1
  let zb:=eB o s
  let zc:=((r,o,()),d)
  let zd:=((fK o s).1,(fK o s).2,())
  let ze:=nth aC o (bd zb)
  za/\True/\(True->((decide (zb<0))=true->za/\True/\zc=zc/\(([],[],[],()),false,())=zd)/\((decide (zb<0))=false->(0<=zb/\zb<(↑(bb o):Int))/\(bb ze.2.1<=1000000/\bb ze.2.2.1<=1000000)/\za/\True/\zc=zc/\(ze,true,())=zd))) (by kernel_rfl) ?_
 dsimp -iota -proj -eta only;dsimp only at hp;exact⟨rfl,ba,fun h0=>iL (fun h1=>(by rw[Iq (by omega)];exact⟨rfl,ba,rfl,rfl⟩)) (fun h1=>⟨⟨by omega,(p9 o s).1⟩,(hp _ (by have:=(p9 o s).1;omega)),(by rw[Ln (by omega)];exact⟨rfl,ba,rfl,rfl⟩)⟩)⟩
def Tryz.WH:bZ Tryz.prog Tryz.B.eT Tryz.X 69 false (aY Tryz.cF [.obj 0,.d .str] (fun _ x=>∀i,i<x.1.2.1.length->(nth aC x.1.2.1 i).2.1.length<=1000000/\(nth aC x.1.2.1 i).2.2.1.length<=1000000) Tryz.DF):=
 bG (X:=Tryz.X) Tryz.TN Tryz.func69 (by kernel_rfl) (fun(a:CD [.obj 0,.d .str]) (x:PD Tryz.cF)=>[]) (fun(a:CD [.obj 0,.d .str]) (x:PD Tryz.cF) hw hp=>WG a.1 x.1.1 x.1.2.1 x.2 hw hp)
def Tryz.spZ15:Bool×aT:=(true,cB [.str] [.int .i64,.err] (fun s=>s.length<=281474976710656) (fun s=>dX s))
def Tryz.spZ16:Bool×aT:=(true,cB [.str,.str] [.str,.bool] (fun _=>True) (fun x=>(cb x.1 x.2,cy x.1 x.2)))
def Tryz.spZ17:Bool×aT:=(true,cB [.str,.str] [.str] (fun _=>True) (fun x=>br x.1 x.2))
def Tryz.spZ18:Bool×aT:=(true,cB [.str,.str] [.slice .str] (fun x=>x.1.length<4294967281/\x.2.length=1) (fun x=>parts (Hu x.2) x.1))
def Tryz.CK:List (FuncId×(Bool×aT)):=[(71,Tryz.spZ3),(125,Tryz.spZ15),(130,Tryz.spZ16),(103,Tryz.spZ17),(102,Tryz.spZ18)]
def Tryz.IX:bN Tryz.prog Tryz.B Tryz.X Tryz.CK:=
 aP (aE Tryz.oT) (aP (aE Tryz.sf) (aP (aE Tryz.nr) (aP (aE Tryz.mq) (aP (aE Tryz.sg) (bR Tryz.bQ)))))
def CL(l:List (List UInt8)):dL:=[
 (0,fun st=>{X:=Nat,inv:=fun i=>i<=l.length/\∀j,j<i->(cP (nth .str l j)).isNone=false,bX:=fun i=>l.length-i,bK:=fun i=>[(11,sI i),(4,.s (.one (.app (.int .i64) (l6 (l.take i)) (bJ st 4))))],aF:=fun i=>[(bJ st 4,.tok (.int .i64) (l6 (l.take i)))],keep:=[9,10],gY:=[bJ st 4]})]
def Km(l:List (List UInt8))(hw:fY [.slice .str] l)(hp:(fun l=>l.length<=1000000/\∀i,(nth .str l i).length<=1000000) l):(cV Tryz.B Tryz.CK Tryz.f104 (CL l) [.slice .str] [.slice (.int .i64),.bool] (fun x y=>y=(fun l=>bS l) x) l).holds:=by
 refine holds_of (p:=
  let za:=bb l
  let zb:=([],false)=bS l
  let zc:=fun(E:Nat)=>l6 (bg E l)
  let zd:=fun(E:Nat)=>zc E++[(dX (nth Ty.str l E)).1]
  za<=aK->(∃(x:Nat),(x<=za/\∀(j:Nat),j<x->ck (cP (nth Ty.str l j))=false)/\(0=(↑x:Int)/\@bc Int=l6 (bg x l)/\True)/\@bc Int=l6 (bg x l)/\True)/\∀E:Nat,(E<=za/\∀(j:Nat),j<E->ck (cP (nth Ty.str l j))=false)->((decide ((↑E:Int)<(↑za:Int)))=true->(0<=(↑E:Int)/\(↑E:Int)<(↑za:Int))/\bb (nth Ty.str l E)<=281474976710656/\((!aM.isNil (dX (nth Ty.str l E)).2)=true->zb)/\((!aM.isNil (dX (nth Ty.str l E)).2)=false->True/\((!bp (dX (nth Ty.str l E)).1 == nth Ty.str l E)=true->zb)/\((!bp (dX (nth Ty.str l E)).1 == nth Ty.str l E)=false->(zc E=zc E/\bb (zc E)+bb [(dX (nth Ty.str l E)).1]<=1000000000)/\(aJ (↑E:Int)->aJ 1->aJ ((↑E:Int)+1)/\∃(x':Nat),(x'<=za/\∀(j:Nat),j<x'->ck (cP (nth Ty.str l j))=false)/\za-x'<za-E/\((↑E:Int)+1=(↑x':Int)/\zd E=l6 (bg x' l)/\True)/\zd E=l6 (bg x' l)/\@bc Int=@bc Int/\True))))/\((decide ((↑E:Int)<(↑za:Int)))=false->(zc E,true)=bS l)) (by kernel_rfl) ?_
 dsimp -iota -proj -eta only;refine fun h0=>⟨(⟨0,⟨b6 _,fun j hj=>absurd hj (cu _)⟩,⟨rfl,rfl,ba⟩,rfl,ba⟩),fun E q_0=>iL (fun h1=>⟨(by omega),(b5 (hp.2 _) (by decide)),iB (fun h2=>(zU (i:=E) (by omega) (by rw[qI,h2];rfl))) (fun h2=>⟨ba,⟨fun h3 =>?a,fun h3=>⟨?b,fun h4 h5=>⟨?c,?d⟩⟩⟩⟩)⟩) (fun h1=>(Ns (i:=E) (by omega) (fun j hj _=>q_0.2 j hj)))⟩
 case a=>
  simp only[bl,reduceCtorEq]at h3;exact zU (i:=E) (by omega) (by rw[qI,decide_eq_false h3];simp)
 case b=>
  simp only[bl,reduceCtorEq]at h3;exact⟨rfl,by unfold l6;simp only[bx,b9,b3];omega⟩
 case c=>
  simp only[bl,reduceCtorEq]at h3;simp only[aJ,aK]at*;omega
 case d=>
  simp only[bl,reduceCtorEq]at h3;exact⟨E+1,⟨by omega,jU q_0.2 (by rw[qI,h2,decide_eq_true h3];rfl)⟩,by omega,⟨by omega,(Cp (by omega)).symm,ba⟩,(Cp (by omega)).symm,(by trivial)⟩
def Tryz.Kn:bT Tryz.prog Tryz.B.eT Tryz.X 104 [.slice .str] [.slice (.int .i64),.bool] (fun l=>l.length<=1000000/\∀i,(nth .str l i).length<=1000000) (fun x y=>y=(fun l=>bS l) x):=
 bW (X:=Tryz.X) Tryz.IX Tryz.func104 (by kernel_rfl) (fun x=>CL x) (fun x hw hp=>Km x hw hp)
def Tryz.Fo:List (FuncId×(Bool×aT)):=[(71,Tryz.spZ3),(125,Tryz.spZ15),(130,Tryz.spZ16),(103,Tryz.spZ17),(102,Tryz.spZ18),(104,(true,cB [.slice .str] [.slice (.int .i64),.bool] (fun l=>l.length<=1000000/\∀i,(nth .str l i).length<=1000000) (fun l=>bS l))),(105,Tryz.spZ7)]
def Tryz.Ko:bN Tryz.prog Tryz.B Tryz.X Tryz.Fo:=
 aP (aE Tryz.oT) (aP (aE Tryz.sf) (aP (aE Tryz.nr) (aP (aE Tryz.mq) (aP (aE Tryz.sg) (aP (aE Tryz.Kn) (aP (aE Tryz.IN) (bR Tryz.bQ)))))))
def Tryz.Fp(s:List UInt8):dL:=[
 (300004,fun st=>{X:=List Int×Bool,inv:=fun y=>q7 (parts 32 (br s [10])) y,bX:=fun _=>0,bK:=fun y=>[(5,sD (.slice (.int .i64)) y.1),(6,sB y.2)],keep:=[0,2,3,4]}),
 (300005,fun st=>{X:=Bool,inv:=fun c=>c=false↔p7 (parts 32 (br s [10])),bX:=fun _=>0,bK:=fun c=>[(69,sB c)],keep:=[0,2,3,4,5]}),
 (300011,fun st=>{X:=List (List UInt8),inv:=fun x=>lj (parts 32 (br s [10])) x (bd (cU (.int .i64) st 8)),bX:=fun _=>0,bK:=fun x=>[(9,sD (.slice .str) x)],keep:=[0,2,3,4,5,7,8,82,83,84,85]}),
 (0,fun st=>{X:=Nat,inv:=fun i=>i<=(bd (nth (.int .i64) (cU (.slice (.int .i64)) st 5) 0))+(bd (nth (.int .i64) (cU (.slice (.int .i64)) st 5) 1)),bX:=fun i=>(bd (nth (.int .i64) (cU (.slice (.int .i64)) st 5) 0))+(bd (nth (.int .i64) (cU (.slice (.int .i64)) st 5) 1))-i,bK:=fun i=>[(83,sI i)],aF:=fun i=>[(bJ st 7,.cells 40 [.d .str (nth .str (parts 32 (br s [10])) 0),.app aG (dW dC (parts 32 (br s [10])) (cg i (bd (nth (.int .i64) (cU (.slice (.int .i64)) st 5) 0)))) (nC st (bJ st 7) 1),.app aS (cQ dC (parts 32 (br s [10])) (bd (nth (.int .i64) (cU (.slice (.int .i64)) st 5) 0)) (i-(bd (nth (.int .i64) (cU (.slice (.int .i64)) st 5) 0)))) (nC st (bJ st 7) 2)]),(nC st (bJ st 7) 1,.tok aG (dW dC (parts 32 (br s [10])) (cg i (bd (nth (.int .i64) (cU (.slice (.int .i64)) st 5) 0))))),(nC st (bJ st 7) 2,.tok aS (cQ dC (parts 32 (br s [10])) (bd (nth (.int .i64) (cU (.slice (.int .i64)) st 5) 0)) (i-(bd (nth (.int .i64) (cU (.slice (.int .i64)) st 5) 0)))))],keep:=[0,2,4,5,7,82],gY:=[bJ st 7,nC st (bJ st 7) 1,nC st (bJ st 7) 2]})]
def Q6(s:List UInt8)(hw:fY [.str] s)(hp:(fun s=>s.length<=100000) s):(cV Tryz.B Tryz.Fo Tryz.f68 (Tryz.Fp s) [.str] [aC,.err] (fun x y=>y=(fun s=>gW s) x) s).holds:=by
 refine holds_of (p:=
  let za:=br s [(10:UInt8)]
  let zb:=parts (32:UInt8) za
  let zc:=bb zb<=aK
  let zd:=(↑(bb zb):Int)
  let ze:=(([],[],[],()),aM.no (4:Int))=gW s
  let zf:=(0:Int)<=(1:Int)
  let zg:=bj 1 (bg 3 zb)
  let zh:=@bc (List UInt8×Int×Int×Unit)=@bc (List UInt8×Int×Int×Unit)
  let zi:=@bc (Int×Int×Int×Unit)=@bc (Int×Int×Int×Unit)
  let zj:=(@bc UInt8=@bc UInt8/\zh/\zi/\True)/\zi/\zh/\True
  let zk:=p7 zb
  let zl:=∃(x':Bool),(x'=false↔zk)/\(true=x'/\True)/\zj
  let zm:=(0:Int)<=(0:Int)
  let zn:=fun(E:List Int×Bool)=>zm/\(0:Int)<(↑(bb E.1):Int)
  let zo:=Ty.int bm
  let zp:=fun(E:List Int×Bool)=>nth zo E.1 0
  let zq:=fun(E:List Int×Bool)=>zf/\(1:Int)<(↑(bb E.1):Int)
  let zr:=fun(E:List Int×Bool)=>nth zo E.1 1
  let zs:=fun(E:List Int×Bool)=>aJ (zp E+zr E)
  let zt:=aJ (3:Int)
  let zu:=fun(F:Int)=>(3:Int)+F
  let zv:=fun(E:List Int×Bool)=>bd (zp E)
  let zw:=fun(E:List Int×Bool)=>zv E+bd (zr E)
  let zx:=nth Ty.str zb 0
  let zy:=zx=zx
  let zz:=fun(G:Nat)=>aJ (↑G:Int)
  let zaa:=fun(G:Nat) (E:List Int×Bool)=>dW dC zb (cg G (zv E))
  let zab:=fun(E:List Int×Bool) (G:Nat)=>cQ dC zb (zv E) (G-zv E)
  let zac:=zi/\zh/\zj
  let zad:=fun(I:List (List UInt8))=>(↑(bb I):Int)
  let zae:=fun(I:List (List UInt8))=>bj 1 (bg (bb I) I)
  let zaf:=fun(I:List (List UInt8))=>(bS (zae I)).1
  let zag:=fun(I:List (List UInt8))=>[(nth Ty.str I 0,nth zo (zaf I) 0,nth zo (zaf I) 1,())]
  let zah:=fun(G:Nat)=>(↑G:Int)+(1:Int)
  let zai:=fun(I:List (List UInt8))=>(bS I).1
  let zaj:=fun(I:List (List UInt8))=>(↑(bb (zai I)):Int)
  let zak:=fun(I:List (List UInt8))=>[(nth zo (zai I) 0,nth zo (zai I) 1,nth zo (zai I) 2,())]
  True/\(bb za<4294967281/\bb [(32:UInt8)]=1)/\(zc->((decide (zd<(3:Int)))=true->ze)/\((decide (zd<(3:Int)))=false->((zf/\(1:Int)<=(3:Int)/\(3:Int)<=zd)/\(bb zg<=1000000/\∀(i:Nat),bb (nth Ty.str zg i)<=1000000)/\∃(x':List Int×Bool),q7 zb x'/\((bS zg).1=x'.1/\(bS zg).2=x'.2/\True)/\zj)/\∀E:List Int×Bool,q7 zb E->(((!E.2)=true->zl)/\((!E.2)=false->zn E/\((decide (zp E<(0:Int)))=true->zl)/\((decide (zp E<(0:Int)))=false->zn E/\((decide (zp E > (6:Int)))=true->zl)/\((decide (zp E > (6:Int)))=false->zq E/\((decide (zr E<(0:Int)))=true->zl)/\((decide (zr E<(0:Int)))=false->zq E/\((decide (zr E > (36:Int)))=true->zl)/\((decide (zr E > (36:Int)))=false->zc->zn E/\zq E/\(aJ (zp E)->aJ (zr E)->zs E/\∀F:Int,F=(3:Int)*(zp E+zr E)->zt->zs E->aJ F/\(zt->aJ F->aJ (zu F)/\∃(x':Bool),(x'=false↔zk)/\((zd != zu F)=x'/\True)/\zj))))))))/\∀F:Bool,(F=false↔zk)->(F=true->ze)/\(F=false->(zm/\(0:Int)<zd)/\zn E/\zq E/\(aJ (zp E)->aJ (zr E)->zs E/\(∃(x:Nat),x<=zw E/\((0:Int)=(↑x:Int)/\True)/\(zy/\@bc (List UInt8×Int×Int×Unit)=dW dC zb (cg x (zv E))/\@bc (Int×Int×Int×Unit)=cQ dC zb (zv E) (x-zv E)/\True)/\@bc (List UInt8×Int×Int×Unit)=dW dC zb (cg x (zv E))/\@bc (Int×Int×Int×Unit)=cQ dC zb (zv E) (x-zv E)/\True)/\∀G:Nat,G<=zw E->((decide ((↑G:Int)<zp E+zr E))=true->(∀I:Int,I=(3:Int)*(↑G:Int)->zt->zz G->aJ I/\(zt->aJ I->aJ (zu I)/\∀K:Int,K=(3:Int)*(↑G:Int)->zt->zz G->aJ K/\(aJ (6:Int)->aJ K->aJ ((6:Int)+K)/\((0:Int)<=zu I/\zu I<=(6:Int)+K/\(6:Int)+K<=zd)/\∃(x':List (List UInt8)),lj zb x' G/\(bj (bd (zu I)) (bg (bd ((6:Int)+K)) zb)=x'/\True)/\(zy/\zaa G E=zaa G E/\zab E G=zab E G/\True)/\zaa G E=zaa G E/\zab E G=zab E G/\zac)))/\∀I:List (List UInt8),lj zb I G->zn E/\((decide ((↑G:Int)<zp E))=true->(zf/\(1:Int)<=zad I/\zad I<=zad I)/\(bb (zae I)<=1000000/\∀(i:Nat),bb (nth Ty.str (zae I) i)<=1000000)/\((!(bS (zae I)).2)=true->ze)/\((!(bS (zae I)).2)=false->(zm/\(0:Int)<zad I)/\(zm/\(0:Int)<(↑(bb (zaf I)):Int))/\(zf/\(1:Int)<(↑(bb (zaf I)):Int))/\(zaa G E=zaa G E/\bb (zaa G E)+bb (zag I)<=1000000000)/\(zz G->aJ (1:Int)->aJ (zah G)/\∃(x':Nat),x'<=zw E/\zw E-x'<zw E-G/\(zah G=(↑x':Int)/\True)/\(zy/\zaa G E++zag I=dW dC zb (cg x' (zv E))/\zab E G=cQ dC zb (zv E) (x'-zv E)/\True)/\zaa G E++zag I=dW dC zb (cg x' (zv E))/\zab E G=cQ dC zb (zv E) (x'-zv E)/\zac)))/\((decide ((↑G:Int)<zp E))=false->(bb I<=1000000/\∀(i:Nat),bb (nth Ty.str I i)<=1000000)/\((!(bS I).2)=true->ze)/\((!(bS I).2)=false->(zm/\(0:Int)<zaj I)/\(zf/\(1:Int)<zaj I)/\((0:Int)<=(2:Int)/\(2:Int)<zaj I)/\(zab E G=zab E G/\bb (zab E G)+bb (zak I)<=1000000000)/\(zz G->aJ (1:Int)->aJ (zah G)/\∃(x':Nat),x'<=zw E/\zw E-x'<zw E-G/\(zah G=(↑x':Int)/\True)/\(zy/\zaa G E=dW dC zb (cg x' (zv E))/\zab E G++zak I=cQ dC zb (zv E) (x'-zv E)/\True)/\zaa G E=dW dC zb (cg x' (zv E))/\zab E G++zak I=cQ dC zb (zv E) (x'-zv E)/\zac))))/\((decide ((↑G:Int)<zp E+zr E))=false->True/\((!aM.isNil (dI (zx,zaa G E,zab E G,())).2)=true->ze)/\((!aM.isNil (dI (zx,zaa G E,zab E G,())).2)=false->((!(dI (zx,zaa G E,zab E G,())).1 == s)=true->ze)/\((!(dI (zx,zaa G E,zab E G,())).1 == s)=false->((zx,zaa G E,zab E G,()),aM.nil)=gW s)))))))) (by kernel_rfl) ?_
 dsimp -iota -proj -eta only;refine⟨ba,(by have:=yx s [10];exact⟨by omega,rfl⟩),fun h0=>iL (fun h1=>(H4 (by omega))) (fun h1=>⟨⟨(by trivial),(Va hp 1 3),(⟨_,Vc (by omega),⟨rfl,rfl,ba⟩,(by trivial)⟩)⟩,fun E q_0=>⟨iB (fun h2=>(⟨_,H3 (q_0.2 h2),⟨rfl,ba⟩,(by trivial)⟩)) (fun h2=>⟨?a,iL (fun h3=>(⟨_,H3 (fun hd=>by have k0:=q_0.k0 hd;have:=hd.a0;omega),⟨rfl,ba⟩,(by trivial)⟩)) (fun h3=>⟨?b,iL (fun h4=>(⟨_,H3 (fun hd=>by have k0:=q_0.k0 hd;have:=hd.a6;omega),⟨rfl,ba⟩,(by trivial)⟩)) (fun h4=>⟨?c,iL (fun h5=>(⟨_,H3 (fun hd=>by have k1:=q_0.k1 hd;have:=hd.b0;omega),⟨rfl,ba⟩,(by trivial)⟩)) (fun h5=>⟨?d,iL (fun h6=>(⟨_,H3 (fun hd=>by have k1:=q_0.k1 hd;have:=hd.fF;omega),⟨rfl,ba⟩,(by trivial)⟩)) (fun h6 h7=>⟨?e,?f,fun h8 h9=>⟨?g,fun F q_1 h10 h11=>⟨?h,fun h12 h13=>⟨?i,(⟨_,Wv (q_0.1 h2).2.1 (q_0.1 h2).2.2 (q_0.l0 h2) (q_0.l1 h2) (by omega) (by omega) (by omega) (by omega) q_1,⟨rfl,ba⟩,(by trivial)⟩)⟩⟩⟩⟩)⟩)⟩)⟩)⟩),fun F q_1=>⟨fun h2=>(J6 (fun hd=>by rw[q_1.2 hd]at h2;cases h2)),fun h2=>⟨(by omega),?j,?k,fun h3 h4=>⟨?l,(⟨0,b6 _,⟨rfl,ba⟩,⟨rfl,P8 _ _ _,Us _ _ _,ba⟩,P8 _ _ _,Us _ _ _,(by trivial)⟩),fun G q_2=>iL (fun h5=>⟨fun I q_3 h6 h7=>⟨?m,fun h8 h9=>⟨?n,fun K q_4 h10 h11=>⟨?o,fun h12 h13=>⟨?p,(by have hd:=(q_1.1 h2);have k0:=q_0.k0 hd;have k1:=q_0.k1 hd;have a0:=hd.a0;have a6:=hd.a6;have b0:=hd.b0;have fF:=hd.fF;have hl:=hd.len;omega),(⟨_,P5 q_3 q_4 (by have hd:=(q_1.1 h2);have k0:=q_0.k0 hd;have k1:=q_0.k1 hd;have a0:=hd.a0;have a6:=hd.a6;have b0:=hd.b0;have fF:=hd.fF;have hl:=hd.len;omega),⟨rfl,ba⟩,(by trivial)⟩)⟩⟩⟩⟩,fun I q_3=>⟨?q,iL (fun h6=>⟨?r,(Nt q_3 (tt hp)),iB (fun h7=>(J7 q_3 (by have hd:=(q_1.1 h2);have k0:=q_0.k0 hd;have k1:=q_0.k1 hd;have a0:=hd.a0;have a6:=hd.a6;have b0:=hd.b0;have fF:=hd.fF;have hl:=hd.len;omega) h7)) (fun h7=>⟨?s,?t,?u,⟨rfl,J8 (by have hd:=(q_1.1 h2);have k0:=q_0.k0 hd;have k1:=q_0.k1 hd;have a0:=hd.a0;have a6:=hd.a6;have b0:=hd.b0;have fF:=hd.fF;have hl:=hd.len;omega)⟩,fun h8 h9=>⟨?v,(by exact⟨G+1,by have hd:=(q_1.1 h2);have k0:=q_0.k0 hd;have k1:=q_0.k1 hd;have a0:=hd.a0;have a6:=hd.a6;have b0:=hd.b0;have fF:=hd.fF;have hl:=hd.len;omega,by have hd:=(q_1.1 h2);have k0:=q_0.k0 hd;have k1:=q_0.k1 hd;have a0:=hd.a0;have a6:=hd.a6;have b0:=hd.b0;have fF:=hd.fF;have hl:=hd.len;omega,⟨by omega,ba⟩,⟨rfl,EV q_3 h7 (by have hd:=(q_1.1 h2);have k0:=q_0.k0 hd;have k1:=q_0.k1 hd;have a0:=hd.a0;have a6:=hd.a6;have b0:=hd.b0;have fF:=hd.fF;have hl:=hd.len;omega),EW (by have hd:=(q_1.1 h2);have k0:=q_0.k0 hd;have k1:=q_0.k1 hd;have a0:=hd.a0;have a6:=hd.a6;have b0:=hd.b0;have fF:=hd.fF;have hl:=hd.len;omega),ba⟩,EV q_3 h7 (by have hd:=(q_1.1 h2);have k0:=q_0.k0 hd;have k1:=q_0.k1 hd;have a0:=hd.a0;have a6:=hd.a6;have b0:=hd.b0;have fF:=hd.fF;have hl:=hd.len;omega),EW (by have hd:=(q_1.1 h2);have k0:=q_0.k0 hd;have k1:=q_0.k1 hd;have a0:=hd.a0;have a6:=hd.a6;have b0:=hd.b0;have fF:=hd.fF;have hl:=hd.len;omega),(by trivial)⟩)⟩⟩)⟩) (fun h6=>⟨(P6 q_3 (tt hp)),iB (fun h7=>(H7 q_3 (by have hd:=(q_1.1 h2);have k0:=q_0.k0 hd;have k1:=q_0.k1 hd;have a0:=hd.a0;have a6:=hd.a6;have b0:=hd.b0;have fF:=hd.fF;have hl:=hd.len;omega) (by have hd:=(q_1.1 h2);have k0:=q_0.k0 hd;have k1:=q_0.k1 hd;have a0:=hd.a0;have a6:=hd.a6;have b0:=hd.b0;have fF:=hd.fF;have hl:=hd.len;omega) h7)) (fun h7=>⟨?w,?x,?y,⟨rfl,Qa (by have hd:=(q_1.1 h2);have k0:=q_0.k0 hd;have k1:=q_0.k1 hd;have a0:=hd.a0;have a6:=hd.a6;have b0:=hd.b0;have fF:=hd.fF;have hl:=hd.len;omega)⟩,fun h8 h9=>⟨?z,(by exact⟨G+1,by have hd:=(q_1.1 h2);have k0:=q_0.k0 hd;have k1:=q_0.k1 hd;have a0:=hd.a0;have a6:=hd.a6;have b0:=hd.b0;have fF:=hd.fF;have hl:=hd.len;omega,by have hd:=(q_1.1 h2);have k0:=q_0.k0 hd;have k1:=q_0.k1 hd;have a0:=hd.a0;have a6:=hd.a6;have b0:=hd.b0;have fF:=hd.fF;have hl:=hd.len;omega,⟨by omega,ba⟩,⟨rfl,Cs (by have hd:=(q_1.1 h2);have k0:=q_0.k0 hd;have k1:=q_0.k1 hd;have a0:=hd.a0;have a6:=hd.a6;have b0:=hd.b0;have fF:=hd.fF;have hl:=hd.len;omega),H9 q_3 h7 (by have hd:=(q_1.1 h2);have k0:=q_0.k0 hd;have k1:=q_0.k1 hd;have a0:=hd.a0;have a6:=hd.a6;have b0:=hd.b0;have fF:=hd.fF;have hl:=hd.len;omega),ba⟩,Cs (by have hd:=(q_1.1 h2);have k0:=q_0.k0 hd;have k1:=q_0.k1 hd;have a0:=hd.a0;have a6:=hd.a6;have b0:=hd.b0;have fF:=hd.fF;have hl:=hd.len;omega),H9 q_3 h7 (by have hd:=(q_1.1 h2);have k0:=q_0.k0 hd;have k1:=q_0.k1 hd;have a0:=hd.a0;have a6:=hd.a6;have b0:=hd.b0;have fF:=hd.fF;have hl:=hd.len;omega),(by trivial)⟩)⟩⟩)⟩)⟩⟩) (fun h5=>⟨ba,iB (fun h6 =>?a0) (fun h6=>⟨fun h7 =>?a1,fun h7 =>?a2⟩)⟩)⟩⟩⟩⟩⟩)⟩
 case a|b|c|d|e|f=>rw[(q_0.1 h2).1];simp
 case g|h|i|v=>simp only[aJ,aK]at*;omega
 case j|k|q=>rw[q_0.get (q_1.1 h2)];simp
 case l|m|n|o|p|z=>have hd:=(q_1.1 h2);have k0:=q_0.k0 hd;have k1:=q_0.k1 hd;have a0:=hd.a0;have a6:=hd.a6;have b0:=hd.b0;have fF:=hd.fF;have hl:=hd.len;simp only[aJ]at*;omega
 case r|s=>rw[q_3.len];simp
 case t|u=>rw[EU q_3 h7];simp
 case w|x|y=>rw[H6 q_3 h7];simp
 case a0=>
  rw[Ia (a:=bd (nth (.int .i64) E.1 0)) (b:=bd (nth (.int .i64) E.1 1)) (by have hd:=(q_1.1 h2);have k0:=q_0.k0 hd;have k1:=q_0.k1 hd;have a0:=hd.a0;have a6:=hd.a6;have b0:=hd.b0;have fF:=hd.fF;have hl:=hd.len;omega)]at h6;exact zX (by have hd:=(q_1.1 h2);have k0:=q_0.k0 hd;have k1:=q_0.k1 hd;have a0:=hd.a0;have a6:=hd.a6;have b0:=hd.b0;have fF:=hd.fF;have hl:=hd.len;omega) (by have hd:=(q_1.1 h2);have k0:=q_0.k0 hd;have k1:=q_0.k1 hd;have a0:=hd.a0;have a6:=hd.a6;have b0:=hd.b0;have fF:=hd.fF;have hl:=hd.len;omega) (.inl h6)
 case a1=>
  simp only[bl,reduceCtorEq]at h7;rw[Ia (a:=bd (nth (.int .i64) E.1 0)) (b:=bd (nth (.int .i64) E.1 1)) (by have hd:=(q_1.1 h2);have k0:=q_0.k0 hd;have k1:=q_0.k1 hd;have a0:=hd.a0;have a6:=hd.a6;have b0:=hd.b0;have fF:=hd.fF;have hl:=hd.len;omega)]at h7;exact zX (by have hd:=(q_1.1 h2);have k0:=q_0.k0 hd;have k1:=q_0.k1 hd;have a0:=hd.a0;have a6:=hd.a6;have b0:=hd.b0;have fF:=hd.fF;have hl:=hd.len;omega) (by have hd:=(q_1.1 h2);have k0:=q_0.k0 hd;have k1:=q_0.k1 hd;have a0:=hd.a0;have a6:=hd.a6;have b0:=hd.b0;have fF:=hd.fF;have hl:=hd.len;omega) (.inr h7)
 case a2=>
  simp only[bl,reduceCtorEq]at h7;exact P2 h6 h7
def Tryz.Q7:bT Tryz.prog Tryz.B.eT Tryz.X 68 [.str] [aC,.err] (fun s=>s.length<=100000) (fun x y=>y=(fun s=>gW s) x):=
 bW (X:=Tryz.X) Tryz.Ko Tryz.func68 (by kernel_rfl) (fun x=>Tryz.Fp x) (fun x hw hp=>Q6 x hw hp)
def Tryz.VJ:bT Tryz.prog Tryz.B.eT Tryz.X 101 [.str,.str,.int .i64,.int .i64] [.slice .str] (fun x=>x.1.length<4294967281/\x.2.1.length=1/\x.2.2.1=(1:Int)/\x.2.2.2=(-1:Int)) (fun x y=>y=dM (Hu x.2.1) x.1):=by
 refine⟨⟨Tryz.f101,Tryz.func101,by kernel_rfl,by kernel_rfl⟩,fun O w x vs hG hO ha hp =>?_⟩;obtain⟨s,p,sv,n⟩:=x;obtain⟨hs,hp,hsv,hn⟩:=hp;obtain⟨c,rfl⟩:∃c,p=[c]:=dn.1 hp
 obtain⟨v,vs',rfl,hv,u,vs2,rfl,hu,t,vs3,rfl,ht,z,hz⟩:=ha;obtain⟨rfl,hz⟩:=hz;obtain⟨rfl,hl⟩:=nQ hv;obtain⟨rfl,_⟩:=nQ hu;have et:t=.int .i64 1:=by obtain⟨e,_⟩:=ht.one rfl;simp at e;rw[e,show sv=(1:Int)from hsv]
 have ez:z=.int .i64 (-1):=by obtain⟨e,_⟩:=hz.one rfl;simp at e;rw[e,show n=(-1:Int)from hn]
 subst et;subst ez;obtain⟨m,hm⟩:=hG.max;have hsz:(⟨s.toArray⟩:ByteArray).size=s.length:=by simp[dd]
 have h1:1<=(⟨#[c]⟩:ByteArray).size:=b8 1;have hlen:=ed ⟨#[c]⟩ h1 1 _ ⟨s.toArray⟩ rfl;have hdat:=ee ⟨#[c]⟩ 1 (bq ⟨s.toArray⟩ ⟨#[c]⟩) ⟨s.toArray⟩;have hcb:=Lib.countB_le ⟨#[c]⟩ h1 _ ⟨s.toArray⟩ (b8 _);have hcall:Calls Tryz.prog 101 #[.string ⟨s.toArray⟩,.string ⟨#[c]⟩,.int .i64 1,.int .i64 (-1)] w fun e w'=>
   e=.returned (.slice (some ⟨w.heap.size,0,none⟩) (b7 ⟨#[c]⟩ 1 (bq ⟨s.toArray⟩ ⟨#[c]⟩ +1-1) ⟨s.toArray⟩).length (bq ⟨s.toArray⟩ ⟨#[c]⟩ +1))/\w'=w.alloc (.cells (Lib.cellsOf (b7 ⟨#[c]⟩ 1 (bq ⟨s.toArray⟩ ⟨#[c]⟩ +1-1) ⟨s.toArray⟩) (bq ⟨s.toArray⟩ ⟨#[c]⟩ +1)) 9):=Any.strings_genSplit {Tryz.Lt with} (by kernel_rfl) ⟨s.toArray⟩ ⟨#[c]⟩ 1 (-1) (bq ⟨s.toArray⟩ ⟨#[c]⟩ +1) m w (by rw[hsz];exact hs) hm h1 (b8 1) (by decide) (by decide) (by rw[if_pos (by decide)];omega)
 rw[Nat.add_sub_cancel,hlen]at hcall;have e2:Lib.cellsOf (b7 ⟨#[c]⟩ 1 (bq ⟨s.toArray⟩ ⟨#[c]⟩) ⟨s.toArray⟩) (bq ⟨s.toArray⟩ ⟨#[c]⟩ +1)=((b7 ⟨#[c]⟩ 1 (bq ⟨s.toArray⟩ ⟨#[c]⟩) ⟨s.toArray⟩).map cn).toArray:=by rw[<-hlen];exact Lib.cellsOf_full _
 rw[e2]at hcall;refine hcall.mono ?_;rintro e w' ⟨rfl,rfl⟩;have hd:(b7 ⟨#[c]⟩ 1 (bq ⟨s.toArray⟩ ⟨#[c]⟩) ⟨s.toArray⟩).map (·.data.toList)=dM c s:=hdat;have hlf:(dM c s).length=bq ⟨s.toArray⟩ ⟨#[c]⟩ +1:=by rw[<-hd,bx,hlen]
 refine⟨[_],dM c s,rfl,rfl,⟨_,rfl,VR.cG rfl ⟨_,rfl,?_,.inr ⟨w.heap.size,0,bq ⟨s.toArray⟩ ⟨#[c]⟩ +1,by rw[hlf],by rw[hlf];exact b8 _,fun i y hy =>?_⟩⟩⟩,(Vg.Below.refl _ w).alloc (b8 _) _⟩
 ·rw[hlf];have hs:s.length<4294967281:=hs;rw[hsz]at hcb;unfold aK;omega
 ·have hyl:=E5 c s y (ef hy)
  refine⟨[.string ⟨y.toArray⟩],⟨rfl,b5 hyl hl⟩,fun j u hj=>⟨?_,fun hh =>?_⟩⟩
  ·have hj0:j=0:=by
    rcases j with _|j
    ·rfl
    ·simp at hj
   subst hj0;simp at hj;subst hj;rw[<-hd,List.getElem?_map,cz]at hy;obtain⟨q,hq,rfl⟩:=hy;have hh:(w.alloc (.cells ((b7 ⟨#[c]⟩ 1 (bq ⟨s.toArray⟩ ⟨#[c]⟩) ⟨s.toArray⟩).map cn).toArray 9)).heap[w.heap.size]?=some (.cells ((b7 ⟨#[c]⟩ 1 (bq ⟨s.toArray⟩ ⟨#[c]⟩) ⟨s.toArray⟩).map cn).toArray 9 (0,0)):=heap_alloc_new w _;rw[cc hh];simp only[Ty.size,Nat.mul_one,Nat.zero_add,dp,List.getElem?_toArray,List.getElem?_map,hq,eg]
  ·have:=hO _ _ hh
   simp at this
def Tryz.vX:List (FuncId×(Bool×aT)):=[(101,(true,cB [.str,.str,.int .i64,.int .i64] [.slice .str] (fun x=>x.1.length<4294967281/\x.2.1.length=1/\x.2.2.1=(1:Int)/\x.2.2.2=(-1:Int)) (fun x=>dM (Hu x.2.1) x.1)))]
def Tryz.CM:bN Tryz.prog Tryz.B Tryz.X Tryz.vX:=
 aP (aE Tryz.VJ) (bR Tryz.bQ)
def DG(s:List UInt8)(p:List UInt8)(hw:fY [.str,.str] (s,p))(hp:(fun x=>x.1.length<4294967281/\x.2.length=1) (s,p)):(cV Tryz.B Tryz.vX Tryz.f67 [] [.str,.str] [.slice .str] (fun x y=>y=(fun x=>dM (Hu x.2) x.1) x) (s,p)).holds:=by
 refine holds_of (p:=
  let za:=bb p
  let zb:=dM (List.rec 0 (fun(head:UInt8) (tail:List UInt8) (tail_ih:UInt8)=>head) p) s
  za<=aK->(bb s<4294967281/\za=1/\(↑za:Int)=1/\(-1:Int)=(-1:Int))/\zb=zb) (by kernel_rfl) ?_
 dsimp -iota -proj -eta only;dsimp only at hp;exact fun h0=>⟨(by omega),rfl⟩
def Tryz.DH:bT Tryz.prog Tryz.B.eT Tryz.X 67 [.str,.str] [.slice .str] (fun x=>x.1.length<4294967281/\x.2.length=1) (fun x y=>y=(fun x=>dM (Hu x.2) x.1) x):=
 bW (X:=Tryz.X) Tryz.CM Tryz.func67 (by kernel_rfl) (fun _=>[]) (fun x hw hp=>DG x.1 x.2 hw hp)
def Tryz.spZ19:Bool×aT:=(false,aY Tryz.bD [.obj 0] (fun _ _=>True) Tryz.tw)
def Tryz.Fq:List (FuncId×(Bool×aT)):=[(64,Tryz.spZ19),(90,Tryz.spZ9),(91,Tryz.spZ10),(92,Tryz.spZ8)]
def Tryz.Kp:bN Tryz.prog Tryz.B Tryz.X Tryz.Fq:=
 aP (Tryz.tx) (aP (Tryz.xR) (aP (Tryz.xT) (aP (aE Tryz.IT) (bR Tryz.bQ))))
def Tryz.vH:List (Alt Tryz.bD [.obj 0]):=[{bO:=Tryz.bD,res:=[.d .err],out:=fun _ x=>(iR x).1,ret:=fun _ x=>(aI (iR x).2,())}]
def Q8(d:Dk)(hw:gV [.obj 0] ())(hp:(fun _ x=>cZ x 1000000) () d):(cW Tryz.B Tryz.Fq Tryz.f55 [] Tryz.bD [.obj 0] Tryz.vH () d).holds:=by
 refine holds_of (p:=
  let za:=d.2.2.2.1
  let zb:=za=za
  let zc:=(iR d).1
  let zd:=(aI (iR d).2,())
  let ze:=(-1:Int)
  let zf:=bL d 1 (@bc UInt8)
  let zg:=aM.isNil (aI zf.2)
  let zh:=zf.1.2.2.2.1
  let zi:=zh=zh
  let zj:=ze<=zf.1.1.1
  let zk:=zj/\bb zf.1.2.1=bb zf.1.2.2.1
  let zl:=aI (bP zf.1).2
  let zm:=(bP zf.1).1
  let zn:=zm.2.2.2.1
  let zo:=zn=zn
  let zp:=ze<=zm.1.1
  let zq:=fJ 2 0
  let zr:=bL zm 0 zq
  let zs:=zr.1.2.2.2.1
  let zt:=(bP zr.1).1
  let zu:=(bP zm).1.2.2.2.1
  let zv:=zo/\True/\zm=zc/\(zl,())=zd
  let zw:=bL zf.1 0 zq
  let zx:=zw.1.2.2.2.1
  let zy:=(bP zw.1).1
  zb/\True/\(True->((decide ((↑(bb d.2.2.1):Int)<112))=true->zb/\True/\d=zc/\(aM.no 8,())=zd)/\((decide ((↑(bb d.2.2.1):Int)<112))=false->zb/\(ze<=d.1.1/\bb za<=900000000)/\(True->(zg=true->zi/\zk/\(True->((aM.isNil zl)=true->True/\zo/\(zp/\bb zn<=900000000)/\(True->((aM.isNil (aI zr.2))=true->zs=zs/\(ze<=zr.1.1.1/\bb zr.1.2.1=bb zr.1.2.2.1)/\(True->zt.2.2.2.1=zt.2.2.2.1/\True/\zt=zc/\(aI (bP zr.1).2,())=zd))/\((aM.isNil (aI zr.2))=false->zs=zs/\True/\zr.1=zc/\(aI zr.2,())=zd)))/\((aM.isNil zl)=false->((aM.isNil zl)=true->zo/\(zp/\bb zm.2.1=bb zm.2.2.1)/\(True->zu=zu/\True/\(bP zm).1=zc/\(aI (bP zm).2,())=zd))/\((aM.isNil zl)=false->zv))))/\(zg=false->(zg=true->True/\zi/\(zj/\bb zh<=900000000)/\(True->((aM.isNil (aI zw.2))=true->zx=zx/\(ze<=zw.1.1.1/\bb zw.1.2.1=bb zw.1.2.2.1)/\(True->zy.2.2.2.1=zy.2.2.2.1/\True/\zy=zc/\(aI (bP zw.1).2,())=zd))/\((aM.isNil (aI zw.2))=false->zx=zx/\True/\zw.1=zc/\(aI zw.2,())=zd)))/\(zg=false->(zg=true->zi/\zk/\(True->zv))/\(zg=false->zi/\True/\zf.1=zc/\(aI zf.2,())=zd))))))) (by kernel_rfl) ?_
 dsimp -iota -proj -eta only;refine⟨rfl,ba,fun h0=>iL (fun h1=>(by rw[ma,Vh h1];exact⟨rfl,ba,rfl,rfl⟩)) (fun h1=>⟨rfl,⟨hp.l8,b5 hp.mJ (by decide)⟩,fun h2=>⟨fun h3=>⟨rfl,(by have f:=l9 hp 1 [];exact⟨f.l8,f.len⟩),fun h4=>⟨fun h5=>⟨ba,rfl,(by have f:=rn (l9 hp 1 []);exact⟨f.l8,b5 f.mJ (by decide)⟩),fun h6=>⟨fun h7=>⟨rfl,(by have f:=l9 (rn (l9 hp 1 [])) 0 (fJ 2 0);exact⟨f.l8,f.len⟩),fun h8=>(by rw[ma,W8 (by omega) (aQ.1 h3) (aQ.1 h5) (aQ.1 h7)];exact⟨rfl,ba,rfl,rfl⟩)⟩,fun h7=>(by rw[ma,W7 (by omega) (aQ.1 h3) (aQ.1 h5) (dZ h7)];exact⟨rfl,ba,rfl,rfl⟩)⟩⟩,fun h5=>⟨fun h6=>⟨rfl,?a,fun h7 =>?b⟩,fun h6=>(by rw[ma,W6 (by omega) (aQ.1 h3) (dZ h5)];exact⟨rfl,ba,rfl,rfl⟩)⟩⟩⟩,fun h3=>⟨fun h4=>⟨ba,rfl,?c,fun h5=>⟨fun h6=>⟨rfl,?d,fun h7 =>?e⟩,fun h6 =>?f⟩⟩,fun h4=>⟨fun h5=>⟨rfl,?g,fun h6 =>?h⟩,fun h5=>(by rw[ma,W5 (by omega) (dZ h3)];exact⟨rfl,ba,rfl,rfl⟩)⟩⟩⟩⟩)⟩
 case a|b|c|d|e|f|g|h=>simp_all
def Tryz.Q9:bZ Tryz.prog Tryz.B.eT Tryz.X 55 false (aY Tryz.bD [.obj 0] (fun _ x=>cZ x 1000000) Tryz.vH):=
 bG (X:=Tryz.X) Tryz.Kp Tryz.func55 (by kernel_rfl) (fun(a:CD [.obj 0]) (x:PD Tryz.bD)=>[]) (fun(a:CD [.obj 0]) (x:PD Tryz.bD) hw hp=>Q8 x hw hp)
def Tryz.spZ20:Bool×aT:=(false,aY Tryz.bD [.obj 0] (fun _ _=>True) Tryz.A9)
def Tryz.Lz:List (FuncId×(Bool×aT)):=[(63,Tryz.spZ20),(64,Tryz.spZ19),(65,(false,gx Tryz.B [] Tryz.f65 [])),(66,(true,mW [.str] [.int .i64] (fun s=>4<=s.length) (fun s y=>(y:Int)=iP s))),(67,(true,cB [.str,.str] [.slice .str] (fun x=>x.1.length<4294967281/\x.2.length=1) (fun x=>dM (Hu x.2) x.1))),(68,(true,cB [.str] [aC,.err] (fun s=>s.length<=100000) (fun s=>gW s)))]
def Tryz.Ra:bN Tryz.prog Tryz.B Tryz.X Tryz.Lz:=
 aP (Tryz.IS) (aP (Tryz.tx) (aP (eP (bR Tryz.bQ) Tryz.func65 (by kernel_rfl) []) (aP (fD Tryz.Q1) (aP (aE Tryz.DH) (aP (aE Tryz.Q7) (bR Tryz.bQ))))))
def Tryz.LA(d:Dk):dL:=[
 (0,fun st=>{X:=Nat,inv:=fun i=>i<=2,bX:=fun i=>2-i,bK:=fun i=>[(29,sI i),(5,sI (eH d i).2)],aF:=fun i=>[(bJ st 4,.cells 126 [.ref 0 0,.d (.int .i64) (eH d i).1,.app aC [] (nC st (bJ st 4) 2)])],keep:=[0,4],gY:=[bJ st 4]}),
 (2,fun st=>{X:=Nat,inv:=fun i=>i<=55,bX:=fun i=>55-i,bK:=fun i=>[(74,sI i),(11,sS (jo d (kT d) i))],keep:=[0,4,5]}),
 (4,fun st=>{X:=Nat,inv:=fun i=>i<=bb (dK d)/\∀j,j<i->nth .str (dK d) j=[]\/(gW (nth .str (dK d) j)).2.isNil=true,bX:=fun i=>bb (dK d)-i,bK:=fun i=>[(103,sI i)],aF:=fun i=>[(bJ st 4,.cells 126 [.ref 0 0,.d (.int .i64) (eH d 2).1,.app aC (kj ((dK d).take i)) (nC st (bJ st 4) 2)]),(nC st (bJ st 4) 2,.tok aC (kj ((dK d).take i)))],keep:=[4,101,102],gY:=[bJ st 4,nC st (bJ st 4) 2]})]
def Tryz.Bd:List (Alt Tryz.bD [.obj 0]):=[
 {bO:=Tryz.bD,res:=[.gX,.d .err],ok:=fun _ x=>(dP x).2≠0,out:=fun _ x=>x,ret:=fun _ x=>(aI (dP x).2,())},
 {bO:=Tryz.bD++[.box 126 [.obj 0,.d (.int .i64),.d (.slice aC)]],res:=[.obj 4,.d .err],ok:=fun _ x=>(dP x).2=0,out:=fun _ x=>(x.1,x.2.1,x.2.2.1,x.2.2.2.1,((dP x).1.1,(dP x).1.2,()),()),ret:=fun _ _=>(aM.nil,())}]
def VK(d:Dk)(hw:gV [.obj 0] ())(hp:(fun _ x=>cZ x 1000000/\∀i,i<x.2.2.1.length->(nth .str x.2.2.1 i).length=64) () d):(cW Tryz.B Tryz.Lz Tryz.f23 (Tryz.LA d) Tryz.bD [.obj 0] Tryz.Bd () d).holds:=by
 refine holds_of (p:=
  let za:=d.2.2.2.1
  let zb:=za=za
  let zc:=d.1.2.1
  let zd:=(dP d).2
  let ze:=zd≠(0:Int)
  let zf:=d=d
  let zg:=(aI zd,())
  let zh:=zb/\ze/\zf/\(aM.no (9:Int),())=zg
  let zi:=d.2.2.1
  let zj:=bb zi
  let zk:=(↑zj:Int)
  let zl:=zb/\ze/\zf/\(aM.no (4:Int),())=zg
  let zm:=C.ref 0 0
  let zn:=zm=zm
  let zo:=@bc (List UInt8×List (List UInt8×Int×Int×Unit)×List (Int×Int×Int×Unit)×Unit)=@bc (List UInt8×List (List UInt8×Int×Int×Unit)×List (Int×Int×Int×Unit)×Unit)
  let zp:=zo/\True
  let zq:=fun(E:Nat)=>(↑E:Int)
  let zr:=!aM.isNil (aM.no (9:Int))
  let zs:=(0:Int)<=(1:Int)
  let zt:=(1:Int)<=(5:Int)
  let zu:=bb (@bc UInt8)
  let zv:=(↑zu:Int)
  let zw:=(0:Int)<=(5:Int)
  let zx:=(5:Int)<=(9:Int)
  let zy:=bj 1 (bg 5 (@bc UInt8))
  let zz:=bj 5 (bg 9 (@bc UInt8))
  let zaa:=(0:Int)<=(0:Int)
  let zab:=fun(E:Nat)=>(eH d E).1
  let zac:=fun(E:Nat)=>aJ (zq E)
  let zad:=aJ (1:Int)
  let zae:=fun(E:Nat)=>zq E+(1:Int)
  let zaf:=fun(E:Nat)=>aJ (zae E)
  let zag:=d.2.1
  let zah:=(C.aV 1=C.aV 1/\C.aV 2=C.aV 2/\zb/\d.1.1=d.1.1/\zc=zc/\True)/\zag=zag/\zi=zi/\zb/\True
  let zai:=zo/\zah
  let zaj:=fun(E:Nat)=>zac E->zad->zaf E/\∃(x':Nat),x'<=2/\2-x'<2-E/\(zae E=(↑x':Int)/\(eH d E).2=(eH d x').2/\True)/\(zn/\zab E=(eH d x').1/\zp)/\zai
  let zak:=fun(F:Int) (E:Nat) (G:Int)=>((decide (F > zab E))=true->((decide (G<=(3520:Int)))=true->zac E->zad->zaf E/\∃(x':Nat),x'<=2/\2-x'<2-E/\(zae E=(↑x':Int)/\G=(eH d x').2/\True)/\(zn/\F=(eH d x').1/\zp)/\zai)/\((decide (G<=(3520:Int)))=false->zaj E))/\((decide (F > zab E))=false->zaj E)
  let zal:=fun(E:Nat)=>(zs/\zt/\(5:Int)<=zv)/\(zw/\zx/\(9:Int)<=zv)/\4<=bb zy/\∀F:Int,F=iP zy->4<=bb zz/\∀G:Int,G=iP zz->(zaa/\(0:Int)<zv)/\(((↑(b4 (dH (@bc UInt8) 0)):Int) == (83:Int))=true->zak F E G)/\(((↑(b4 (dH (@bc UInt8) 0)):Int) == (83:Int))=false->zaj E)
  let zam:=!aM.isNil (aM.no (1:Int))
  let zan:=zb/\ze/\zf/\(aM.no (1:Int),())=zg
  let zao:=fun(E:Nat)=>(zam=true->zan)/\(zam=false->zal E)
  let zap:=!aM.isNil aM.nil
  let zaq:=zb/\ze/\zf/\(aM.nil,())=zg
  let zar:=fun(E:Nat)=>nth Ty.str zi E
  let zas:=fun(E:Nat)=>(↑(bb (zar E)):Int)
  let zat:=fun(E:Nat)=>bj 1 (bg 5 (zar E))
  let zau:=fun(E:Nat)=>bj 5 (bg 9 (zar E))
  let zav:=kT d
  let zaw:=fun(I:Int) (F:Nat)=>(2:Int)+I+zq F
  let zax:=fun(F:Nat)=>jo d zav F
  let zay:=fun(E:Nat)=>(zn/\zab E=zab E/\zp)/\zai
  let zaz:=fun(F:Nat) (E:Nat)=>bb (zax F)+zu<=aK/\(zac F->zad->zaf F/\∃(x':Nat),x'<=55/\55-x'<55-F/\(zae F=(↑x':Int)/\zax F++ @bc UInt8=jo d zav x'/\True)/\zay E)
  let zba:=fun(F:Nat) (E:Nat)=>(zam=true->zan)/\(zam=false->zaz F E)
  let zbb:=fun(E F:Nat)=>bj 0 (bg (bd (eH d E).2) (zax F))
  let zbc:=dK d
  let zbd:=bb zbc
  let zbe:=(eH d 2).1
  let zbf:=fun(E F G:Nat)=>nth Ty.str (dM (10:UInt8) (zbb E F)) G
  let zbg:=fun(G:Nat)=>kj (bg G zbc)
  zb/\True/\(True->(zc=true->zh)/\(zc=false->zb/\True/\(True->((decide (zk<(112:Int)))=true->zl)/\((decide (zk<(112:Int)))=false->(∃(x:Nat),x<=2/\((0:Int)=(↑x:Int)/\(0:Int)=(eH d x).2/\True)/\(zn/\(0:Int)=(eH d x).1/\zp)/\True)/\∀E:Nat,E<=2->((decide (zq E<(2:Int)))=true->(zc=true->(zr=true->zh)/\(zr=false->zal E))/\(zc=false->((decide (zq E<(0:Int)))=true->zao E)/\((decide (zq E<(0:Int)))=false->zj<=aK->((decide (zq E>=zk))=true->zao E)/\((decide (zq E>=zk))=false->((0:Int)<=zq E/\zq E<zk)/\E<zj/\(zap=true->zaq)/\(zap=false->(zs/\zt/\(5:Int)<=zas E)/\(zw/\zx/\(9:Int)<=zas E)/\4<=bb (zat E)/\∀F:Int,F=iP (zat E)->4<=bb (zau E)/\∀G:Int,G=iP (zau E)->(zaa/\(0:Int)<zas E)/\(((↑(b4 (dH (zar E) 0)):Int) == (83:Int))=true->zak F E G)/\(((↑(b4 (dH (zar E) 0)):Int) == (83:Int))=false->zaj E))))))/\((decide (zq E<(2:Int)))=false->((zab E == (0:Int))=true->zl)/\((zab E == (0:Int))=false->(∃(x:Nat),x<=55/\((0:Int)=(↑x:Int)/\@bc UInt8=jo d zav x/\True)/\True)/\∀F:Nat,F<=55->((decide (zq F<(55:Int)))=true->(2:Int)≠(0:Int)/\∀G:Int,G=db (zab E) (2:Int)->∀I:Int,I=G*(55:Int)->aJ G->aJ (55:Int)->aJ I/\(aJ (2:Int)->aJ I->aJ ((2:Int)+I)/\(aJ ((2:Int)+I)->zac F->aJ (zaw I F)/\(zc=true->(zr=true->zh)/\(zr=false->zaz F E))/\(zc=false->((decide (zaw I F<(0:Int)))=true->zba F E)/\((decide (zaw I F<(0:Int)))=false->zj<=aK->((decide (zaw I F>=zk))=true->zba F E)/\((decide (zaw I F>=zk))=false->((0:Int)<=zaw I F/\zaw I F<zk)/\bd (zaw I F)<zj/\(zap=true->zaq)/\(zap=false->bb (zax F)+bb (nth Ty.str zi (bd (zaw I F)))<=aK/\(zac F->zad->zaf F/\∃(x':Nat),x'<=55/\55-x'<55-F/\(zae F=(↑x':Int)/\zax F++nth Ty.str zi (bd (zaw I F))=jo d zav x'/\True)/\zay E))))))))/\((decide (zq F<(55:Int)))=false->(zaa/\(0:Int)<=(eH d E).2/\(eH d E).2<=(↑(bb (zax F)):Int))/\(bb (zbb E F)<4294967281/\bb [(10:UInt8)]=1)/\(bb (dM (10:UInt8) (zbb E F))<=aK->(∃(x:Nat),(x<=zbd/\∀(j:Nat),j<x->nth Ty.str zbc j=@bc UInt8\/aM.isNil (aI (oR (nth Ty.str zbc j)).2)=true)/\((0:Int)=(↑x:Int)/\True)/\(zn/\zab E=zbe/\@bc (List UInt8×List (List UInt8×Int×Int×Unit)×List (Int×Int×Int×Unit)×Unit)=kj (bg x zbc)/\True)/\@bc (List UInt8×List (List UInt8×Int×Int×Unit)×List (Int×Int×Int×Unit)×Unit)=kj (bg x zbc)/\True)/\∀G:Nat,(G<=zbd/\∀(j:Nat),j<G->nth Ty.str zbc j=@bc UInt8\/aM.isNil (aI (oR (nth Ty.str zbc j)).2)=true)->((decide (zq G<(↑(bb (dM (10:UInt8) (zbb E F))):Int)))=true->((0:Int)<=zq G/\zq G<(↑(bb (dM (10:UInt8) (zbb E F))):Int))/\((zbf E F G == @bc UInt8)=true->zac G->zad->zaf G/\∃(x':Nat),(x'<=zbd/\∀(j:Nat),j<x'->nth Ty.str zbc j=@bc UInt8\/aM.isNil (aI (oR (nth Ty.str zbc j)).2)=true)/\zbd-x'<zbd-G/\(zae G=(↑x':Int)/\True)/\(zn/\zbe=zbe/\zbg G=kj (bg x' zbc)/\True)/\zbg G=kj (bg x' zbc)/\zah)/\((zbf E F G == @bc UInt8)=false->bb (zbf E F G)<=100000/\((!aM.isNil (aI (oR (zbf E F G)).2))=true->zl)/\((!aM.isNil (aI (oR (zbf E F G)).2))=false->(zbg G=zbg G/\bb (zbg G)+bb [(oR (zbf E F G)).1]<=1000000000)/\(zac G->zad->zaf G/\∃(x':Nat),(x'<=zbd/\∀(j:Nat),j<x'->nth Ty.str zbc j=@bc UInt8\/aM.isNil (aI (oR (nth Ty.str zbc j)).2)=true)/\zbd-x'<zbd-G/\(zae G=(↑x':Int)/\True)/\(zn/\zbe=zbe/\zbg G++[(oR (zbf E F G)).1]=kj (bg x' zbc)/\True)/\zbg G++[(oR (zbf E F G)).1]=kj (bg x' zbc)/\zah))))/\((decide (zq G<(↑(bb (dM (10:UInt8) (zbb E F))):Int)))=false->zb/\zd=(0:Int)/\(d.1,zag,zi,za,(zbe,zbg G,()),())=(d.1,zag,zi,za,((dP d).1.1,(dP d).1.2,()),())/\(aM.nil,())=(aM.nil,()))))))))))) (by kernel_rfl) ?_
 dsimp -iota -proj -eta only;refine⟨rfl,ba,fun h0=>⟨fun h1=>(by rw[Qs h1];exact⟨rfl,by decide,rfl,rfl⟩),fun h1=>⟨rfl,ba,fun h2=>iL (fun h3=>(by rw[Th h1 h3];exact⟨rfl,by decide,rfl,rfl⟩)) (fun h3=>⟨(⟨0,b6 _,⟨rfl,by rw[Cy],ba⟩,⟨rfl,by rw[Cy],rfl,ba⟩,(by trivial)⟩),fun E q_0=>iL (fun h4=>⟨fun h5=>⟨fun h6=>(ct (h1.symm.trans h5)),fun h6=>absurd (show true=false from h6) (by decide)⟩,fun h5=>⟨fun h6=>absurd (show false=true from h6) (by decide),fun h6 h7=>iE (fun h8=>⟨fun h9=>(by exfalso;omega),fun h9=>absurd (show true=false from h9) (by decide)⟩) (fun h8=>⟨?a,?b,⟨fun h9=>absurd (show false=true from h9) (by decide),fun h9=>⟨?c,?d,?e,fun F q_1=>⟨?f,fun G q_2=>⟨?g,iQ (fun h10=>iL (fun h11=>iE (fun h12 h13 h14=>⟨?h,?i⟩) (fun h12 h13 h14=>⟨?j,?k⟩)) (fun h11 h12 h13=>⟨?l,?m⟩)) (fun h10 h11 h12=>⟨?n,?o⟩)⟩⟩⟩⟩⟩)⟩⟩) (fun h4=>iQ (fun h5 =>?p) (fun h5=>⟨(⟨0,b6 _,⟨rfl,by rw[Uz],ba⟩,(by trivial)⟩),fun F q_1=>iL (fun h6=>⟨(by trivial),fun G q_2 I q_3 h7 h8=>⟨?q,fun h9 h10=>⟨?r,fun h11 h12=>⟨?s,⟨fun h13=>⟨fun h14=>(ct (h1.symm.trans h13)),fun h14=>absurd (show true=false from h14) (by decide)⟩,fun h13=>iL (fun h14=>⟨fun h15 =>?t,fun h15=>absurd (show true=false from h15) (by decide)⟩) (fun h14 h15=>iE (fun h16=>⟨fun h17 =>?u,fun h17=>absurd (show true=false from h17) (by decide)⟩) (fun h16=>⟨?v,?w,⟨fun h17=>absurd (show false=true from h17) (by decide),fun h17=>⟨?x,fun h18 h19=>⟨?y,?z⟩⟩⟩⟩))⟩⟩⟩⟩⟩) (fun h6=>⟨?a0,?a1,fun h7=>⟨?a2,fun G q_2=>iL (fun h8=>⟨?a3,iQ (fun h9 h10 h11=>⟨?a4,?a5⟩) (fun h9=>⟨?a6,iB (fun h10 =>?a7) (fun h10=>⟨?a8,fun h11 h12=>⟨?a9,?aa⟩⟩)⟩)⟩) (fun h8 =>?ab)⟩⟩)⟩))⟩)⟩⟩⟩
 case a|b|a3=>omega
 case c|d|g=>
  have h64:(nth .str d.2.2.1 E).length=64:=hp.2 _ (by omega);rw[h64];decide
 case e|f=>
  have h64:(nth .str d.2.2.1 E).length=64:=hp.2 _ (by omega);rw[dv,b9,h64];decide
 case h|j|l|n|y|a4|a9=>simp only[aJ,aK]at*;omega
 case i=>
  have e1:F=pN d E:=q_1.trans (qa d E).symm;have e2:G=qN d E:=q_2.trans (rE d E).symm;subst e1;subst e2;exact⟨E+1,by omega,by omega,⟨by omega,by rw[uj h10 (by omega) h12],ba⟩,⟨rfl,by rw[uj h10 (by omega) h12],rfl,ba⟩,(by trivial)⟩
 case k=>
  have e1:F=pN d E:=q_1.trans (qa d E).symm;have e2:G=qN d E:=q_2.trans (rE d E).symm;subst e1;subst e2;have hn:eH d (E+1)=eH d E:=yB fun z=>by have:=z.2.2;omega
  exact⟨E+1,by omega,by omega,⟨by omega,by rw[hn],ba⟩,⟨rfl,by rw[hn],rfl,ba⟩,(by trivial)⟩
 case m=>
  have e1:F=pN d E:=q_1.trans (qa d E).symm;have e2:G=qN d E:=q_2.trans (rE d E).symm;subst e1;subst e2;have hn:eH d (E+1)=eH d E:=yB fun z=>by have:=z.2.1;omega
  exact⟨E+1,by omega,by omega,⟨by omega,by rw[hn],ba⟩,⟨rfl,by rw[hn],rfl,ba⟩,(by trivial)⟩
 case o=>
  have hn:eH d (E+1)=eH d E:=yB fun z=>h10 z.1
  exact⟨E+1,by omega,by omega,⟨by omega,by rw[hn],ba⟩,⟨rfl,by rw[hn],rfl,ba⟩,(by trivial)⟩
 case p=>
  have hx0:E=2:=by omega
  subst hx0;rw[Qt h1 (by omega) h5];exact⟨rfl,by decide,rfl,rfl⟩
 case q|r|s=>have hr:=gM d E;have ht:=sV hr.1.1;simp only[aJ]at*;omega
 case t|u=>exfalso;have hr:=gM d E;have ht:=sV hr.1.1;omega
 case v|w=>have hr:=gM d E;have ht:=sV hr.1.1;omega
 case x=>
  have hx0:E=2:=(by omega);subst hx0;have hr:=gM d 2;have ht:=sV hr.1.1;have hb:kT d=2+I:=(by rw[kC,q_3,q_2]);have h64:(nth .str d.2.2.1 (bd (2+I+(F:Int)))).length=64:=hp.2 _ (by omega);have hl:=kD hp.2 (b:=kT d) (by omega) F (by omega);rw[h64,hl];have:aK=9223372036854775807:=rfl;omega
 case z=>
  have hx0:E=2:=(by omega);subst hx0;have hr:=gM d 2;have ht:=sV hr.1.1;have hb:kT d=2+I:=(by rw[kC,q_3,q_2]);exact⟨F+1,by omega,by omega,⟨by omega,by rw[NC,hb];rfl,ba⟩,(by trivial)⟩
 case a0=>
  have hx0:E=2:=(by omega);subst hx0;have hx1:F=55:=(by omega);subst hx1;have hr:=gM d 2;have ht:=sV hr.1.1;have hbb:=kC d;have hll:(jo d (kT d) 55).length=64*55:=kD hp.2 (by omega) 55 (by omega);have hLL:dM 10 (bj 0 (bg (bd (eH d 2).2) (jo d (kT d) 55)))=dK d:=(by rw[gO];rfl);rw[hll];exact⟨by decide,hr.2.1,by omega⟩
 case a1=>
  have hx0:E=2:=(by omega);subst hx0;have hx1:F=55:=(by omega);subst hx1;have hr:=gM d 2;have ht:=sV hr.1.1;have hbb:=kC d;have hll:(jo d (kT d) 55).length=64*55:=kD hp.2 (by omega) 55 (by omega);have hLL:dM 10 (bj 0 (bg (bd (eH d 2).2) (jo d (kT d) 55)))=dK d:=(by rw[gO];rfl);refine⟨?_,rfl⟩;rw[c6,b9,hll];omega
 case a2=>
  have hx0:E=2:=(by omega);subst hx0;have hx1:F=55:=(by omega);subst hx1;have hr:=gM d 2;have ht:=sV hr.1.1;have hbb:=kC d;have hll:(jo d (kT d) 55).length=64*55:=kD hp.2 (by omega) 55 (by omega);have hLL:dM 10 (bj 0 (bg (bd (eH d 2).2) (jo d (kT d) 55)))=dK d:=(by rw[gO];rfl);exact⟨0,⟨b6 _,fun j hj=>absurd hj (cu _)⟩,⟨rfl,ba⟩,⟨rfl,rfl,by rw[er,Qw],ba⟩,by rw[er,Qw],ba⟩
 case a5=>
  have hx0:E=2:=(by omega);subst hx0;have hx1:F=55:=(by omega);subst hx1;have hr:=gM d 2;have ht:=sV hr.1.1;have hbb:=kC d;have hll:(jo d (kT d) 55).length=64*55:=kD hp.2 (by omega) 55 (by omega);have hLL:dM 10 (bj 0 (bg (bd (eH d 2).2) (jo d (kT d) 55)))=dK d:=(by rw[gO];rfl)
  (try rw[hLL]at h8);(try rw[hLL]at h9);(try rw[hLL]at h10);(try rw[hLL])
  have e:=Qu (L:=dK d) (i:=G) (by omega) h9;exact⟨G+1,⟨by omega,jU q_2.2 (.inl h9)⟩,by omega,⟨by omega,ba⟩,⟨rfl,rfl,e.symm,ba⟩,e.symm,(by trivial)⟩
 case a6=>
  have hx0:E=2:=(by omega);subst hx0;have hx1:F=55:=(by omega);subst hx1;have hr:=gM d 2;have ht:=sV hr.1.1;have hbb:=kC d;have hll:(jo d (kT d) 55).length=64*55:=kD hp.2 (by omega) 55 (by omega);have hLL:dM 10 (bj 0 (bg (bd (eH d 2).2) (jo d (kT d) 55)))=dK d:=(by rw[gO];rfl)
  (try rw[hLL]at h8);(try rw[hLL]at h9);(try rw[hLL]at h10);(try rw[hLL])
  have hm:nth .str (dK d) G∈dK d:=dV (t:=.str) (by omega);have hm2:nth .str (dK d) G∈dM 10 (bg (eH d 2).2.toNat (jo d (kT d) 55)):=by rw[<-gO];exact hm
  refine b5 (E5 10 _ _ hm2) ?_;rw[b9,hll];omega
 case a7=>
  have hx0:E=2:=(by omega);subst hx0;have hx1:F=55:=(by omega);subst hx1;have hr:=gM d 2;have ht:=sV hr.1.1;have hbb:=kC d;have hll:(jo d (kT d) 55).length=64*55:=kD hp.2 (by omega) 55 (by omega);have hLL:dM 10 (bj 0 (bg (bd (eH d 2).2) (jo d (kT d) 55)))=dK d:=(by rw[gO];rfl)
  (try rw[hLL]at h8);(try rw[hLL]at h9);(try rw[hLL]at h10);(try rw[hLL])
  rw[Ti h1 (by omega) h5 ⟨G,by omega,h9,h10⟩];exact⟨rfl,by decide,rfl,rfl⟩
 case a8=>
  have hx0:E=2:=(by omega);subst hx0;have hx1:F=55:=(by omega);subst hx1;have hr:=gM d 2;have ht:=sV hr.1.1;have hbb:=kC d;have hll:(jo d (kT d) 55).length=64*55:=kD hp.2 (by omega) 55 (by omega);have hLL:dM 10 (bj 0 (bg (bd (eH d 2).2) (jo d (kT d) 55)))=dK d:=(by rw[gO];rfl);refine⟨rfl,?_⟩;have h1:=Tj (bg G (dK d));have h2:=ND 10 (bg (eH d 2).2.toNat (jo d (kT d) 55));rw[<-gO,b9,hll]at h2;rw[b9]at h1;rw[b3];omega
 case aa=>
  have hx0:E=2:=(by omega);subst hx0;have hx1:F=55:=(by omega);subst hx1;have hr:=gM d 2;have ht:=sV hr.1.1;have hbb:=kC d;have hll:(jo d (kT d) 55).length=64*55:=kD hp.2 (by omega) 55 (by omega);have hLL:dM 10 (bj 0 (bg (bd (eH d 2).2) (jo d (kT d) 55)))=dK d:=(by rw[gO];rfl)
  (try rw[hLL]at h8);(try rw[hLL]at h9);(try rw[hLL]at h10);(try rw[hLL])
  have e:=Qv (L:=dK d) (i:=G) (by omega) h9;exact⟨G+1,⟨by omega,jU q_2.2 (.inr h10)⟩,by omega,⟨by omega,ba⟩,⟨rfl,rfl,e.symm,ba⟩,e.symm,(by trivial)⟩
 case ab=>
  have hx0:E=2:=(by omega);subst hx0;have hx1:F=55:=(by omega);subst hx1;have hr:=gM d 2;have ht:=sV hr.1.1;have hbb:=kC d;have hll:(jo d (kT d) 55).length=64*55:=kD hp.2 (by omega) 55 (by omega);have hLL:dM 10 (bj 0 (bg (bd (eH d 2).2) (jo d (kT d) 55)))=dK d:=(by rw[gO];rfl)
  (try rw[hLL]at h8);(try rw[hLL]at h9);(try rw[hLL]at h10);(try rw[hLL])
  rw[Lo h1 (by omega) h5 (Vi (i:=G) (by omega) q_2.2),dw (by omega)];exact⟨rfl,rfl,rfl,rfl⟩
def Tryz.LB:bZ Tryz.prog Tryz.B.eT Tryz.X 23 false (aY Tryz.bD [.obj 0] (fun _ x=>cZ x 1000000/\∀i,i<x.2.2.1.length->(nth .str x.2.2.1 i).length=64) Tryz.Bd):=
 bG (X:=Tryz.X) Tryz.Ra Tryz.func23 (by kernel_rfl) (fun(a:CD [.obj 0]) (x:PD Tryz.bD)=>Tryz.LA x) (fun(a:CD [.obj 0]) (x:PD Tryz.bD) hw hp=>VK x hw hp)
end Go.Proofs.YtgokjhhcfemnhacGreatDoor

namespace Go.Proofs.YtgokjhhcfemnhacGreatDoor
open Go.Vg Go.Shelf Go.RowKit
def CN{P:Program}(w:World)(t e ty:TypeId)(z:Value)(ht:P.underlying t=some (.slice e))(hv:∀w,(zeroValue e).run P w=.ok z w)(h1:∀u∈z.cells,u.oneCell'=true)(b o n c:Nat)(hn:0<n)
  (hc:∀j,j<n*z.cells.size->(w.cell? ⟨b,o+j,none⟩).isSome=true)(hf:∀j,j<n*z.cells.size->w.frozen? ⟨b,o+j,none⟩=false) :
  (dx #[t] ty #[.slice (some ⟨b,o,none⟩) n c]).run P w=.ok (.tuple #[]) (w.setCells b o (cm z.cells n).toList):=by
 have hl:(cm z.cells n).toList.length=n*z.cells.size:=by rw[df,size_zeroCells]
 have hst:=run_storeCells_cells (P:=P) b o (cm z.cells n).toList 0 w (by simpa[hl]using hc) (by simpa[hl]using hf) (by
  intro v hv';simp[cm]at hv';obtain⟨k,hk,rfl⟩:=hv';by_cases h:k % z.cells.size<z.cells.size
  ·rw[getElem!_pos z.cells _ h];exact h1 _ (Array.getElem_mem h)
  ·have:z.cells.size=0:=by
    by_cases h0:z.cells.size=0
    ·exact h0
    ·exact absurd (Nat.mod_lt _ (by omega)) h
   rw[this]at hk;omega)
 simp only[dp]at hst;obtain⟨m,rfl⟩:∃m,n=m+1:=⟨n-1,by omega⟩
 simp[dx,run_underlying ht,hv,hst]
def j0(b:Nat):∀(vs:List Value) (o:Nat) (w:World),(w.setCells b o vs).heap.size=w.heap.size
 |[],_,_=>rfl
 |v :: r,o,w=>(j0 b r (o+1) _).trans (ds _ _ _)
def vY{b:Nat}{T:TypeId}:∀(news:List Value) (o:Nat) (w:World) (vs:Array Value),w.heap[b]?=some (.cells vs T (0,0))->o+news.length<=vs.size->
  ∃vs',(w.setCells b o news).heap[b]?=some (.cells vs' T (0,0))/\vs'.size=vs.size/\∀k,vs'[k]?=if k<o then vs[k]? else if k<o+news.length then news[k-o]? else vs[k]?:=by
 intro news;induction news with
 |nil=>intro o w vs hb _;exact⟨vs,hb,rfl,fun k=>by simp only[bz];split <;> (try rfl);rw[if_neg (by omega)]⟩
 |cons x r ih=>
  intro o w vs hb hle;simp only[bw]at hle;obtain⟨vs',h1,h2,h3⟩:=ih (o+1) (w.setCell ⟨b,o,none⟩ x) _ (Sr hb) (by simp;omega);refine⟨vs',h1,by simpa using h2,fun k =>?_⟩;rw[h3,bw];by_cases c1:k<o
  ·rw[if_pos (by omega),if_pos c1,Array.getElem?_setIfInBounds_ne (by omega)]
  ·by_cases c2:k=o
   ·subst c2
    rw[if_pos (by omega),if_neg c1,if_pos (by omega),Array.getElem?_setIfInBounds_self_of_lt (by omega)];simp
   ·rw[if_neg (by omega),if_neg c1]
    by_cases c3:k<o+1+r.length
    ·rw[if_pos c3,if_pos (by omega),show k-o=(k-(o+1))+1 by omega,List.getElem?_cons_succ]
    ·rw[if_neg c3,if_neg (by omega),Array.getElem?_setIfInBounds_ne (by omega)]
set_option maxHeartbeats 4000000 in
set_option maxRecDepth 1000000 in
def Tryz.WI:Qx Tryz.prog 62 3:=by
 intro b i j n cap vs T w hb hsz hij hj hcap hbig h1;obtain⟨te,ti,td,hu,hf⟩:=hH (t:=31) (e:=aC) Tryz.bQ (by kernel_rfl);obtain⟨z,hz,hzr⟩:=hf.zero;have hu':=hu;rw[Tryz.underlying31]at hu';cases hu';obtain⟨news,hnews⟩:∃news,news=(vs.toList.drop (j*3)).take ((n-j)*3):=⟨_,rfl⟩
 have hle:n*3<=vs.size:=by omega
 have hlen:news.length=(n-j)*3:=by rw[hnews,b9,dv,df];omega
 have hget:∀(t:Nat) u,news[t]?=some u->vs[j*3+t]?=some u:=by
  intro t u ht;rw[hnews,List.getElem?_take]at ht;split at ht
  ·rw[List.getElem?_drop,Array.getElem?_toList]at ht;exact ht
  ·cases ht
 obtain⟨A,hA,hsrc⟩:∃A:Addr,(if cap=j then some (⟨b,0,none⟩:Addr)else some ⟨b,j*3,none⟩)=some A/\Hid (∀(t:Nat) u,news[t]?=some u->w.drew.cell? (A.add t)=some u):=by
  by_cases h:cap=j
  ·refine⟨⟨b,0,none⟩,by simp[h],fun t u hu =>?_⟩
   have h0:news.length=0:=by rw[hlen];omega
   rw[dk.1 h0]at hu;simp at hu
  ·refine⟨⟨b,j*3,none⟩,by simp[h],fun t u hu =>?_⟩
   rw[Addr.add_lit,cell_of_row w.drew b _ vs T (0,0) hb];exact hget t u hu
 have mixed:Tryz.prog.follows .mixedOrders=true:=by kernel_rfl
 have hs3:ti.size=3:=hf.size;have s1:Hid (news.length=(n-j)*3):=hlen;have s2:Hid (∀u∈news,u.oneCell'=true):=by
  intro u hu;obtain⟨t,ht⟩:=List.getElem?_of_mem hu;have:=bF ht;exact h1 (j*3+t) u (by omega) (hget t u ht)
 have s3:Hid (∀t,t<news.length->(w.drew.cell? ⟨b,0+i*3+t,none⟩).isSome=true/\w.drew.frozen? ⟨b,0+i*3+t,none⟩=false):=by
  intro t ht;rw[hlen]at ht;refine⟨?_,de (w:=w.drew) hb _⟩;rw[cell_of_row w.drew b _ vs T (0,0) hb,Array.getElem?_eq_getElem (by omega)];rfl
 obtain⟨W1,hW1⟩:∃W1,W1=w.drew.setCells b (0+i*3) news:=⟨_,rfl⟩
 have hW:Hid (W1=w.drew.setCells b (0+i*3) news):=hW1;have hic:i<=cap:=by omega
 have hjc:j<=cap:=by omega
 have hne:¬((i:Int)=(j:Int)):=by omega
 have hzv:∀w,(zeroValue 40).run Tryz.prog w=.ok z w:=fun w=>by simp[zeroValue,typeInfo,hf.info,hz]
 have hz0:=kX (S:=aB (fun _ _=>False) ⟨[],[],0⟩ (fun _=>⟨.nilIface,[]⟩) w) (cx:=Tryz.B) hzr;have hzs:z.cells.size=3:=by
  rw[<-df];exact hz0.length.symm.trans (iS aC)
 obtain⟨vs1,v1,v2,v3⟩:=vY (b:=b) (T:=T) news (0+i*3) w.drew vs hb (by omega);rw[<-hW1]at v1;have fT:=CN (P:=Tryz.prog) W1 31 40 0 z Tryz.underlying31 hzv (fun u hu=>(Bw (eT:=Tryz.B.eT) (A:=fun _ _=>False) (w:=w) hzr (by kernel_rfl)).lk u (by simpa using hu)) b ((i+(n-j))*3) (n-(i+(n-j))) (cap-(i+(n-j))) (by omega)
  (fun t ht=>by rw[hzs]at ht;rw[cell_of_row W1 b _ vs1 T (0,0) v1,Array.getElem?_eq_getElem (by omega)];rfl) (fun t ht=>de v1 _)
 obtain⟨W2,hW2⟩:∃W2,W2=W1.setCells b ((i+(n-j))*3) (cm z.cells (n-(i+(n-j)))).toList:=⟨_,rfl⟩
 rw[<-hW2]at fT;have hzl:(cm z.cells (n-(i+(n-j)))).toList.length=(n-(i+(n-j)))*3:=by rw[df,size_zeroCells,hzs]
 obtain⟨vs2,u1,u2,u3⟩:=vY (b:=b) (T:=T) (cm z.cells (n-(i+(n-j)))).toList ((i+(n-j))*3) W1 vs1 v1 (by omega);rw[<-hW2]at u1;have hfin:Hid (W2.os=w.os/\W2.output=w.output/\W2.heap.size=w.heap.size/\(∀k,k≠b->W2.heap[k]?=w.heap[k]?)/\
       ∃vs',W2.heap[b]?=some (Obj.cells vs' T (0,0))/\vs'.size=vs.size/\∀k,k<(i+(n-j))*3->vs'[k]?=vs[if k<i*3 then k else k+(j-i)*3]?):=by
  refine⟨by rw[hW2,hW1,eu,eu];rfl,by rw[hW2,hW1,ew,ew];rfl,by rw[hW2,hW1,j0,j0];rfl,fun k hk =>?_,vs2,u1,by omega,fun k hk =>?_⟩
  ·by_cases hlt:k<w.heap.size
   ·rw[hW2,ey _ _ _ _ (by rw[hW1,j0];exact hlt) hk,hW1,ey w.drew _ _ _ (show k<w.drew.heap.size from hlt) hk];rfl
   ·rw[Array.getElem?_eq_none (by rw[hW2,hW1,j0,j0];show w.heap.size<=k;omega),Array.getElem?_eq_none (by omega)]
  ·rw[u3,if_pos hk,v3]
   by_cases c:k<i*3
   ·rw[if_pos (by omega),if_pos c]
   ·rw[if_neg (by omega),if_pos (by omega),if_neg c,hnews,List.getElem?_take,if_pos (by omega),List.getElem?_drop,Array.getElem?_toList]
    congr 1;omega
 have fT:Hid ((dx #[31] 0 #[.slice (some ⟨b,(i+(n-j))*3,none⟩) (n-(i+(n-j))) (cap-(i+(n-j)))]).run Tryz.prog W1=.ok (.tuple #[]) W2):=fT;have fT:=fT.out;clear hW1 hget hnews hlen h1 hW2 u1 u2 u3 v1 v2 v3 hzl
 go_enter Tryz.func62,Tryz.ntmps62
 go_wp2_with fail
 go_region_law_o (refine step_append_room rfl (.tmp 22) (.tmp 25) 31 rfl 40 ti 3 Tryz.underlying31 hf.info hs3 b 0 i cap (by simp[Act.eval,Act.put]) A (n-j) (cap-j) news (by simp[Act.eval,Act.put,hA]) s1.out hsrc.out s2.out (by omega) s3.out ?_;rw[<-hW.out])
 go_wp2
 go_ret
 exact⟨rfl,hfin.out⟩
end Go.Proofs.YtgokjhhcfemnhacGreatDoor

namespace Go.Proofs.YtgokjhhcfemnhacGreatDoor
open Go.Vg Go.Mrl
def Tryz.W9:∃fn,Tryz.prog.funcs[62]?=some fn/\fn.body.isNone=false/\(fn.name == "runtime.NumGoroutine")=false:=⟨_,Tryz.func62,by kernel_rfl,by kernel_rfl⟩
def Tryz.LC:List (FuncId×(Bool×aT)):=[(57,Tryz.spZ11),(62,(false,Dx aC)),(58,Tryz.spZ12),(60,Tryz.spZ14)]
def Tryz.Rb:bN Tryz.prog Tryz.B Tryz.X Tryz.LC:=
 aP (eP (bR Tryz.bQ) Tryz.func57 (by kernel_rfl) []) (aP (NF Tryz.W9 Tryz.WI) (aP (Tryz.DD) (aP (Tryz.Lx) (bR Tryz.bQ))))
def VL{x:Sh}{s:aD}(h:¬0<=eB x.1.2.1 s):gL x s=(x,5):=by unfold gL;rw[if_neg h]
def TO{x:Sh}{s:aD}(h:0<=eB x.1.2.1 s):gL x s=qu x (x.1.2.1.take (eB x.1.2.1 s).toNat++x.1.2.1.drop (eB x.1.2.1 s+1).toNat):=by
 unfold gL;rw[if_pos h,List.eraseIdx_eq_take_drop_succ,show(eB x.1.2.1 s+1).toNat=(eB x.1.2.1 s).toNat+1 by omega]
def Tryz.Be:List (Alt Tryz.cF [.obj 0,.d .str]):=[{bO:=Tryz.cF,res:=[.d .err],out:=fun a x=>(gL x a.1).1,ret:=fun a x=>(aI (gL x a.1).2,())}]
def VM(s:List UInt8)(r:Int)(o:List (D aC))(d:Dk)(hw:gV [.obj 0,.d .str] (s,()))(hp:(fun _ x=>x.1.2.1.length<=100/\0<=(x.1.1:Int)/\(x.1.1:Int)<=1000000000/\cZ x.2 1000000) (s,()) ((r,o,()),d)):(cW Tryz.B Tryz.LC Tryz.f19 [] Tryz.cF [.obj 0,.d .str] Tryz.Be (s,()) ((r,o,()),d)).holds:=by
 refine holds_of (p:=
  let za:=d.2.2.2.1=d.2.2.2.1
  let zb:=eB o s
  let zc:=((r,o,()),d)
  let zd:=(gL zc s).1
  let ze:=(aI (gL zc s).2,())
  let zf:=bb o
  let zg:=zb+1
  let zh:=bg (bd zb) o++bj (bd zg) o
  let zi:=eJ d r zh
  let zj:=zi.1.2.2.2.1
  za/\True/\(True->((decide (zb<0))=true->za/\True/\zc=zd/\(aM.no 5,())=ze)/\((decide (zb<0))=false->∀E:Bool,(0<zf->E=false)->(E=true->aJ zb->aJ 1->aJ zg/\False)/\(E=false->zf<=1000000000/\(aJ zb->aJ 1->aJ zg/\(0<=zb/\zb<zg/\zg<=(↑zf:Int))/\za/\(bb zh<=100/\0<=r/\r<=1000000000/\cZ d 1000000)/\(True->zj=zj/\True/\(if zi.2=0 then(r+1,zh,())else(r,o,()),zi.1)=zd/\(aI zi.2,())=ze)))))) (by kernel_rfl) ?_
 dsimp -iota -proj -eta only;dsimp only at hp;exact⟨rfl,ba,fun h0=>iL (fun h1=>(by rw[VL (x:=((r,o,()),d)) (show ¬0<=eB o s by omega)];exact⟨rfl,ba,rfl,rfl⟩)) (fun h1 E q_0=>⟨fun h2 h3 h4=>⟨(by exfalso;have:=xI q_0 h2;subst this;exact o3 s (by omega)),(by have:=xI q_0 h2;subst this;exact o3 s (by omega))⟩,fun h2=>⟨(by omega),fun h3 h4=>⟨(by have:=p9 o s;have hh:o.length<=100:=hp.1;unfold aJ;omega),(by have:=p9 o s;exact⟨by omega,by omega,by omega⟩),rfl,(by have hh:o.length<=100:=hp.1;refine⟨?_,hp.2⟩;rw[bt,b9,dv];omega),fun h5=>(by rw[TO (x:=((r,o,()),d)) (show 0<=eB o s by omega)];exact⟨rfl,ba,rfl,rfl⟩)⟩⟩⟩)⟩
def Tryz.VN:bZ Tryz.prog Tryz.B.eT Tryz.X 19 false (aY Tryz.cF [.obj 0,.d .str] (fun _ x=>x.1.2.1.length<=100/\0<=(x.1.1:Int)/\(x.1.1:Int)<=1000000000/\cZ x.2 1000000) Tryz.Be):=
 bG (X:=Tryz.X) Tryz.Rb Tryz.func19 (by kernel_rfl) (fun(a:CD [.obj 0,.d .str]) (x:PD Tryz.cF)=>[]) (fun(a:CD [.obj 0,.d .str]) (x:PD Tryz.cF) hw hp=>VM a.1 x.1.1 x.1.2.1 x.2 hw hp)
def Tryz.spZ21:Bool×aT:=(false,aY Tryz.bD [.obj 0] (fun _ x=>cZ x 1000000/\∀i,i<x.2.2.1.length->(nth .str x.2.2.1 i).length=64) Tryz.Bd)
def Tryz.CO:List (FuncId×(Bool×aT)):=[(76,Tryz.spZ0),(99,Tryz.spZ1),(21,Tryz.spZ2),(90,Tryz.spZ9),(65,(false,aY Tryz.bD [.obj 0,.d (.int .i64)] (fun _ _=>True) Tryz.A8)),(91,Tryz.spZ10),(16,(false,aY Tryz.bD [.obj 0,.d (.int .i64)] (fun _ _=>True) Tryz.DC)),(63,Tryz.spZ20),(64,Tryz.spZ19),(22,(false,aY Tryz.bD [.obj 0,.d (.int .u64)] (fun _ x=>x.2.1.length=x.2.2.1.length/\∀i,i<x.2.2.2.1.length->0<=((nth jr x.2.2.2.1 i).1:Int)/\((nth jr x.2.2.2.1 i).1:Int)<x.2.2.1.length) Tryz.tz)),(54,(false,aY [] [.d (.int .i64)] (fun _ _=>True) Tryz.Ba)),(23,Tryz.spZ21),(55,(false,aY Tryz.bD [.obj 0] (fun _ x=>cZ x 1000000) Tryz.vH))]
def Tryz.IY:bN Tryz.prog Tryz.B Tryz.X Tryz.CO:=
 aP (aE Tryz.jm) (aP (aE Tryz.fH) (aP (aE Tryz.im) (aP (Tryz.xR) (aP (Tryz.TG) (aP (Tryz.xT) (aP (Tryz.Vz) (aP (Tryz.IS) (aP (Tryz.tx) (aP (Tryz.Kj) (aP (Tryz.VB) (aP (Tryz.LB) (aP (Tryz.Q9) (bR Tryz.bQ)))))))))))))
def Tryz.tA:List (Alt [] []):=[{bO:=Tryz.cF,res:=[.obj 1,.obj 0,.d .bool],out:=fun _ _=>jl,ret:=fun _ _=>(true,())}]
def NZ  (hw:gV [] ()):(cW Tryz.B Tryz.CO Tryz.f14 [] [] [] Tryz.tA () ()).holds:=by
 refine holds_of (p:=
  let za:=ch 112 (eI (@bc UInt8))
  let zb:=(((-1:Int),false,()),za,za,[],())
  let zc:=(iR zb).1
  let zd:=zc.2.2.2.1=zc.2.2.2.1
  let ze:=(dP zc).2
  let zf:=(((dP zc).1.1,(dP zc).1.2,()),zc)=jl
  let zg:=(true,())
  True/\(((112:Int)<(1:Int)\/(120:Int)<(112:Int))->((!aM.isNil (aM.no (1:Int)))=true->False)/\((!aM.isNil (aM.no (1:Int)))=false->False))/\((1:Int)<=(112:Int)/\(112:Int)<=(120:Int)->((!aM.isNil aM.nil)=true->False)/\((!aM.isNil aM.nil)=false->(@bc (Int×List UInt8×Unit)=@bc (Int×List UInt8×Unit))/\cZ zb 1000000/\(True->((!aM.isNil (aI (iR zb).2))=true->False)/\((!aM.isNil (aI (iR zb).2))=false->zd/\(cZ zc 1000000/\∀(i:Nat),i<bb zc.2.2.1->bb (nth Ty.str zc.2.2.1 i)=64)/\(ze≠(0:Int)->((aM.isNil (aI ze))=true->False)/\((aM.isNil (aI ze))=false->False))/\(ze=(0:Int)->((aM.isNil aM.nil)=true->zd/\True/\zf/\zg=zg)/\((aM.isNil aM.nil)=false->zd/\True/\zf/\(false,())=zg))))))) (by kernel_rfl) ?_
 dsimp -iota -proj -eta only;refine⟨ba,⟨fun h0=>⟨fun h1=>(by trivial),fun h1=>absurd (show true=false from h1) (by decide)⟩,fun h0=>⟨fun h1=>absurd (show false=true from h1) (by decide),fun h1=>⟨rfl,⟨dh _,b6 _,rfl⟩,fun h2=>iB (fun h3=>(dZ h3 ((qP (sd (dh _)))).1)) (fun h3=>⟨rfl,⟨((qP (sd (dh _)))).2.vB,((qP (sd (dh _)))).2.gK.sec⟩,⟨fun h4=>⟨fun h5 =>?a,fun h5 =>?b⟩,fun h4=>⟨fun h5=>⟨rfl,ba,Prod.ext jE.again rfl,rfl⟩,fun h5=>absurd (show true=false from h5) (by decide)⟩⟩⟩)⟩⟩⟩⟩
 case a|b=>exact h4 jE.DA
def Tryz.N0:bZ Tryz.prog Tryz.B.eT Tryz.X 14 false (aY [] [] (fun _ _=>True) Tryz.tA):=
 bG (X:=Tryz.X) Tryz.IY Tryz.func14 (by kernel_rfl) (fun(a:CD []) (x:PD [])=>[]) (fun(a:CD []) (x:PD []) hw hp=>NZ  hw)
@[reducible] def Tryz.aU:List Ob:=[.box 152 [.obj 1,.d (.int .i64)],.ext 1 (iU cI)]
def Tryz.IZ:List (FuncId×(Bool×aT)):=[(76,Tryz.spZ0),(99,Tryz.spZ1),(21,Tryz.spZ2)]
def Tryz.N1:bN Tryz.prog Tryz.B Tryz.X Tryz.IZ:=
 aP (aE Tryz.jm) (aP (aE Tryz.fH) (aP (aE Tryz.im) (bR Tryz.bQ)))
def Tryz.DI:List (Alt [] []):=[{bO:=Tryz.aU,res:=[.obj 0],out:=fun _ _=>qq,ret:=fun _ _=>()}]
def VO  (hw:gV [] ()):(cW Tryz.B [] Tryz.f29 [] [] [] Tryz.DI () ()).holds:=by
 refine holds_of (p:=
  True/\((0,()),([],0,()),())=qq/\()=()) (by kernel_rfl) ?_
 exact⟨ba,rfl,rfl⟩
def Tryz.LD:bZ Tryz.prog Tryz.B.eT Tryz.X 29 false (aY [] [] (fun _ _=>True) Tryz.DI):=
 bG (X:=Tryz.X) (bR Tryz.bQ) Tryz.func29 (by kernel_rfl) (fun(a:CD []) (x:PD [])=>[]) (fun(a:CD []) (x:PD []) hw hp=>VO  hw)
def Tryz.xU:List (Alt Tryz.aU [.obj 0,.d .str]):=[{bO:=Tryz.aU,res:=[.d .str,.d (.int .i64),.d .err],out:=fun _ x=>x,ret:=fun a x=>((aL x a.1).1,(aL x a.1).2.1,aI (aL x a.1).2.2,())}]
def TP(s:List UInt8)(f:dA)(hw:gV [.obj 0,.d .str] (s,())):(cW Tryz.B [] Tryz.f47 [] Tryz.aU [.obj 0,.d .str] Tryz.xU (s,()) f).holds:=by
 refine holds_of (p:=
  let za:=Ty.prod Ty.str (Ty.prod (Ty.int bm) Ty.unit)
  let zb:=(aL f s).2
  let zc:=((aL f s).1,zb.1,aI zb.2,())
  let zd:=iV za f.2.1.1 s
  ((!cT za f.2.1.1 s)=true->True/\f=f/\([],0,aM.no 5,())=zc)/\((!cT za f.2.1.1 s)=false->True/\f=f/\(zd.1,zd.2.1,aM.nil,())=zc)) (by kernel_rfl) ?_
 dsimp -iota -proj -eta only;exact iB (fun h0=>(by exact⟨ba,rfl,by rw[lL h0];rfl⟩)) (fun h0=>(by exact⟨ba,rfl,by rw[pA h0];rfl⟩))
def Tryz.sh:bZ Tryz.prog Tryz.B.eT Tryz.X 47 false (aY Tryz.aU [.obj 0,.d .str] (fun _ _=>True) Tryz.xU):=
 bG (X:=Tryz.X) (bR Tryz.bQ) Tryz.func47 (by kernel_rfl) (fun(a:CD [.obj 0,.d .str]) (x:PD Tryz.aU)=>[]) (fun(a:CD [.obj 0,.d .str]) (x:PD Tryz.aU) hw hp=>TP a.1 x hw)
def Tryz.vI:List (Alt Tryz.aU [.obj 0,.d .str,.d .str]):=[{bO:=Tryz.aU,res:=[.d .err],out:=fun a x=>(cJ x a.1 a.2.1).1,ret:=fun a x=>(aI (cJ x a.1 a.2.1).2,())}]
def Rc(s:List UInt8)(t:List UInt8)(f:dA)(hw:gV [.obj 0,.d .str,.d .str] (s,t,()))(hp:(fun _ x=>x.2.1.1.length<=6/\0<=x.1.1/\x.1.1<=1000000) (s,t,()) f):(cW Tryz.B Tryz.IZ Tryz.f30 [] Tryz.aU [.obj 0,.d .str,.d .str] Tryz.vI (s,t,()) f).holds:=by
 refine holds_of (p:=
  let za:=aI (aN s)
  let zb:=cJ f s t
  let zc:=f=zb.1
  let zd:=(aI zb.2,())
  let ze:=Ty.prod Ty.str (Ty.prod (Ty.int bm) Ty.unit)
  let zf:=f.2.1.1
  let zg:=True/\zc/\(aM.no 8,())=zd
  let zh:=f.1.1+1
  let zi:=((f.1.1 == 1000000)=true->zg)/\((f.1.1 == 1000000)=false->aJ f.1.1->aJ 1->aJ zh/\bb zf<aK/\True/\((zh,()),(eS ze zf s (t,zh,()) f.2.1.2.1,mQ ze zf s f.2.1.2.1,()),())=zb.1/\(aM.nil,())=zd)
  True/\((!aM.isNil za)=true->True/\zc/\(za,())=zd)/\((!aM.isNil za)=false->bb t<=aK->((decide ((↑(bb t):Int) > 1200))=true->True/\zc/\(aM.no 2,())=zd)/\((decide ((↑(bb t):Int) > 1200))=false->((!cT ze zf s)=true->(((↑(bb zf):Int) == 6)=true->zg)/\(((↑(bb zf):Int) == 6)=false->zi))/\((!cT ze zf s)=false->zi)))) (by kernel_rfl) ?_
 dsimp -iota -proj -eta only;refine⟨ba,iB (fun h0 =>?a) (fun h0 h1=>iL (fun h2=>(by rw[xg (aQ.1 ‹_›) (by omega)];exact⟨ba,rfl,rfl⟩)) (fun h2=>iB (fun h3=>iQ (fun h4 =>?b) (fun h4=>iQ (fun h5 =>?c) (fun h5 h6 h7=>⟨?d,?e,?f⟩))) (fun h3=>iQ (fun h4 =>?g) (fun h4 h5 h6=>⟨?h,?i,?j⟩))))⟩
 case a=>
  have hn:¬aN s=0:=(fun e=>by rw[aQ.2 e]at h0;cases h0);rw[xf hn];exact⟨ba,rfl,rfl⟩
 case b|c|g=>rw[xh (aQ.1 ‹_›) (by omega) (by first|exact .inr (by omega)|exact .inl ⟨by assumption,by omega⟩)];exact⟨ba,rfl,rfl⟩
 case d|e|h|i=>simp only[aJ,aK]at*;omega
 case f|j=>rw[B4 (aQ.1 ‹_›) (by omega) (by rintro(⟨e1,e2⟩|e);(first|omega|exact ct (e1.symm.trans (show cT cI f.2.1.1 s=true by assumption)));omega)];exact⟨ba,rfl,rfl⟩
def Tryz.Fs:bZ Tryz.prog Tryz.B.eT Tryz.X 30 false (aY Tryz.aU [.obj 0,.d .str,.d .str] (fun _ x=>x.2.1.1.length<=6/\0<=x.1.1/\x.1.1<=1000000) Tryz.vI):=
 bG (X:=Tryz.X) Tryz.N1 Tryz.func30 (by kernel_rfl) (fun(a:CD [.obj 0,.d .str,.d .str]) (x:PD Tryz.aU)=>[]) (fun(a:CD [.obj 0,.d .str,.d .str]) (x:PD Tryz.aU) hw hp=>Rc a.1 a.2.1 x hw hp)
def Tryz.tB:List (Alt Tryz.aU [.obj 0,.d .str]):=[{bO:=Tryz.aU,res:=[.d .err],out:=fun a x=>(fE x a.1).1,ret:=fun a x=>(aI (fE x a.1).2,())}]
def N2(s:List UInt8)(f:dA)(hw:gV [.obj 0,.d .str] (s,())):(cW Tryz.B [] Tryz.f41 [] Tryz.aU [.obj 0,.d .str] Tryz.tB (s,()) f).holds:=by
 refine holds_of (p:=
  let za:=Ty.prod Ty.str (Ty.prod (Ty.int bm) Ty.unit)
  let zb:=fE f s
  let zc:=(aI zb.2,())
  ((!cT za f.2.1.1 s)=true->True/\f=zb.1/\(aM.no 5,())=zc)/\((!cT za f.2.1.1 s)=false->True/\(f.1,(fU za f.2.1.1 s,f.2.1.2),())=zb.1/\(aM.nil,())=zc)) (by kernel_rfl) ?_
 dsimp -iota -proj -eta only;exact iB (fun h0=>(by rw[mv h0];exact⟨ba,rfl,rfl⟩)) (fun h0=>(by rw[lC h0];exact⟨ba,rfl,rfl⟩))
def Tryz.CP:bZ Tryz.prog Tryz.B.eT Tryz.X 41 false (aY Tryz.aU [.obj 0,.d .str] (fun _ _=>True) Tryz.tB):=
 bG (X:=Tryz.X) (bR Tryz.bQ) Tryz.func41 (by kernel_rfl) (fun(a:CD [.obj 0,.d .str]) (x:PD Tryz.aU)=>[]) (fun(a:CD [.obj 0,.d .str]) (x:PD Tryz.aU) hw hp=>N2 a.1 x hw)
@[reducible] def Tryz.si:List Ob:=[.box 4 [.d .bool]]
@[reducible] def Tryz.o4:List Ob:=[.box 61 [.obj 1,.obj 2,.obj 3,.obj 4],.tok .str,.tok (.int .i64),.tok aR,.tok bB,.box 4 [.d .bool]]
def Tryz.vJ:List (Alt Tryz.si [.d .str,.obj 0]):=[{bO:=Tryz.si,res:=[.d (.int .i64)],out:=fun a x=>((x.1.1 || (cP a.1).isNone,()),()),ret:=fun a _=>((dX a.1).1,())}]
def Tryz.Ft:List (FuncId×(Bool×aT)):=[(71,Tryz.spZ3),(125,Tryz.spZ15),(130,Tryz.spZ16),(103,Tryz.spZ17),(102,Tryz.spZ18)]
def Tryz.Kq:bN Tryz.prog Tryz.B Tryz.X Tryz.Ft:=
 aP (aE Tryz.oT) (aP (aE Tryz.sf) (aP (aE Tryz.nr) (aP (aE Tryz.mq) (aP (aE Tryz.sg) (bR Tryz.bQ)))))
def N3(s:List UInt8)(b:Bool)(hw:gV [.d .str,.obj 0] (s,()))(hp:(fun a _=>a.1.length<=1000000) (s,()) ((b,()),())):(cW Tryz.B Tryz.Ft Tryz.f131 [] Tryz.si [.d .str,.obj 0] Tryz.vJ (s,()) ((b,()),())).holds:=by
 refine holds_of (p:=
  let za:=((b || ck (cP s),()),())
  let zb:=((dX s).1,())
  let zc:=True/\((true,()),())=za/\zb=zb
  bb s<=281474976710656/\(b=true->zc)/\(b=false->((!aM.isNil (dX s).2)=true->zc)/\((!aM.isNil (dX s).2)=false->True/\True/\((!bp (dX s).1 == s,()),())=za/\zb=zb))) (by kernel_rfl) ?_
 dsimp -iota -proj -eta only;dsimp only at hp;exact⟨(by omega),⟨fun h0=>(by simp_all),fun h0=>iB (fun h1=>(by exact⟨ba,by rw[qI,h1];simp,rfl⟩)) (fun h1=>⟨ba,(by exact⟨ba,by rw[qI,h1];cases b <;> simp_all <;> (rw[dy];simp),rfl⟩)⟩)⟩⟩
def Tryz.N4:bZ Tryz.prog Tryz.B.eT Tryz.X 131 false (aY Tryz.si [.d .str,.obj 0] (fun a _=>a.1.length<=1000000) Tryz.vJ):=
 bG (X:=Tryz.X) Tryz.Kq Tryz.func131 (by kernel_rfl) (fun(a:CD [.d .str,.obj 0]) (x:PD Tryz.si)=>[]) (fun(a:CD [.d .str,.obj 0]) (x:PD Tryz.si) hw hp=>N3 a.1 x.1.1 hw hp)
def Tryz.Bf:List (Alt Tryz.o4 [.obj 0,.d .str,.obj 5]):=[{bO:=Tryz.o4,res:=[],out:=fun a x=>PN (gG (SW x) x.2.2.2.2.2.1.1 a.1),ret:=fun _ _=>()}]
def Tryz.LF:List (FuncId×(Bool×aT)):=[(71,Tryz.spZ3),(125,Tryz.spZ15),(130,Tryz.spZ16),(103,Tryz.spZ17),(102,Tryz.spZ18),(131,(false,aY Tryz.si [.d .str,.obj 0] (fun a _=>a.1.length<=1000000) Tryz.vJ))]
def Tryz.Re:bN Tryz.prog Tryz.B Tryz.X Tryz.LF:=
 aP (aE Tryz.oT) (aP (aE Tryz.sf) (aP (aE Tryz.nr) (aP (aE Tryz.mq) (aP (aE Tryz.sg) (aP (Tryz.N4) (bR Tryz.bQ))))))
def LG(s:List UInt8)(_:List (List UInt8))(_:List Int)(_:List (D aR))(_:List (D bB))(_:Bool):dL:=[
 (300001,fun st=>{X:=List (List UInt8),inv:=fun w=>w=parts 32 (cb s dU),bX:=fun _=>0,bK:=fun w=>[(7,sD (.slice .str) w)],keep:=[0,2,6]}),
 (300003,fun st=>{X:=Bool,inv:=fun c=>c=true↔(nth .str (cU (.slice .str) st 7) 0=kr/\bb (cU (.slice .str) st 7)=2),bX:=fun _=>0,bK:=fun c=>[(18,sB c)],keep:=[0,2,6,7]}),
 (300005,fun st=>{X:=Bool,inv:=fun c=>c=true↔(nth .str (cU (.slice .str) st 7) 0=jV/\bb (cU (.slice .str) st 7)=2),bX:=fun _=>0,bK:=fun c=>[(40,sB c)],keep:=[0,2,6,7]}),
 (300007,fun st=>{X:=Bool,inv:=fun c=>c=true↔(nth .str (cU (.slice .str) st 7) 0=jj/\bb (cU (.slice .str) st 7)=3),bX:=fun _=>0,bK:=fun c=>[(64,sB c)],keep:=[0,2,6,7]}),
 (300009,fun st=>{X:=Bool,inv:=fun c=>c=true↔(nth .str (cU (.slice .str) st 7) 0=mI/\bb (cU (.slice .str) st 7)=3),bX:=fun _=>0,bK:=fun c=>[(93,sB c)],keep:=[0,2,6,7]}),
 (300011,fun st=>{X:=Bool,inv:=fun c=>c=true↔((nth .str (cU (.slice .str) st 7) 0=lD\/nth .str (cU (.slice .str) st 7) 0=lh)/\bb (cU (.slice .str) st 7)=4),bX:=fun _=>0,bK:=fun c=>[(123,sB c)],keep:=[0,2,6,7]})]
def TQ(s:List UInt8)(n:List (List UInt8))(w:List Int)(y:List (D aR))(t:List (D bB))(b:Bool)(hw:gV [.obj 0,.d .str,.obj 5] (s,()))(hp:(fun a x=>a.1.length<=1000000/\x.2.1.length<=1000000/\x.2.2.1.length<=1000000/\x.2.2.2.1.length<=1000000/\x.2.2.2.2.1.length<=1000000) (s,()) ((),n,w,y,t,(b,()),())):(cW Tryz.B Tryz.LF Tryz.f111 (LG s n w y t b) Tryz.o4 [.obj 0,.d .str,.obj 5] Tryz.Bf (s,()) ((),n,w,y,t,(b,()),())).holds:=by
 refine holds_of (p:=
  let za:=[(119:UInt8),101,97,107,32]
  let zb:=cb s za
  let zc:=parts (32:UInt8) (cb s dU)
  let zd:=n=n
  let ze:=w=w
  let zf:=y=y
  let zg:=t=t
  let zh:=(zd/\ze/\zf/\zg/\True)/\zd/\ze/\zf/\zg/\(b=b/\True)/\True
  let zi:=fun(E:List (List UInt8))=>(↑(bb E):Int)
  let zj:=fun(E:List (List UInt8))=>(0:Int)<=(0:Int)/\(0:Int)<zi E
  let zk:=fun(E:List (List UInt8))=>nth Ty.str E 0
  let zl:=fun(E:List (List UInt8))=>bb E<=aK
  let zm:=fun(E:List (List UInt8))=>zk E=kr/\bb E=2
  let zn:=fun(E:List (List UInt8))=>(0:Int)<=(1:Int)/\(1:Int)<zi E
  let zo:=fun(E:List (List UInt8))=>nth Ty.str E 1
  let zp:=(w,y,t,(b,()),())
  let zq:=PN (gG (SW ((),n,zp)) b s)
  let zr:=()=()
  let zs:=fun(E:List (List UInt8))=>zk E=jV/\bb E=2
  let zt:=fun(E:List (List UInt8))=>bb (zo E)<=1000000
  let zu:=fun(E:List (List UInt8))=>(dX (zo E)).1
  let zv:=fun(E:List (List UInt8))=>zk E=jj/\bb E=3
  let zw:=fun(E:List (List UInt8))=>(0:Int)<=(2:Int)/\(2:Int)<zi E
  let zx:=fun(E:List (List UInt8))=>nth Ty.str E 2
  let zy:=fun(E:List (List UInt8))=>bb (zx E)<=1000000
  let zz:=(cy s za,())
  let zaa:=fun(E:List (List UInt8))=>[(zo E,(dX (zx E)).1,zz)]
  let zab:=fun(E:List (List UInt8))=>zk E=mI/\bb E=3
  let zac:=bb t
  let zad:=fun(E:List (List UInt8))=>[(zu E,(1:Int),(dX (zx E)).1,@bc UInt8,false,())]
  let zae:=fun(E:List (List UInt8))=>((b || ck (cP (zo E)) || ck (cP (zx E)),()),())
  let zaf:=fun(E:List (List UInt8))=>zy E/\(True->(zg/\zac+bb (zad E)<=1000000000)/\zd/\ze/\zf/\t++zad E=t++zad E/\True/\((),n,w,y,t++zad E,zae E)=zq/\zr)
  let zag:=fun(E:List (List UInt8))=>(zk E=lD\/zk E=lh)/\bb E=4
  let zah:=fun(E:List (List UInt8))=>zl E->∃(x':Bool),(x'=true↔zag E)/\((zi E == (4:Int))=x'/\True)/\zh
  let zai:=fun(E:List (List UInt8))=>zk E == [(110:UInt8),101,97,114]
  let zaj:=fun(E:List (List UInt8))=>(0:Int)<=(3:Int)/\(3:Int)<zi E
  let zak:=fun(E:List (List UInt8))=>((dX (zx E)).1,nth Ty.str E 3,zz)
  let zal:=fun(E:List (List UInt8))=>t++[(zu E,(3:Int),zak E)]
  let zam:=fun(E:List (List UInt8))=>zy E/\(True->(zg/\zac+bb [(zu E,(3:Int),zak E)]<=1000000000)/\zd/\ze/\zf/\zal E=zal E/\True/\((),n,w,y,zal E,zae E)=zq/\zr)
  let zan:=fun(E:List (List UInt8))=>t++[(zu E,(2:Int),zak E)]
  let zao:=fun(E:List (List UInt8))=>zy E/\(True->(zg/\zac+bb [(zu E,(2:Int),zak E)]<=1000000000)/\zd/\ze/\zf/\zan E=zan E/\True/\((),n,w,y,zan E,zae E)=zq/\zr)
  True/\((bb zb<4294967281/\bb [(32:UInt8)]=1)/\∃(x':List (List UInt8)),x'=zc/\(parts (32:UInt8) zb=x'/\True)/\zh)/\∀E:List (List UInt8),E=zc->(zj E/\((zk E == [(110:UInt8),101,101,100])=true->zl E->∃(x':Bool),(x'=true↔zm E)/\((zi E == (2:Int))=x'/\True)/\zh)/\((zk E == [(110:UInt8),101,101,100])=false->∃(x':Bool),(x'=true↔zm E)/\(false=x'/\True)/\zh))/\∀F:Bool,(F=true↔zm E)->(F=true->zn E/\(zd/\bb n+bb [zo E]<=1000000000)/\n++[zo E]=n++[zo E]/\ze/\zf/\zg/\True/\((),n++[zo E],zp)=zq/\zr)/\(F=false->(zj E/\((zk E == [(119:UInt8),111,114,100])=true->zl E->∃(x':Bool),(x'=true↔zs E)/\((zi E == (2:Int))=x'/\True)/\zh)/\((zk E == [(119:UInt8),111,114,100])=false->∃(x':Bool),(x'=true↔zs E)/\(false=x'/\True)/\zh))/\∀G:Bool,(G=true↔zs E)->(G=true->zn E/\(fun a0:Prop=>a0/\a0) (zt E/\(True->(ze/\bb w+bb [zu E]<=1000000000)/\zd/\w++[zu E]=w++[zu E]/\zf/\zg/\True/\((),n,w++[zu E],y,t,(b || ck (cP (zo E)),()),())=zq/\zr)))/\(G=false->(zj E/\((zk E == [(115:UInt8),121,109,98,111,108])=true->zl E->∃(x':Bool),(x'=true↔zv E)/\((zi E == (3:Int))=x'/\True)/\zh)/\((zk E == [(115:UInt8),121,109,98,111,108])=false->∃(x':Bool),(x'=true↔zv E)/\(false=x'/\True)/\zh))/\∀I:Bool,(I=true↔zv E)->(I=true->zn E/\zw E/\(fun a0:Prop=>a0/\a0) (zy E/\(True->(zf/\bb y+bb (zaa E)<=1000000000)/\zd/\ze/\y++zaa E=y++zaa E/\zg/\True/\((),n,w,y++zaa E,t,(b || ck (cP (zx E)),()),())=zq/\zr)))/\(I=false->(zj E/\((zk E == [(98:UInt8),97,115,101])=true->zl E->∃(x':Bool),(x'=true↔zab E)/\((zi E == (3:Int))=x'/\True)/\zh)/\((zk E == [(98:UInt8),97,115,101])=false->∃(x':Bool),(x'=true↔zab E)/\(false=x'/\True)/\zh))/\∀K:Bool,(K=true↔zab E)->(K=true->zn E/\zw E/\(zt E/\(True->zaf E))/\zt E/\(True->(fun a0:Prop=>a0/\a0) (zaf E)))/\(K=false->(zj E/\((zk E == [(119:UInt8),104,111,108,101])=true->zah E)/\((zk E == [(119:UInt8),104,111,108,101])=false->zj E/\((zai E)=true->zah E)/\((zai E)=false->∃(x':Bool),(x'=true↔zag E)/\(false=x'/\True)/\zh)))/\∀M:Bool,(M=true↔zag E)->(M=true->zj E/\((zai E)=true->zn E/\zw E/\zaj E/\(zt E/\(True->zam E))/\zt E/\(True->(fun a0:Prop=>a0/\a0) (zam E)))/\((zai E)=false->zn E/\zw E/\zaj E/\(zt E/\(True->zao E))/\zt E/\(True->(fun a0:Prop=>a0/\a0) (zao E))))/\(M=false->zd/\ze/\zf/\zg/\True/\((),n,w,y,t,(true,()),())=zq/\zr)))))) (by kernel_rfl) ?_
 dsimp -iota -proj -eta only;dsimp only at hp;refine⟨ba,⟨⟨(by have:=HJ s [119,101,97,107,32];exact⟨by omega,rfl⟩),(⟨_,rfl,⟨rfl,ba⟩,(by trivial)⟩)⟩,fun E q_0=>⟨⟨?a,iQ (fun h0 h1 =>?b) (fun h0 =>?c)⟩,fun F q_1=>⟨fun h0=>⟨?d,?e,?f⟩,fun h0=>⟨⟨?g,iQ (fun h1 h2 =>?h) (fun h1 =>?i)⟩,fun G q_2=>⟨fun h1=>⟨?j,(show ∀{a0:Prop},a0->a0/\a0 from fun g0=>⟨g0,g0⟩) (⟨?k,fun h2=>⟨?l,?m⟩⟩)⟩,fun h1=>⟨⟨?n,iQ (fun h2 h3 =>?o) (fun h2 =>?p)⟩,fun I q_3=>⟨fun h2=>⟨?q,?r,(show ∀{a0:Prop},a0->a0/\a0 from fun g0=>⟨g0,g0⟩) (⟨?s,fun h3=>⟨?t,?u⟩⟩)⟩,fun h2=>⟨⟨?v,iQ (fun h3 h4 =>?w) (fun h3 =>?x)⟩,fun K q_4=>⟨fun h3=>⟨?y,?z,⟨⟨?a0,fun h4=>⟨?a1,fun h5=>⟨?a2,?a3⟩⟩⟩,⟨?a4,fun h4=>(show ∀{a0:Prop},a0->a0/\a0 from fun g0=>⟨g0,g0⟩) (⟨?a5,fun h5=>⟨?a6,?a7⟩⟩)⟩⟩⟩,fun h3=>⟨⟨?a8,iQ (fun h4 h5 =>?a9) (fun h4=>⟨?aa,iQ (fun h5 h6 =>?ab) (fun h5 =>?ac)⟩)⟩,fun M q_5=>⟨fun h4=>⟨?ad,iQ (fun h5=>⟨?ae,?af,?ag,⟨⟨?ah,fun h6=>⟨?ai,fun h7=>⟨?aj,?ak⟩⟩⟩,⟨?al,fun h6=>(show ∀{a0:Prop},a0->a0/\a0 from fun g0=>⟨g0,g0⟩) (⟨?am,fun h7=>⟨?an,?ao⟩⟩)⟩⟩⟩) (fun h5=>⟨?ap,?aq,?ar,⟨⟨?au,fun h6=>⟨?av,fun h7=>⟨?aw,?ax⟩⟩⟩,⟨?ay,fun h6=>(show ∀{a0:Prop},a0->a0/\a0 from fun g0=>⟨g0,g0⟩) (⟨?az,fun h7=>⟨?b0,?b1⟩⟩)⟩⟩⟩)⟩,fun h4 =>?b2⟩⟩⟩⟩⟩⟩⟩⟩⟩⟩⟩⟩
 case a|g|n|v|a8|aa|ad=>have:=SX q_0;omega
 case b|c|h|i|o|p|w|x|a9|ab|ac=>exact⟨_,by(simp_all <;> omega),⟨rfl,ba⟩,(by trivial)⟩
 case d|j|q|r|y|z|ae|af|ag|ap|aq|ar=>simp_all
 case e|l|t|a2|a6|aj|an|aw|b0=>exact⟨rfl,by simp only[b3];omega⟩
 case f|m|u|a3|a7|ak|ao|ax|b1|b2=>
  refine⟨rfl,rfl,rfl,rfl,ba,?_,rfl⟩
  first
  |(rw[M5 q_0 (q_1.1 ‹_›)];rfl)
  |(rw[M6 q_0 (lZ q_1 ‹_›) (q_2.1 ‹_›)];rfl)
  |(rw[PO q_0 (lZ q_1 ‹_›) (lZ q_2 ‹_›) (q_3.1 ‹_›)];rfl)
  |(rw[M7 q_0 (lZ q_1 ‹_›) (lZ q_2 ‹_›) (lZ q_3 ‹_›) (q_4.1 ‹_›)];rfl)
  |(rw[EK q_0 (lZ q_1 ‹_›) (lZ q_2 ‹_›) (lZ q_3 ‹_›) (lZ q_4 ‹_›) (q_5.1 ‹_›) (k:=3) (if_pos ‹_›).symm];rfl)
  |(rw[EK q_0 (lZ q_1 ‹_›) (lZ q_2 ‹_›) (lZ q_3 ‹_›) (lZ q_4 ‹_›) (q_5.1 ‹_›) (k:=2) (if_neg ‹_›).symm];rfl)
  |(rw[M8 q_0 (lZ q_1 ‹_›) (lZ q_2 ‹_›) (lZ q_3 ‹_›) (lZ q_4 ‹_›) (lZ q_5 ‹_›)];rfl)
 case k|a0|a4|ah|al|au|ay=>have:=Le q_0 1;omega
 case s|a1|a5|ai|am|av|az=>have:=Le q_0 2;omega
def Tryz.TR:bZ Tryz.prog Tryz.B.eT Tryz.X 111 false (aY Tryz.o4 [.obj 0,.d .str,.obj 5] (fun a x=>a.1.length<=1000000/\x.2.1.length<=1000000/\x.2.2.1.length<=1000000/\x.2.2.2.1.length<=1000000/\x.2.2.2.2.1.length<=1000000) Tryz.Bf):=
 bG (X:=Tryz.X) Tryz.Re Tryz.func111 (by kernel_rfl) (fun(a:CD [.obj 0,.d .str,.obj 5]) (x:PD Tryz.o4)=>LG a.1 x.2.1 x.2.2.1 x.2.2.2.1 x.2.2.2.2.1 x.2.2.2.2.2.1.1) (fun(a:CD [.obj 0,.d .str,.obj 5]) (x:PD Tryz.o4) hw hp=>TQ a.1 x.2.1 x.2.2.1 x.2.2.2.1 x.2.2.2.2.1 x.2.2.2.2.2.1.1 hw hp)
def TS(n:Int)(hw:fY [.int .i64] n):(cV Tryz.B [] Tryz.f106 [] [.int .i64] [.bool] (fun x y=>y=(fun n=>ic n) x) n).holds:=by
 refine holds_of (p:=
  ((decide (n>=(-2147483648:Int)))=true->decide (n<=2147483647)=ic n)/\((decide (n>=(-2147483648:Int)))=false->false=ic n)) (by kernel_rfl) ?_
 refine iE (fun h0 =>?a) (fun h0 =>?b)
 case a|b=>unfold ic;rw[dy];simp;omega
def Tryz.I0:bT Tryz.prog Tryz.B.eT Tryz.X 106 [.int .i64] [.bool] (fun _=>True) (fun x y=>y=(fun n=>ic n) x):=
 bW (X:=Tryz.X) (bR Tryz.bQ) Tryz.func106 (by kernel_rfl) (fun _=>[]) (fun x hw hp=>TS x hw)
def Fu(l:List (List UInt8))(s:List UInt8):dL:=[(0,fun st=>{X:=Nat,inv:=fun i=>i<=l.length/\∀j,j<i->nth .str l j≠s,bX:=fun i=>l.length-i,bK:=fun i=>[(8,sI i)],keep:=[0,1,7]})]
def Rf(l:List (List UInt8))(s:List UInt8)(hw:fY [.slice .str,.str] (l,s)):(cV Tryz.B [] Tryz.f112 (Fu l s) [.slice .str,.str] [.int .i64] (fun x y=>(y= -1/\∀j,j<x.1.length->nth .str x.1 j≠x.2)\/(0<=y/\y.toNat<x.1.length/\nth .str x.1 y.toNat=x.2)) (l,s)).holds:=by
 refine holds_of (p:=
  let za:=bb l
  let zb:=(-1:Int)
  let zc:=∀(j:Nat),j<za->nth Ty.str l j≠s
  za<=aK->(∃(x:Nat),(x<=za/\∀(j:Nat),j<x->nth Ty.str l j≠s)/\(0=(↑x:Int)/\True)/\True)/\∀E:Nat,(E<=za/\∀(j:Nat),j<E->nth Ty.str l j≠s)->((decide ((↑E:Int)<(↑za:Int)))=true->(0<=(↑E:Int)/\(↑E:Int)<(↑za:Int))/\((s == nth Ty.str l E)=true->(↑E:Int)=zb/\zc\/0<=(↑E:Int)/\E<za/\nth Ty.str l E=s)/\((s == nth Ty.str l E)=false->aJ (↑E:Int)->aJ 1->aJ ((↑E:Int)+1)/\∃(x':Nat),(x'<=za/\∀(j:Nat),j<x'->nth Ty.str l j≠s)/\za-x'<za-E/\((↑E:Int)+1=(↑x':Int)/\True)/\True))/\((decide ((↑E:Int)<(↑za:Int)))=false->zb=zb/\zc\/0<=zb/\bd zb<za/\nth Ty.str l (bd zb)=s)) (by kernel_rfl) ?_
 dsimp -iota -proj -eta only;exact fun h0=>⟨(⟨0,⟨by omega,fun j hj=>by omega⟩,⟨rfl,ba⟩,ba⟩),fun E q_0=>iL (fun h1=>⟨(by omega),iQ (fun h2=>(by simp_all)) (fun h2 h3 h4=>⟨(by simp only[aJ,aK]at*;omega),(⟨E+1,⟨by omega,jU q_0.2 fun e=>(by assumption:¬_) e.symm⟩,by omega,⟨by omega,ba⟩,(by trivial)⟩)⟩)⟩) (fun h1=>(.inl ⟨rfl,fun j hj=>q_0.2 j (by omega)⟩))⟩
def Tryz.Rg:bT Tryz.prog Tryz.B.eT Tryz.X 112 [.slice .str,.str] [.int .i64] (fun _=>True) (fun x y=>(y= -1/\∀j,j<x.1.length->nth .str x.1 j≠x.2)\/(0<=y/\y.toNat<x.1.length/\nth .str x.1 y.toNat=x.2)):=
 bW (X:=Tryz.X) (bR Tryz.bQ) Tryz.func112 (by kernel_rfl) (fun x=>Fu x.1 x.2) (fun x hw hp=>Rf x.1 x.2 hw)
def Tryz.Fv:List (FuncId×(Bool×aT)):=[(112,(true,mW [.slice .str,.str] [.int .i64] (fun _=>True) (fun x y=>(y= -1/\∀j,j<x.1.length->nth .str x.1 j≠x.2)\/(0<=y/\y.toNat<x.1.length/\nth .str x.1 y.toNat=x.2))))]
def Tryz.Kr:bN Tryz.prog Tryz.B Tryz.X Tryz.Fv:=
 aP (fD Tryz.Rg) (bR Tryz.bQ)
def I1(l:List (List UInt8))(s:List UInt8)(hw:fY [.slice .str,.str] (l,s)):(cV Tryz.B Tryz.Fv Tryz.f78 [] [.slice .str,.str] [.bool] (fun x y=>y=(fun x=>x.1.any (· == x.2)) x) (l,s)).holds:=by
 refine holds_of (p:=
  True/\∀E:Int,((E=(-1:Int)/\∀(j:Nat),j<bb l->nth Ty.str l j≠s)\/0<=E/\bd E<bb l/\nth Ty.str l (bd E)=s)->decide (E>=0)=da l fun(x:List UInt8)=>x == s) (by kernel_rfl) ?_
 exact⟨ba,fun E q_0=>(contains_of q_0)⟩
def Tryz.xV:bT Tryz.prog Tryz.B.eT Tryz.X 78 [.slice .str,.str] [.bool] (fun _=>True) (fun x y=>y=(fun x=>x.1.any (· == x.2)) x):=
 bW (X:=Tryz.X) Tryz.Kr Tryz.func78 (by kernel_rfl) (fun _=>[]) (fun x hw hp=>I1 x.1 x.2 hw)
def Tryz.Fw:List (FuncId×(Bool×aT)):=[(127,(false,gx Tryz.B [] Tryz.f127 []))]
def Tryz.Ks:bN Tryz.prog Tryz.B Tryz.X Tryz.Fw:=
 aP (eP (bR Tryz.bQ) Tryz.func127 (by kernel_rfl) []) (bR Tryz.bQ)
def Fx:dL:=[(0,fun st=>{X:=Nat,inv:=fun i=>i<=(cU (.slice aR) st 0).length/\∀j,j<i->(nth aR (cU (.slice aR) st 0) j).1≠(Sp aR st (Mx st 1 0)).1,bX:=fun i=>(cU (.slice aR) st 0).length-i,bK:=fun i=>[(8,sI i)],keep:=[0,1,7]})]
def Tryz.LH:List (FuncId×(Bool×aT)):=[(143,(false,gx Tryz.B Tryz.Fw Tryz.f143 Fx))]
def Tryz.Rh:bN Tryz.prog Tryz.B Tryz.X Tryz.LH:=
 aP (eP Tryz.Ks Tryz.func143 (by kernel_rfl) Fx) (bR Tryz.bQ)
def Tryz.LI:List (FuncId×(Bool×aT)):=[(76,Tryz.spZ0),(99,Tryz.spZ1),(21,Tryz.spZ2),(126,(false,gx Tryz.B Tryz.LH Tryz.f126 []))]
def Tryz.Ri:bN Tryz.prog Tryz.B Tryz.X Tryz.LI:=
 aP (aE Tryz.jm) (aP (aE Tryz.fH) (aP (aE Tryz.im) (aP (eP Tryz.Rh Tryz.func126 (by kernel_rfl) []) (bR Tryz.bQ))))
def CQ(o:D aA):dL:=[(0,fun st=>{X:=Nat,inv:=fun i=>kQ o.2.1.length o.2.2.1 i,bX:=fun i=>o.2.2.1.length-i,bK:=fun i=>[(9,sI i)],keep:=[1,7,8]})]
def Kt(o:D aA)(hw:fY [aA] o):(cV Tryz.B Tryz.LI Tryz.f107 (CQ o) [aA] [.err] (fun x y=>y=(fun o=>aI (ie o.2.1.length [] o.2.2.1)) x) o).holds:=by
 refine holds_of (p:=
  let za:=o.2.2.1
  let zb:=bb za
  let zc:=bb o.2.1
  let zd:=fun(E:Nat)=>(↑E:Int)
  let ze:=fun(E:Nat)=>(0:Int)<=zd E
  let zf:=fun(E:Nat)=>(nth aR za E).1
  let zg:=aI (ie zc (@bc (List UInt8×Int×Bool×Unit)) za)
  let zh:=fun(E:Nat)=>(nth aR za E).2.1
  let zi:=aM.no (1:Int)=zg
  let zj:=fun(E:Nat)=>bj 0 (bg E za)
  let zk:=fun(E:Nat)=>bb (zj E)
  let zl:=aM.no (3:Int)=zg
  let zm:=(o.1=o.1/\o.2.1=o.2.1/\za=za/\o.2.2.2.1=o.2.2.2.1/\True)/\True
  let zn:=fun(E:Nat)=>aJ (zd E)->aJ (1:Int)->aJ (zd E+(1:Int))/\∃(x':Nat),kQ zc za x'/\zb-x'<zb-E/\(zd E+(1:Int)=(↑x':Int)/\True)/\zm
  zb<=aK->(∃(x:Nat),kQ zc za x/\((0:Int)=(↑x:Int)/\True)/\True)/\∀E:Nat,kQ zc za E->((decide (zd E<(↑zb:Int)))=true->(ze E/\zd E<(↑zb:Int))/\True/\((!aM.isNil (aI (aN (zf E))))=true->aI (aN (zf E))=zg)/\((!aM.isNil (aI (aN (zf E))))=false->((decide (zh E<(0:Int)))=true->zi)/\((decide (zh E<(0:Int)))=false->zc<=aK->((decide (zh E>=(↑zc:Int)))=true->zi)/\((decide (zh E>=(↑zc:Int)))=false->((0:Int)<=(0:Int)/\ze E/\zd E<=(↑zb:Int))/\(zk E<=aK->(∃(x:Nat),(x<=zk E/\∀(j:Nat),j<x->(nth aR (zj E) j).1≠zf E)/\((0:Int)=(↑x:Int)/\True)/\True)/\∀F:Nat,(F<=zk E/\∀(j:Nat),j<F->(nth aR (zj E) j).1≠zf E)->((decide (zd F<(↑(zk E):Int)))=true->(ze F/\zd F<(↑(zk E):Int))/\(((nth aR (zj E) F).1 == zf E)=true->((decide (zd F>=(0:Int)))=true->zl)/\((decide (zd F>=(0:Int)))=false->zn E))/\(((nth aR (zj E) F).1 == zf E)=false->aJ (zd F)->aJ (1:Int)->aJ (zd F+(1:Int))/\∃(x':Nat),(x'<=zk E/\∀(j:Nat),j<x'->(nth aR (zj E) j).1≠zf E)/\zk E-x'<zk E-F/\(zd F+(1:Int)=(↑x':Int)/\True)/\(zf E=zf E/\zh E=zh E/\(nth aR za E).2.2.1=(nth aR za E).2.2.1/\True)/\zm))/\((decide (zd F<(↑(zk E):Int)))=false->((decide ((-1:Int)>=(0:Int)))=true->zl)/\((decide ((-1:Int)>=(0:Int)))=false->zn E)))))))/\((decide (zd E<(↑zb:Int)))=false->aM.nil=zg)) (by kernel_rfl) ?_
 dsimp -iota -proj -eta only;refine fun h0=>⟨(⟨0,.zero _ _,⟨rfl,ba⟩,ba⟩),fun E q_0=>iL (fun h1=>⟨?a,ba,iB (fun h2=>(by rw[q_0.fault (by omega) (mZ (eU _) h2)])) (fun h2=>iL (fun h3=>(by rw[q_0.out (by omega) (dE h2) (.inl (by omega))];rfl)) (fun h3 h4=>iE (fun h5=>(by rw[q_0.out (by omega) (dE h2) (.inr (by omega))];rfl)) (fun h5=>⟨?b,fun h6=>⟨(⟨0,⟨by omega,fun j hj=>by omega⟩,⟨rfl,ba⟩,ba⟩),fun F q_1=>iL (fun h7=>⟨?c,iQ (fun h8=>⟨fun h9=>(by rw[EA q_0.le]at h7;rw[Ez (i:=E) (j:=F) (by omega)]at h8;rw[q_0.dup (by omega) (dE h2) (fun h=>h.elim (fun h=>absurd h (Int.not_lt.2 h3)) (fun h=>absurd h (Int.not_le.2 h5))) (Hf (t:=aR) (j:=F) (by omega) q_0.le (by simpa using h8))];rfl),fun h9=>absurd (show true=false from h9) (by decide)⟩) (fun h8 h9 h10=>⟨?d,(⟨F+1,⟨by omega,jU q_1.2 ‹_›⟩,by omega,⟨by omega,ba⟩,(by trivial)⟩)⟩)⟩) (fun h7=>⟨fun h8=>absurd (show false=true from h8) (by decide),fun h8 h9 h10=>⟨?e,(by have hx:=EA q_0.le;exact⟨E+1,q_0.next (by omega) (dE h2) (fun h=>h.elim (fun h=>absurd h (Int.not_lt.2 h3)) (fun h=>absurd h (Int.not_le.2 h5))) (En (t:=aR) fun j hj=>by have:=q_1.2 j (by omega);rw[Ez hj]at this;simpa using this),by omega,⟨by omega,ba⟩,(by trivial)⟩)⟩⟩)⟩⟩)))⟩) (fun h1=>(by rw[q_0.done (by omega)];rfl))⟩
 case a|b|c=>omega
 case d|e=>simp only[aJ,aK]at*;omega
def Tryz.Ku:bT Tryz.prog Tryz.B.eT Tryz.X 107 [aA] [.err] (fun _=>True) (fun x y=>y=(fun o=>aI (ie o.2.1.length [] o.2.2.1)) x):=
 bW (X:=Tryz.X) Tryz.Ri Tryz.func107 (by kernel_rfl) (fun x=>CQ x) (fun x hw hp=>Kt x hw)
def Tryz.spZ22:Bool×aT:=(true,cB [.int .i64] [.bool] (fun _=>True) (fun n=>ic n))
def Tryz.LJ:List (FuncId×(Bool×aT)):=[(76,Tryz.spZ0),(99,Tryz.spZ1),(21,Tryz.spZ2),(106,Tryz.spZ22)]
def Tryz.Rj:bN Tryz.prog Tryz.B Tryz.X Tryz.LJ:=
 aP (aE Tryz.jm) (aP (aE Tryz.fH) (aP (aE Tryz.im) (aP (aE Tryz.I0) (bR Tryz.bQ))))
def LK(o:D aA):dL:=[(0,fun st=>{X:=Nat,inv:=fun i=>nI o.2.1.length o.2.2.2.1 i,bX:=fun i=>o.2.2.2.1.length-i,bK:=fun i=>[(9,sI i)],keep:=[1,7,8]})]
def TT(o:D aA)(hw:fY [aA] o):(cV Tryz.B Tryz.LJ Tryz.f108 (LK o) [aA] [.err] (fun x y=>y=(fun o=>aI (kP o.2.1.length none o.2.2.2.1)) x) o).holds:=by
 refine holds_of (p:=
  let za:=o.2.2.2.1
  let zb:=bb za
  let zc:=bb o.2.1
  let zd:=fun(E:Nat)=>(↑E:Int)
  let ze:=fun(E:Nat)=>(nth bB za E).1
  let zf:=aI (kP zc none za)
  let zg:=aM.no 1=zf
  let zh:=fun(E:Nat)=>(nth bB za E).2.1
  let zi:=aM.no 3=zf
  let zj:=fun(E:Nat)=>zd E-1
  let zk:=fun(E:Nat)=>aJ (zd E)->aJ 1->aJ (zd E+1)/\∃(x':Nat),nI zc za x'/\zb-x'<zb-E/\(zd E+1=(↑x':Int)/\True)/\(o.1=o.1/\o.2.1=o.2.1/\o.2.2.1=o.2.2.1/\za=za/\True)/\True
  let zl:=fun(E:Nat)=>aI (aN (nth bB za E).2.2.2.1)
  let zm:=fun(E:Nat)=>((zh E == 1)=true->((!(nth bB za E).2.2.2.1 == @bc UInt8)=true->zi)/\((!(nth bB za E).2.2.2.1 == @bc UInt8)=false->(((nth bB za E).2.2.2.2.1)=true->zi)/\(((nth bB za E).2.2.2.2.1)=false->zk E)))/\((zh E == 1)=false->True/\((!aM.isNil (zl E))=true->zl E=zf)/\((!aM.isNil (zl E))=false->zk E))
  zb<=aK->(∃(x:Nat),nI zc za x/\(0=(↑x:Int)/\True)/\True)/\∀E:Nat,nI zc za E->((decide (zd E<(↑zb:Int)))=true->(0<=zd E/\zd E<(↑zb:Int))/\((decide (ze E<0))=true->zg)/\((decide (ze E<0))=false->zc<=aK->((decide (ze E>=(↑zc:Int)))=true->zg)/\((decide (ze E>=(↑zc:Int)))=false->True/\((!ic (nth bB za E).2.2.1)=true->zg)/\((!ic (nth bB za E).2.2.1)=false->((decide (zh E<1))=true->zi)/\((decide (zh E<1))=false->((decide (zh E > 3))=true->zi)/\((decide (zh E > 3))=false->((decide (zd E > 0))=true->aJ (zd E)->aJ 1->aJ (zj E)/\(0<=zj E/\zj E<(↑zb:Int))/\((decide ((nth bB za (bd (zj E))).1>=ze E))=true->zi)/\((decide ((nth bB za (bd (zj E))).1>=ze E))=false->zm E))/\((decide (zd E > 0))=false->zm E)))))))/\((decide (zd E<(↑zb:Int)))=false->aM.nil=zf)) (by kernel_rfl) ?_
 dsimp -iota -proj -eta only;refine fun h0=>⟨(⟨0,.zero _ _,⟨rfl,ba⟩,ba⟩),fun E q_0=>iL (fun h1=>⟨?a,iL (fun h2 =>?b) (fun h2 h3=>iE (fun h4 =>?c) (fun h4=>⟨ba,iB (fun h5 =>?d) (fun h5=>iL (fun h6 =>?e) (fun h6=>iL (fun h7 =>?f) (fun h7=>iL (fun h8 h9 h10=>⟨?g,?h,iE (fun h11 =>?i) (fun h11=>iQ (fun h12=>⟨fun h13 =>?j,fun h13=>⟨fun h14 =>?k,fun h14 h15 h16=>⟨?l,?m⟩⟩⟩) (fun h12=>⟨ba,iB (fun h13=>(by rw[q_0.fault (by omega) (f:=aN (nth bB o.2.2.2.1 E).2.2.2.1) (by unfold mY oC oh;grind) (by have:=mZ (eU _) h13;omega)])) (fun h13 h14 h15=>⟨?n,(by have:=aQ.1 h13;exact⟨E+1,q_0.next (by omega) (by unfold mY oC oh;grind),by omega,⟨by omega,ba⟩,(by trivial)⟩)⟩)⟩))⟩) (fun h8=>iQ (fun h9=>⟨fun h10 =>?o,fun h10=>⟨fun h11 =>?p,fun h11 h12 h13=>⟨?q,?r⟩⟩⟩) (fun h9=>⟨ba,iB (fun h10=>(by rw[q_0.fault (by omega) (f:=aN (nth bB o.2.2.2.1 E).2.2.2.1) (by unfold mY oC oh;grind) (by have:=mZ (eU _) h10;omega)])) (fun h10 h11 h12=>⟨?s,(by have:=aQ.1 h10;exact⟨E+1,q_0.next (by omega) (by unfold mY oC oh;grind),by omega,⟨by omega,ba⟩,(by trivial)⟩)⟩)⟩)))))⟩))⟩) (fun h1=>(by rw[q_0.done (by omega)];rfl))⟩
 case a|h=>omega
 case b|c|d=>rw[q_0.fault (by omega) (f:=1) (by unfold mY;grind) (by decide)];rfl
 case e|f|i=>rw[q_0.fault (by omega) (f:=3) (by unfold mY oC oh;grind) (by decide)];rfl
 case g|n|s=>simp only[aJ,aK]at*;omega
 case j|k=>
  simp only[bl,reduceCtorEq]at h13;rw[q_0.fault (by omega) (f:=3) (by unfold mY oC oh;grind) (by decide)];rfl
 case l=>
  simp only[bl,reduceCtorEq]at h13;simp only[aJ,aK]at*;omega
 case m=>
  simp only[bl,reduceCtorEq]at h13;exact⟨E+1,q_0.next (by omega) (by unfold mY oC oh;grind),by omega,⟨by omega,ba⟩,(by trivial)⟩
 case o|p=>
  simp only[bl,reduceCtorEq]at h10;rw[q_0.fault (by omega) (f:=3) (by unfold mY oC oh;grind) (by decide)];rfl
 case q=>
  simp only[bl,reduceCtorEq]at h10;simp only[aJ,aK]at*;omega
 case r=>
  simp only[bl,reduceCtorEq]at h10;exact⟨E+1,q_0.next (by omega) (by unfold mY oC oh;grind),by omega,⟨by omega,ba⟩,(by trivial)⟩
def Tryz.TU:bT Tryz.prog Tryz.B.eT Tryz.X 108 [aA] [.err] (fun _=>True) (fun x y=>y=(fun o=>aI (kP o.2.1.length none o.2.2.2.1)) x):=
 bW (X:=Tryz.X) Tryz.Rj Tryz.func108 (by kernel_rfl) (fun x=>LK x) (fun x hw hp=>TT x hw)
def Tryz.spZ23:Bool×aT:=(true,cB [.slice .str,.str] [.bool] (fun _=>True) (fun x=>x.1.any (· == x.2)))
def Tryz.Fy:List (FuncId×(Bool×aT)):=[(76,Tryz.spZ0),(99,Tryz.spZ1),(21,Tryz.spZ2),(78,Tryz.spZ23),(106,Tryz.spZ22),(107,(true,cB [aA] [.err] (fun _=>True) (fun o=>aI (ie o.2.1.length [] o.2.2.1)))),(108,(true,cB [aA] [.err] (fun _=>True) (fun o=>aI (kP o.2.1.length none o.2.2.2.1))))]
def Tryz.Kv:bN Tryz.prog Tryz.B Tryz.X Tryz.Fy:=
 aP (aE Tryz.jm) (aP (aE Tryz.fH) (aP (aE Tryz.im) (aP (aE Tryz.xV) (aP (aE Tryz.I0) (aP (aE Tryz.Ku) (aP (aE Tryz.TU) (bR Tryz.bQ)))))))
def Fz(o:D aA):dL:=[
 (0,fun st=>{X:=Nat,inv:=fun i=>ke o.1 i,bX:=fun i=>o.1.length-i,bK:=fun i=>[(41,sI i)],keep:=[1,39,40]}),
 (2,fun st=>{X:=Nat,inv:=fun i=>lz o.2.1 i,bX:=fun i=>o.2.1.length-i,bK:=fun i=>[(62,sI i)],keep:=[1,60,61]})]
def Rl(o:D aA)(hw:fY [aA] o):(cV Tryz.B Tryz.Fy Tryz.f70 (Fz o) [aA] [.err] (fun x y=>y=(fun o=>aI (cX o)) x) o).holds:=by
 refine holds_of (p:=
  let za:=bb o.1
  let zb:=(↑za:Int)
  let zc:=aI (cX o)
  let zd:=aM.no (2:Int)=zc
  let ze:=o.2.1
  let zf:=bb ze
  let zg:=zf<=aK
  let zh:=(↑zf:Int)
  let zi:=o.2.2.1
  let zj:=o.2.2.2.1
  let zk:=fun(E:Nat)=>(↑E:Int)
  let zl:=fun(E:Nat)=>(0:Int)<=zk E
  let zm:=fun(E:Nat)=>aI (aN (nth Ty.str o.1 E))
  let zn:=(o.1=o.1/\ze=ze/\zi=zi/\zj=zj/\True)/\True
  let zo:=aI (ie zf (@bc (List UInt8×Int×Bool×Unit)) zi)
  za<=aK->((decide (zb > (4:Int)))=true->zd)/\((decide (zb > (4:Int)))=false->zg->((decide (zh<(1:Int)))=true->zd)/\((decide (zh<(1:Int)))=false->zg->((decide (zh > (40:Int)))=true->zd)/\((decide (zh > (40:Int)))=false->bb zi<=aK->((decide ((↑(bb zi):Int) > (8:Int)))=true->zd)/\((decide ((↑(bb zi):Int) > (8:Int)))=false->bb zj<=aK->((decide ((↑(bb zj):Int) > (6:Int)))=true->zd)/\((decide ((↑(bb zj):Int) > (6:Int)))=false->za<=aK->(∃(x:Nat),ke o.1 x/\((0:Int)=(↑x:Int)/\True)/\True)/\∀E:Nat,ke o.1 E->((decide (zk E<zb))=true->(zl E/\zk E<zb)/\True/\((!aM.isNil (zm E))=true->zm E=zc)/\((!aM.isNil (zm E))=false->((0:Int)<=(0:Int)/\zl E/\zk E<=zb)/\True/\((da (bj 0 (bg E o.1)) fun(x:List UInt8)=>x == nth Ty.str o.1 E)=true->aM.no (3:Int)=zc)/\((da (bj 0 (bg E o.1)) fun(x:List UInt8)=>x == nth Ty.str o.1 E)=false->aJ (zk E)->aJ (1:Int)->aJ (zk E+(1:Int))/\∃(x':Nat),ke o.1 x'/\za-x'<za-E/\(zk E+(1:Int)=(↑x':Int)/\True)/\zn)))/\((decide (zk E<zb))=false->zg->(∃(x:Nat),lz ze x/\((0:Int)=(↑x:Int)/\True)/\True)/\∀F:Nat,lz ze F->((decide (zk F<zh))=true->(zl F/\zk F<zh)/\True/\((!ic (nth (Ty.int bm) ze F))=true->aM.no (1:Int)=zc)/\((!ic (nth (Ty.int bm) ze F))=false->aJ (zk F)->aJ (1:Int)->aJ (zk F+(1:Int))/\∃(x':Nat),lz ze x'/\zf-x'<zf-F/\(zk F+(1:Int)=(↑x':Int)/\True)/\zn))/\((decide (zk F<zh))=false->True/\((!aM.isNil zo)=true->zo=zc)/\((!aM.isNil zo)=false->True/\aI (kP zf none zj)=zc))))))))) (by kernel_rfl) ?_
 dsimp -iota -proj -eta only;refine fun h0=>iL (fun h1 =>?a) (fun h1 h2=>iL (fun h3 =>?b) (fun h3 h4=>iL (fun h5 =>?c) (fun h5 h6=>iL (fun h7 =>?d) (fun h7 h8=>iL (fun h9 =>?e) (fun h9 h10=>⟨?f,fun E q_0=>iL (fun h11=>⟨?g,ba,iB (fun h12=>(by have hf:=mZ (eU _) h12;rw[w7 (by unfold lW;omega) (q_0.fault (by omega) hf) (by omega)])) (fun h12=>⟨?h,ba,⟨fun h13=>(by rw[c6]at h13;rw[w7 (by unfold lW;omega) (q_0.dup (by omega) (dE h12) h13) (by decide)];rfl),fun h13 h14 h15=>⟨?i,(by rw[c6]at h13;exact⟨E+1,q_0.next (by omega) (dE h12) h13,by omega,⟨by omega,ba⟩,(by trivial)⟩)⟩⟩⟩)⟩) (fun h11 h12=>⟨?j,fun F q_1=>iL (fun h13=>⟨?k,ba,iB (fun h14=>(by rw[Hg (by unfold lW;omega) (q_0.done (by omega)) (q_1.fault (by omega) h14) (by decide)];rfl)) (fun h14 h15 h16=>⟨?l,(⟨F+1,q_1.next (by omega) h14,by omega,⟨by omega,ba⟩,(by trivial)⟩)⟩)⟩) (fun h13=>⟨ba,iB (fun h14=>(by have hf:=mZ (w6 _ _ _) h14;rw[JQ (by unfold lW;omega) (q_0.done (by omega)) (q_1.done (by omega)) rfl (by omega)])) (fun h14=>⟨ba,(by rw[JR (by unfold lW;omega) (q_0.done (by omega)) (q_1.done (by omega)) (aQ.1 h14) rfl])⟩)⟩)⟩)⟩)))))
 case a|b|c|d|e=>rw[JP (by unfold lW;omega)];rfl
 case f|j=>exact⟨0,.zero _,⟨rfl,ba⟩,ba⟩
 case g|h|k=>omega
 case i|l=>simp only[aJ,aK]at*;omega
def Tryz.Rm:bT Tryz.prog Tryz.B.eT Tryz.X 70 [aA] [.err] (fun _=>True) (fun x y=>y=(fun o=>aI (cX o)) x):=
 bW (X:=Tryz.X) Tryz.Kv Tryz.func70 (by kernel_rfl) (fun x=>Fz x) (fun x hw hp=>Rl x hw)
def N5(b:Bool)(hw:fY [.bool] b):(cV Tryz.B [] Tryz.f73 [] [.bool] [.str] (fun x y=>y=(fun b=>iH b) x) b).holds:=by
 refine holds_of (p:=
  (b=true->[119,101,97,107,32]=iH b)/\(b=false->(@bc UInt8=iH b))) (by kernel_rfl) ?_
 refine⟨fun h0 =>?a,fun h0 =>?b⟩
 case a|b=>cases b <;> first|rfl|simp_all
def Tryz.N6:bT Tryz.prog Tryz.B.eT Tryz.X 73 [.bool] [.str] (fun _=>True) (fun x y=>y=(fun b=>iH b) x):=
 bW (X:=Tryz.X) (bR Tryz.bQ) Tryz.func73 (by kernel_rfl) (fun _=>[]) (fun x hw hp=>N5 x hw)
def Tryz.I2:List (FuncId×(Bool×aT)):=[(76,Tryz.spZ0),(99,Tryz.spZ1),(21,Tryz.spZ2),(72,(false,rW 144 5)),(75,(false,qH 144 5)),(74,(true,wR 144 5)),(71,Tryz.spZ3),(70,(true,cB [aA] [.err] (fun _=>True) (fun o=>aI (cX o)))),(73,(true,cB [.bool] [.str] (fun _=>True) (fun b=>iH b)))]
def Tryz.N7:bN Tryz.prog Tryz.B Tryz.X Tryz.I2:=
 aP (aE Tryz.jm) (aP (aE Tryz.fH) (aP (aE Tryz.im) (aP (Tryz.z7) (aP (Tryz.xO) (aP (Tryz.Fg) (aP (aE Tryz.oT) (aP (aE Tryz.Rm) (aP (aE Tryz.N6) (bR Tryz.bQ)))))))))
def I3(o:D aA):dL:=[
 (0,fun st=>{X:=Nat,inv:=fun i=>i<=o.1.length,bX:=fun i=>o.1.length-i,bK:=fun i=>[(23,sI i)],keep:=[1,2,3,5,6,21,22],aF:=fun i=>[(bJ st 5,.ext 2 kx (bI (pC o i),(144:Int),(5:Int),()))],gY:=[bJ st 5]}),
 (2,fun st=>{X:=Nat,inv:=fun i=>i<=o.2.1.length,bX:=fun i=>o.2.1.length-i,bK:=fun i=>[(35,sI i)],keep:=[1,2,3,5,6,33,34],aF:=fun i=>[(bJ st 5,.ext 2 kx (bI (nU o i),(144:Int),(5:Int),()))],gY:=[bJ st 5]}),
 (4,fun st=>{X:=Nat,inv:=fun i=>i<=o.2.2.1.length,bX:=fun i=>o.2.2.1.length-i,bK:=fun i=>[(49,sI i)],keep:=[1,2,3,5,6,47,48],aF:=fun i=>[(bJ st 5,.ext 2 kx (bI (nV o i),(144:Int),(5:Int),()))],gY:=[bJ st 5]}),
 (6,fun st=>{X:=Nat,inv:=fun i=>i<=o.2.2.2.1.length,bX:=fun i=>o.2.2.2.1.length-i,bK:=fun i=>[(72,sI i)],keep:=[2,3,5,6,70,71],aF:=fun i=>[(bJ st 5,.ext 2 kx (bI (jA o i),(144:Int),(5:Int),()))],gY:=[bJ st 5]})]
def TV(o:D aA)(hw:fY [aA] o):(cV (nE Tryz.B [41,64,91,85,104,110,123,129]) Tryz.I2 Tryz.f28 (I3 o) [aA] [.str,.err] (fun x y=>y=(fun o=>kq o) x) o).holds:=by
 refine holds_of (p:=
  let za:=aI (cX o)
  let zb:=kq o
  let zc:=bb o.1
  let zd:=(↑(144:Nat):Int)
  let ze:=fun(b:UInt8)=>(↑(b4 b):Int)
  let zf:=((144:Int),(5:Int),())
  let zg:=fun(E:Nat)=>(↑E:Int)
  let zh:=fun(E:Nat)=>(0:Int)<=zg E
  let zi:=[(110:UInt8),101,101,100,32]
  let zj:=[(10:UInt8)]
  let zk:=bb zj
  let zl:=(144:Int)=zd
  let zm:=(↑(5:Nat):Int)
  let zn:=(5:Int)=zm
  let zo:=fun(E:Nat)=>bo ze (pC o E)
  let zp:=fun(E:Nat)=>zi++nth Ty.str o.1 E++zj
  let zq:=fun(E:Nat)=>aJ (zg E)
  let zr:=aJ (1:Int)
  let zs:=fun(E:Nat)=>zg E+(1:Int)
  let zt:=fun(E:Nat)=>aJ (zs E)
  let zu:=(zd,zm,())
  let zv:=o.2.1
  let zw:=o.2.2.1
  let zx:=o.2.2.2.1
  let zy:=(o.1=o.1/\zv=zv/\zw=zw/\zx=zx/\True)/\True
  let zz:=bb zv
  let zaa:=[(119:UInt8),111,114,100,32]
  let zab:=fun(F:Nat)=>zaa++bp (nth (Ty.int bm) zv F)
  let zac:=fun(F:Nat)=>bo ze (nU o F)
  let zad:=bb zw
  let zae:=fun(G:Nat)=>iH (nth aR zw G).2.2.1
  let zaf:=[(115:UInt8),121,109,98,111,108,32]
  let zag:=fun(G:Nat)=>zae G++zaf++(nth aR zw G).1
  let zah:=[(32:UInt8)]
  let zai:=bb zah
  let zaj:=fun(G:Nat)=>bp (nth aR zw G).2.1
  let zak:=fun(G:Nat)=>bo ze (nV o G)
  let zal:=fun(G:Nat)=>zag G++zah++zaj G++zj
  let zam:=bb zx
  let zan:=[(98:UInt8),97,115,101,32]
  let zao:=fun(I:Nat)=>bp (nth bB zx I).1
  let zap:=fun(I:Nat)=>bp (nth bB zx I).2.2.1
  let zaq:=fun(I:Nat)=>zan++zao I++zah++zap I
  let zar:=fun(I:Nat)=>bo ze (jA o I)
  let zas:=fun(I:Nat)=>bb (zar I)
  let zat:=fun(I:Nat)=>iH (nth bB zx I).2.2.2.2.1
  let zau:=[(119:UInt8),104,111,108,101,32]
  let zav:=fun(I:Nat)=>zat I++zau++zao I++zah
  let zaw:=fun(I:Nat)=>(nth bB zx I).2.2.2.1
  let zax:=fun(I:Nat)=>zav I++zap I++zah++zaw I
  let zay:=[(110:UInt8),101,97,114,32]
  let zaz:=fun(I:Nat)=>zat I++zay++zao I++zah
  let zba:=fun(I:Nat)=>zaz I++zap I++zah++zaw I
  True/\((!aM.isNil za)=true->([],za)=zb)/\((!aM.isNil za)=false->zc<=aK->(∃(x:Nat),x<=zc/\((0:Int)=(↑x:Int)/\True)/\([],zd,(↑(5:TypeId):Int),())=(bo ze (pC o x),zf)/\True)/\∀E:Nat,E<=zc->((decide (zg E<(↑zc:Int)))=true->(zh E/\zg E<(↑zc:Int))/\bb zi+bb (nth Ty.str o.1 E)<=aK/\bb (zi++nth Ty.str o.1 E)+zk<=aK/\(zl/\zn/\bb (zo E)+bb (zp E)<=(140737488355328:Nat))/\(zq E->zr->zt E/\∃(x':Nat),x'<=zc/\zc-x'<zc-E/\(zs E=(↑x':Int)/\True)/\(zo E++bo ze (zp E),zu)=(bo ze (pC o x'),zf)/\zy))/\((decide (zg E<(↑zc:Int)))=false->zz<=aK->(∃(x:Nat),x<=zz/\((0:Int)=(↑x:Int)/\True)/\(zo E,zf)=(bo ze (nU o x),zf)/\True)/\∀F:Nat,F<=zz->((decide (zg F<(↑zz:Int)))=true->(zh F/\zg F<(↑zz:Int))/\True/\bb zaa+bb (bp (nth (Ty.int bm) zv F))<=aK/\bb (zab F)+zk<=aK/\(zl/\zn/\bb (zac F)+bb (zab F++zj)<=(140737488355328:Nat))/\(zq F->zr->zt F/\∃(x':Nat),x'<=zz/\zz-x'<zz-F/\(zs F=(↑x':Int)/\True)/\(zac F++bo ze (zab F++zj),zu)=(bo ze (nU o x'),zf)/\zy))/\((decide (zg F<(↑zz:Int)))=false->zad<=aK->(∃(x:Nat),x<=zad/\((0:Int)=(↑x:Int)/\True)/\(zac F,zf)=(bo ze (nV o x),zf)/\True)/\∀G:Nat,G<=zad->((decide (zg G<(↑zad:Int)))=true->(zh G/\zg G<(↑zad:Int))/\True/\bb (zae G)+bb zaf<=aK/\bb (zae G++zaf)+bb (nth aR zw G).1<=aK/\bb (zag G)+zai<=aK/\True/\bb (zag G++zah)+bb (zaj G)<=aK/\bb (zag G++zah++zaj G)+zk<=aK/\(zl/\zn/\bb (zak G)+bb (zal G)<=(140737488355328:Nat))/\(zq G->zr->zt G/\∃(x':Nat),x'<=zad/\zad-x'<zad-G/\(zs G=(↑x':Int)/\True)/\(zak G++bo ze (zal G),zu)=(bo ze (nV o x'),zf)/\zy))/\((decide (zg G<(↑zad:Int)))=false->zam<=aK->(∃(x:Nat),x<=zam/\((0:Int)=(↑x:Int)/\True)/\(zak G,zf)=(bo ze (jA o x),zf)/\True)/\∀I:Nat,I<=zam->((decide (zg I<(↑zam:Int)))=true->(zh I/\zg I<(↑zam:Int))/\(((nth bB zx I).2.1 == (1:Int))=true->True/\bb zan+bb (zao I)<=aK/\bb (zan++zao I)+zai<=aK/\True/\bb (zan++zao I++zah)+bb (zap I)<=aK/\bb (zaq I)+zk<=aK/\(zl/\zn/\zas I+bb (zaq I++zj)<=(140737488355328:Nat))/\(zq I->zr->zt I/\∃(x':Nat),x'<=zam/\zam-x'<zam-I/\(zs I=(↑x':Int)/\True)/\(zar I++bo ze (zaq I++zj),zu)=(bo ze (jA o x'),zf)/\zy))/\(((nth bB zx I).2.1 == (1:Int))=false->(((nth bB zx I).2.1 == (2:Int))=true->True/\bb (zat I)+bb zau<=aK/\True/\bb (zat I++zau)+bb (zao I)<=aK/\bb (zat I++zau++zao I)+zai<=aK/\True/\bb (zav I)+bb (zap I)<=aK/\bb (zav I++zap I)+zai<=aK/\bb (zav I++zap I++zah)+bb (zaw I)<=aK/\bb (zax I)+zk<=aK/\(zl/\zn/\zas I+bb (zax I++zj)<=(140737488355328:Nat))/\(zq I->zr->zt I/\∃(x':Nat),x'<=zam/\zam-x'<zam-I/\(zs I=(↑x':Int)/\True)/\(zar I++bo ze (zax I++zj),zu)=(bo ze (jA o x'),zf)/\zy))/\(((nth bB zx I).2.1 == (2:Int))=false->True/\bb (zat I)+bb zay<=aK/\True/\bb (zat I++zay)+bb (zao I)<=aK/\bb (zat I++zay++zao I)+zai<=aK/\True/\bb (zaz I)+bb (zap I)<=aK/\bb (zaz I++zap I)+zai<=aK/\bb (zaz I++zap I++zah)+bb (zaw I)<=aK/\bb (zba I)+zk<=aK/\(zl/\zn/\zas I+bb (zba I++zj)<=(140737488355328:Nat))/\(zq I->zr->zt I/\∃(x':Nat),x'<=zam/\zam-x'<zam-I/\(zs I=(↑x':Int)/\True)/\(zar I++bo ze (zba I++zj),zu)=(bo ze (jA o x'),zf)/\zy))))/\((decide (zg I<(↑zam:Int)))=false->(zl/\zn)/\((decide ((↑(zas I):Int) > (1200:Int)))=true->([],aM.no (2:Int))=zb)/\((decide ((↑(zas I):Int) > (1200:Int)))=false->(zl/\zn)/\(bytesOf (zar I),aM.nil)=zb))))))) (by kernel_rfl) ?_
 dsimp -iota -proj -eta only;refine⟨ba,iB (fun h0=>(by rw[EE (fun e=>by rw[aQ.2 e]at h0;cases h0)])) (fun h0 h1=>⟨(⟨0,by omega,⟨rfl,ba⟩,rfl,ba⟩),fun E q_0=>iL (fun h2=>⟨?a,?b,?c,?d,fun h3 h4=>⟨?e,(⟨E+1,by omega,by omega,⟨by omega,ba⟩,oP (Pv (by omega)),(by trivial)⟩)⟩⟩) (fun h2 h3=>⟨(⟨0,by omega,⟨rfl,ba⟩,AK (by rw[Py,show E=o.1.length by omega]),ba⟩),fun F q_1=>iL (fun h4=>⟨?f,ba,?g,?h,?i,fun h5 h6=>⟨?j,(⟨F+1,by omega,by omega,⟨by omega,ba⟩,oP (Pw (by omega)),(by trivial)⟩)⟩⟩) (fun h4 h5=>⟨(⟨0,by omega,⟨rfl,ba⟩,AK (by rw[Pz,show F=o.2.1.length by omega]),ba⟩),fun G q_2=>iL (fun h6=>⟨?k,ba,?l,?m,?n,ba,?o,?p,?q,fun h7 h8=>⟨?r,(⟨G+1,by omega,by omega,⟨by omega,ba⟩,oP (Px (by omega)),(by trivial)⟩)⟩⟩) (fun h6 h7=>⟨(⟨0,by omega,⟨rfl,ba⟩,AK (by rw[PA,show G=o.2.2.1.length by omega]),ba⟩),fun I q_3=>iL (fun h8=>⟨?s,iQ (fun h9=>⟨ba,?t,?u,ba,?v,?w,?x,fun h10 h11=>⟨?y,(⟨I+1,by omega,by omega,⟨by omega,ba⟩,oP (MN (by omega) h9),(by trivial)⟩)⟩⟩) (fun h9=>iQ (fun h10=>⟨ba,?z,ba,?a0,?a1,ba,?a2,?a3,?a4,?a5,?a6,fun h11 h12=>⟨?a7,(⟨I+1,by omega,by omega,⟨by omega,ba⟩,oP (MO (by omega) h9 h10),(by trivial)⟩)⟩⟩) (fun h10=>⟨ba,?a8,ba,?a9,?aa,ba,?ab,?ac,?ad,?ae,?af,fun h11 h12=>⟨?ag,(⟨I+1,by omega,by omega,⟨by omega,ba⟩,oP (MP (by omega) h9 h10),(by trivial)⟩)⟩⟩))⟩) (fun h8=>⟨?ah,iL (fun h9=>(by rw[B8 (aQ.1 h0) (show I=_ by omega) (by simp only[bx]at h9;omega)])) (fun h9=>⟨?ai,(by rw[ve (aQ.1 h0) (show I=_ by omega) (by simp only[bx]at h9;omega)];exact congrArg (·,aM.nil) (u5 _))⟩)⟩)⟩)⟩)⟩)⟩)⟩
 case a|f|k|s=>omega
 case b|c=>have a:=EC (nc (aQ.1 h0)) (i:=E) (by omega);simp only[bt,bw,bz,bx,aK];omega
 case d|i|q|x|a6|af=>exact⟨rfl,rfl,by first|(have a:=Hy (nc (aQ.1 h0)) (i:=I) (by omega);simp only[bt,bw,bz,bx,aK];omega)|(have a:=Hx (nc (aQ.1 h0)) (i:=G) (by omega);simp only[bt,bw,bz,bx,aK];omega)|(have a:=ED (nc (aQ.1 h0)) (i:=F) (by omega);simp only[bt,bw,bz,bx,aK];omega)|(have a:=EC (nc (aQ.1 h0)) (i:=E) (by omega);simp only[bt,bw,bz,bx,aK];omega)⟩
 case e|j|r|y|a7|ag=>simp only[aJ,aK]at*;omega
 case g|h=>have a:=ED (nc (aQ.1 h0)) (i:=F) (by omega);simp only[bt,bw,bz,bx,aK];omega
 case l|m|n|o|p=>have a:=Hx (nc (aQ.1 h0)) (i:=G) (by omega);simp only[bt,bw,bz,bx,aK];omega
 case t|u|v|w|z|a0|a1|a2|a3|a4|a5|a8|a9|aa|ab|ac|ad|ae=>have a:=Hy (nc (aQ.1 h0)) (i:=I) (by omega);simp only[bt,bw,bz,bx,aK];omega
 case ah|ai=>trivial
def Tryz.TW:bT Tryz.prog Tryz.B.eT Tryz.X 28 [aA] [.str,.err] (fun _=>True) (fun x y=>y=(fun o=>kq o) x):=
 bW (B:=(nE Tryz.B [41,64,91,85,104,110,123,129])) (X:=Tryz.X) (bN.hint (l:=[41,64,91,85,104,110,123,129]) Tryz.N7) Tryz.func28 (by kernel_rfl) (fun x=>I3 x) (fun x hw hp=>TV x hw)
def Tryz.I4:List (FuncId×(Bool×aT)):=[(71,Tryz.spZ3),(125,Tryz.spZ15),(130,Tryz.spZ16),(103,Tryz.spZ17),(102,Tryz.spZ18),(28,(true,cB [aA] [.str,.err] (fun _=>True) (fun o=>kq o))),(111,(false,aY Tryz.o4 [.obj 0,.d .str,.obj 5] (fun a x=>a.1.length<=1000000/\x.2.1.length<=1000000/\x.2.2.1.length<=1000000/\x.2.2.2.1.length<=1000000/\x.2.2.2.2.1.length<=1000000) Tryz.Bf))]
def Tryz.N8:bN Tryz.prog Tryz.B Tryz.X Tryz.I4:=
 aP (aE Tryz.oT) (aP (aE Tryz.sf) (aP (aE Tryz.nr) (aP (aE Tryz.mq) (aP (aE Tryz.sg) (aP (aE Tryz.TW) (aP (Tryz.TR) (bR Tryz.bQ)))))))
def I5(s:List UInt8):dL:=[(200000,fun st=>{X:=Nat×D aA×Bool,inv:=fun x=>lE (parts 10 (br s [10])) x.1 x.2.1 x.2.2,bX:=fun x=>bb (parts 10 (br s [10]))-x.1,bK:=fun x=>[(19,sI x.1)],keep:=[0,2,3,4,5,17,18],aO:=Tryz.o4,refs:=[(4,0),(5,5)],pd:=fun x=>PN x.2})]
def Rn(s:List UInt8)(hw:fY [.str] s):(cV Tryz.B Tryz.I4 Tryz.f77 (I5 s) [.str] [aA,.err] (fun x y=>y=(fun s=>om s) x) s).holds:=by
 refine holds_of (p:=
  let za:=([],[],[],[],())
  let zb:=om s
  let zc:=br s [(10:UInt8)]
  let zd:=parts (10:UInt8) zc
  let ze:=@bc (List UInt8)=@bc (List UInt8)
  let zf:=@bc Int=@bc Int
  let zg:=@bc (List UInt8×Int×Bool×Unit)=@bc (List UInt8×Int×Bool×Unit)
  let zh:=@bc (Int×Int×Int×List UInt8×Bool×Unit)=@bc (Int×Int×Int×List UInt8×Bool×Unit)
  let zi:=List UInt8
  let zj:=Nat×(List zi×List Int×List (zi×Int×Bool×Unit)×List (Int×Int×Int×zi×Bool×Unit)×Unit)×Bool
  let zk:=(ze/\zf/\zg/\zh/\True)/\zh/\zg/\zf/\ze/\True
  let zl:=!false
  let zm:=(zl&&(zl&&(zl&&(zl&&(zl&&true)))))=true
  let zn:=fun(E:Nat×(List (List UInt8)×List Int×List (List UInt8×Int×Bool×Unit)×List (Int×Int×Int×List UInt8×Bool×Unit)×Unit)×Bool)=>(↑E.1:Int)<(↑(bb zd):Int)
  let zo:=fun(E:Nat×(List (List UInt8)×List Int×List (List UInt8×Int×Bool×Unit)×List (Int×Int×Int×List UInt8×Bool×Unit)×Unit)×Bool)=>E.2.1.2.2.1
  let zp:=fun(E:Nat×(List (List UInt8)×List Int×List (List UInt8×Int×Bool×Unit)×List (Int×Int×Int×List UInt8×Bool×Unit)×Unit)×Bool)=>E.2.1.2.2.2.1
  let zq:=fun(E:Nat×(List (List UInt8)×List Int×List (List UInt8×Int×Bool×Unit)×List (Int×Int×Int×List UInt8×Bool×Unit)×Unit)×Bool)=>gG (SW ((),E.2.1.1,E.2.1.2.1,zo E,zp E,(E.2.2,()),())) E.2.2 (nth Ty.str zd E.1)
  let zr:=fun(E:Nat×(List (List UInt8)×List Int×List (List UInt8×Int×Bool×Unit)×List (Int×Int×Int×List UInt8×Bool×Unit)×Unit)×Bool)=>(zq E).1.2.2.2.1
  let zs:=(za,aM.no 4)=zb
  bb s<=aK->((decide ((↑(bb s):Int) > 1200))=true->(za,aM.no 2)=zb)/\((decide ((↑(bb s):Int) > 1200))=false->True/\(bb zc<4294967281/\bb [(10:UInt8)]=1)/\(bb zd<=aK->(ze/\zf/\zg/\zh/\∃(x':zj),lE zd (bh x') (bf x').1 (bf x').2/\True/\(0=(↑(bh x'):Int)/\True)/\zk/\zm/\((),[],[],[],[],(false,()),())=PN (bf x'))/\∀E:Nat×(List (List UInt8)×List Int×List (List UInt8×Int×Bool×Unit)×List (Int×Int×Int×List UInt8×Bool×Unit)×Unit)×Bool,lE zd E.1 E.2.1 E.2.2->((decide (zn E))=true->(0<=(↑E.1:Int)/\zn E)/\E.2.1.1=E.2.1.1/\E.2.1.2.1=E.2.1.2.1/\zo E=zo E/\zp E=zp E/\(bb (nth Ty.str zd E.1)<=1000000/\bb E.2.1.1<=1000000/\bb E.2.1.2.1<=1000000/\bb (zo E)<=1000000/\bb (zp E)<=1000000)/\(True->aJ (↑E.1:Int)->aJ 1->aJ ((↑E.1:Int)+1)/\(zq E).1.1=(zq E).1.1/\(zq E).1.2.1=(zq E).1.2.1/\(zq E).1.2.2.1=(zq E).1.2.2.1/\zr E=zr E/\∃(x':zj),lE zd (bh x') (bf x').1 (bf x').2/\bb zd-bh x'<bb zd-E.1/\((↑E.1:Int)+1=(↑(bh x'):Int)/\True)/\zk/\zm/\((),(zq E).1.1,(zq E).1.2.1,(zq E).1.2.2.1,zr E,((zq E).2,()),())=PN (bf x')))/\((decide (zn E))=false->True/\((E.2.2)=true->zs)/\((E.2.2)=false->((!aM.isNil (kq E.2.1).2)=true->zs)/\((!aM.isNil (kq E.2.1).2)=false->((!(kq E.2.1).1 == s)=true->zs)/\((!(kq E.2.1).1 == s)=false->(E.2.1,aM.nil)=zb))))))) (by kernel_rfl) ?_
 dsimp -iota -proj -eta only;refine fun h0=>iL (fun h1=>(M9 (by omega))) (fun h1=>⟨ba,(by have:=yx s [10];exact⟨by omega,rfl⟩),fun h2=>⟨(⟨rfl,rfl,rfl,rfl,(0,bY aA,false),lE.zero _,ba,⟨rfl,ba⟩,⟨⟨rfl,rfl,rfl,rfl,ba⟩,rfl,rfl,rfl,rfl,ba⟩,rfl,rfl⟩),fun E q_0=>iL (fun h3=>⟨(by omega),rfl,rfl,rfl,rfl,?a,fun h4 h5 h6=>⟨(by simp only[aJ,aK]at*;omega),(by exact⟨rfl,rfl,rfl,rfl,(E.1+1,gG E.2.1 E.2.2 (nth .str (parts 10 (br s [10])) E.1)),q_0.next (by omega),by simp only;omega,⟨by simp only;omega,ba⟩,(by trivial),rfl,rfl⟩)⟩⟩) (fun h3=>⟨ba,⟨fun h4=>(xA q_0 (by omega) (by omega) (.inl h4)),fun h4=>iB (fun h5=>(xA q_0 (by omega) (by omega) (.inr (.inl h5)))) (fun h5=>⟨fun h6 =>?b,fun h6 =>?c⟩)⟩⟩)⟩⟩)
 case a=>
  have hf:=PQ s (by omega);have a0:=q_0.le;have a1:=q_0.l1;have a2:=q_0.l2;have a3:=q_0.l3;have a4:=q_0.l4;exact⟨b5 (Na (by omega) _) (by decide),by omega,by omega,by omega,by omega⟩
 case b=>
  simp only[bl,reduceCtorEq]at h6;exact xA q_0 (by omega) (by omega) (.inr (.inr h6))
 case c=>
  simp only[bl,reduceCtorEq]at h6;exact SY (by omega) ‹aM.isNil _=true› h6
def Tryz.FA:bT Tryz.prog Tryz.B.eT Tryz.X 77 [.str] [aA,.err] (fun _=>True) (fun x y=>y=(fun s=>om s) x):=
 bW (X:=Tryz.X) Tryz.N8 Tryz.func77 (by kernel_rfl) (fun x=>I5 x) (fun x hw hp=>Rn x hw)
def Tryz.spZ24:Bool×aT:=(false,aY Tryz.aU [.obj 0,.d .str] (fun _ _=>True) Tryz.xU)
def Tryz.spZ25:Bool×aT:=(true,cB [.str] [aA,.err] (fun _=>True) (fun s=>om s))
def Tryz.Ro:List (FuncId×(Bool×aT)):=[(47,Tryz.spZ24),(77,Tryz.spZ25),(78,Tryz.spZ23)]
def Tryz.TX:bN Tryz.prog Tryz.B Tryz.X Tryz.Ro:=
 aP (Tryz.sh) (aP (aE Tryz.FA) (aP (aE Tryz.xV) (bR Tryz.bQ)))
def Tryz.Rp(s:List UInt8)(f:dA):dL:=[
 (0,fun st=>{X:=Nat×List (List UInt8)×List (D aA),inv:=fun y=>la (aL f) s y.1 y.2.1 y.2.2,bX:=fun y=>7-y.1,bK:=fun y=>[(9,sI y.1),(7,.s (.one (.app .str y.2.1 (bJ st 7)))),(8,.s (.one (.app aA y.2.2 (bJ st 8))))],aF:=fun y=>[(bJ st 7,.tok .str y.2.1),(bJ st 8,.tok aA y.2.2)],keep:=[0],gY:=[bJ st 7,bJ st 8]}),
 (2,fun st=>{X:=Nat,inv:=fun k=>k<=bb (cU (.slice .str) st 50),bX:=fun k=>bb (cU (.slice .str) st 50)-k,bK:=fun k=>[(52,sI k),(7,.s (.one (.app .str (gA (cU (.slice .str) st 7) (bg k (cU (.slice .str) st 50))) (bJ st 7))))],aF:=fun k=>[(bJ st 7,.tok .str (gA (cU (.slice .str) st 7) (bg k (cU (.slice .str) st 50))))],keep:=[0,4,5,6,8,9,10,12,13,18,19,20,21,24,25,26,27,28,29,30,31,32,33,34,35,36,37,38,39,40,41,42,43,44,45,46,47,48,49,50,51],gY:=[bJ st 7]})]
def Tryz.DJ:List (Alt Tryz.aU [.obj 0,.d .str]):=[{bO:=Tryz.aU,res:=[.d (.slice .str),.d (.slice aA),.d .err],out:=fun _ x=>x,ret:=fun a x=>((bE (aL x) a.1).1,(bE (aL x) a.1).2.1,aI (bE (aL x) a.1).2.2,())}]
def Ky(s:List UInt8)(f:dA)(hw:gV [.obj 0,.d .str] (s,()))(hp:(fun _ x=>x.2.1.1.length<=6) (s,()) f):(cW (nE Tryz.B [17]) Tryz.Ro Tryz.f31 (Tryz.Rp s f) Tryz.aU [.obj 0,.d .str] Tryz.DJ (s,()) f).holds:=by
 refine holds_of (p:=
  let za:=List UInt8
  let zb:=Nat×List za×List (List za×List Int×List (za×Int×Bool×Unit)×List (Int×Int×Int×za×Bool×Unit)×Unit)
  let zc:=aL f
  let zd:=fun(E:Nat×List (List UInt8)×List (List (List UInt8)×List Int×List (List UInt8×Int×Bool×Unit)×List (Int×Int×Int×List UInt8×Bool×Unit)×Unit))=>(↑E.1:Int)<(↑(bb E.2.1):Int)
  let ze:=fun(E:Nat×List (List UInt8)×List (List (List UInt8)×List Int×List (List UInt8×Int×Bool×Unit)×List (Int×Int×Int×List UInt8×Bool×Unit)×Unit))=>aL f (nth Ty.str E.2.1 E.1)
  let zf:=bE zc s
  let zg:=(zf.1,zf.2.1,aI zf.2.2,())
  let zh:=fun(E:Nat×List (List UInt8)×List (List (List UInt8)×List Int×List (List UInt8×Int×Bool×Unit)×List (Int×Int×Int×List UInt8×Bool×Unit)×Unit))=>(cR (ze E).1).1.1
  let zi:=fun(E:Nat×List (List UInt8)×List (List (List UInt8)×List Int×List (List UInt8×Int×Bool×Unit)×List (Int×Int×Int×List UInt8×Bool×Unit)×Unit))=>bb (zh E)
  let zj:=fun(E:Nat×List (List UInt8)×List (List (List UInt8)×List Int×List (List UInt8×Int×Bool×Unit)×List (Int×Int×Int×List UInt8×Bool×Unit)×Unit)) (F:Nat)=>gA E.2.1 (bg F (zh E))
  let zk:=aJ 1
  let zl:=fun(F:Nat)=>(↑F:Int)+1
  let zm:=@bc (List UInt8)=@bc (List UInt8)
  let zn:=C.eQ 1=C.eQ 1/\f.1.1=f.1.1/\True
  let zo:=f.2.1=f.2.1
  let zp:=fun(E:Nat×List (List UInt8)×List (List (List UInt8)×List Int×List (List UInt8×Int×Bool×Unit)×List (Int×Int×Int×List UInt8×Bool×Unit)×Unit))=>E.2.2++[(cR (ze E).1).1]
  let zq:=@bc (List (List UInt8)×List Int×List (List UInt8×Int×Bool×Unit)×List (Int×Int×Int×List UInt8×Bool×Unit)×Unit)=@bc (List (List UInt8)×List Int×List (List UInt8×Int×Bool×Unit)×List (Int×Int×Int×List UInt8×Bool×Unit)×Unit)
  let zr:=fun(E:Nat×List (List UInt8)×List (List (List UInt8)×List Int×List (List UInt8×Int×Bool×Unit)×List (Int×Int×Int×List UInt8×Bool×Unit)×Unit))=>(zh E=zh E/\(cR (ze E).1).1.2.1=(cR (ze E).1).1.2.1/\(cR (ze E).1).1.2.2.1=(cR (ze E).1).1.2.2.1/\(cR (ze E).1).1.2.2.2.1=(cR (ze E).1).1.2.2.2.1/\True)/\@bc (Int×Int×Int×List UInt8×Bool×Unit)=@bc (Int×Int×Int×List UInt8×Bool×Unit)/\@bc (List UInt8×Int×Bool×Unit)=@bc (List UInt8×Int×Bool×Unit)/\@bc Int=@bc Int/\zm/\zn/\zo/\zp E=zp E/\zq/\zm/\True
  (∃(x:zb),la zc s (bh x) (bf x).1 (bf x).2/\(0=(↑(bh x):Int)/\[s]=(bf x).1/\@bc (List (List UInt8)×List Int×List (List UInt8×Int×Bool×Unit)×List (Int×Int×Int×List UInt8×Bool×Unit)×Unit)=(bf x).2/\True)/\[s]=(bf x).1/\@bc (List (List UInt8)×List Int×List (List UInt8×Int×Bool×Unit)×List (Int×Int×Int×List UInt8×Bool×Unit)×Unit)=(bf x).2/\True)/\∀E:Nat×List (List UInt8)×List (List (List UInt8)×List Int×List (List UInt8×Int×Bool×Unit)×List (Int×Int×Int×List UInt8×Bool×Unit)×Unit),la zc s E.1 E.2.1 E.2.2->bb E.2.1<=aK->((decide (zd E))=true->(0<=(↑E.1:Int)/\zd E)/\True/\(True->((!aM.isNil (aI (ze E).2.2))=true->True/\f=f/\([],[],aI (ze E).2.2,())=zg)/\((!aM.isNil (aI (ze E).2.2))=false->True/\((!aM.isNil (aI (cR (ze E).1).2))=true->True/\f=f/\([],[],aI (cR (ze E).1).2,())=zg)/\((!aM.isNil (aI (cR (ze E).1).2))=false->(E.2.2=E.2.2/\bb E.2.2+bb [(cR (ze E).1).1]<=1000000000)/\(zi E<=aK->(∃(x:Nat),x<=zi E/\(0=(↑x:Int)/\E.2.1=gA E.2.1 (bg x (zh E))/\True)/\E.2.1=gA E.2.1 (bg x (zh E))/\True)/\∀F:Nat,F<=zi E->((decide ((↑F:Int)<(↑(zi E):Int)))=true->(0<=(↑F:Int)/\(↑F:Int)<(↑(zi E):Int))/\True/\((!da (zj E F) fun(x:za)=>x == nth Ty.str (zh E) F)=true->(zj E F=zj E F/\bb (zj E F)+bb [nth Ty.str (zh E) F]<=1000000000)/\(aJ (↑F:Int)->zk->aJ (zl F)/\∃(x':Nat),x'<=zi E/\zi E-x'<zi E-F/\(zl F=(↑x':Int)/\zj E F++[nth Ty.str (zh E) F]=gA E.2.1 (bg x' (zh E))/\True)/\zj E F++[nth Ty.str (zh E) F]=gA E.2.1 (bg x' (zh E))/\zr E))/\((!da (zj E F) fun(x:za)=>x == nth Ty.str (zh E) F)=false->aJ (↑F:Int)->zk->aJ (zl F)/\∃(x':Nat),x'<=zi E/\zi E-x'<zi E-F/\(zl F=(↑x':Int)/\zj E F=gA E.2.1 (bg x' (zh E))/\True)/\zj E F=gA E.2.1 (bg x' (zh E))/\zr E))/\((decide ((↑F:Int)<(↑(zi E):Int)))=false->aJ (↑E.1:Int)->zk->aJ ((↑E.1:Int)+1)/\∃(x':zb),la zc s (bh x') (bf x').1 (bf x').2/\7-bh x'<7-E.1/\((↑E.1:Int)+1=(↑(bh x'):Int)/\zj E F=(bf x').1/\zp E=(bf x').2/\True)/\zj E F=(bf x').1/\zp E=(bf x').2/\zq/\zm/\zn/\zo/\True))))))/\((decide (zd E))=false->True/\f=f/\(E.2.1,E.2.2,aM.nil,())=zg)) (by kernel_rfl) ?_
 dsimp -iota -proj -eta only;refine⟨(⟨(0,[s],[]),la.zero _ _,⟨rfl,rfl,rfl,ba⟩,(by trivial)⟩),fun E q_0 h0=>iL (fun h1=>⟨?a,ba,fun h2=>iB (fun h3=>(by rw[q_0.SZ (jB hp) (by omega) (fun e=>by rw[aQ.2 e]at h3;cases h3)];exact⟨ba,rfl,rfl⟩)) (fun h3=>⟨ba,iB (fun h4=>(by rw[q_0.U9 (by omega) (aQ.1 h3) (fun e=>by rw[aQ.2 e]at h4;cases h4)];exact⟨ba,rfl,rfl⟩)) (fun h4=>⟨⟨rfl,q_0.Xl⟩,fun h5=>⟨(⟨0,b6 _,⟨rfl,rfl,ba⟩,rfl,ba⟩),fun F q_1=>iL (fun h6=>⟨?b,ba,iB (fun h7=>⟨⟨rfl,q_0.Wt (jB hp) (Dn (aQ.1 h3) (aQ.1 h4)) _⟩,fun h8 h9=>⟨?c,(⟨F+1,by omega,by omega,⟨by omega,Lf (by omega) ‹_›,ba⟩,Lf (by omega) ‹_›,(by trivial)⟩)⟩⟩) (fun h7 h8 h9=>⟨?d,(⟨F+1,by omega,by omega,⟨by omega,Lg (by omega) ‹_›,ba⟩,Lg (by omega) ‹_›,(by trivial)⟩)⟩)⟩) (fun h6 h7 h8=>⟨?e,(by exact⟨(E.1+1,_,_),q_0.next (jB hp) (by omega) (Dn (aQ.1 h3) (aQ.1 h4)),by have:=q_0.room (jB hp) (by omega) (Dn (aQ.1 h3) (aQ.1 h4));simp only;omega,⟨by simp only;omega,Lh (by omega),rfl,ba⟩,Lh (by omega),rfl,(by trivial)⟩)⟩)⟩⟩)⟩)⟩) (fun h1=>(by rw[q_0.done (by omega)];exact⟨ba,rfl,rfl⟩))⟩
 case a|b=>omega
 case c|d|e=>simp only[aJ,aK]at*;omega
def Tryz.Kz:bZ Tryz.prog Tryz.B.eT Tryz.X 31 false (aY Tryz.aU [.obj 0,.d .str] (fun _ x=>x.2.1.1.length<=6) Tryz.DJ):=
 bG (B:=(nE Tryz.B [17])) (X:=Tryz.X) (bN.hint (l:=[17]) Tryz.TX) Tryz.func31 (by kernel_rfl) (fun(a:CD [.obj 0,.d .str]) (x:PD Tryz.aU)=>Tryz.Rp a.1 x) (fun(a:CD [.obj 0,.d .str]) (x:PD Tryz.aU) hw hp=>Ky a.1 x hw hp)
def TY(n:Int)(hw:fY [.int .i64] n)(hp:(fun n=>0<=n/\n<=1000000) n):(cV Tryz.B [] Tryz.f132 [] [.int .i64] [.int .i64] (fun x y=>y=(fun n=>cK n) x) n).holds:=by
 refine holds_of (p:=
  let za:=aJ (16:Int)
  let zb:=aJ (n+(16:Int))
  let zc:=n+(16:Int)-(1:Int)
  aJ n->za->zb/\(zb->aJ (1:Int)->aJ zc/\(16:Int)≠(0:Int)/\∀E:Int,E=Int.tdiv zc (16:Int)->aJ zc->za->aJ E/\∀F:Int,F=E*(16:Int)->aJ E->za->aJ F/\F=cK n)) (by kernel_rfl) ?_
 dsimp -iota -proj -eta only;refine fun h0 h1=>⟨?a,fun h2 h3=>⟨?b,(by omega),fun E q_0 h4 h5=>⟨?c,fun F q_1 h6 h7=>⟨?d,?e⟩⟩⟩⟩
 case a|b=>simp only[aJ]at*;omega
 case c|d|e=>subst_vars;rw[Int.tdiv_eq_ediv_of_nonneg (by omega)];(try unfold cK);(try simp only[aJ]);omega
def Tryz.TZ:bT Tryz.prog Tryz.B.eT Tryz.X 132 [.int .i64] [.int .i64] (fun n=>0<=n/\n<=1000000) (fun x y=>y=(fun n=>cK n) x):=
 bW (X:=Tryz.X) (bR Tryz.bQ) Tryz.func132 (by kernel_rfl) (fun _=>[]) (fun x hw hp=>TY x hw hp)
def T0(a:Int×Int×Unit)(b:Int×Int×Unit)(hw:fY [aZ,aZ] (a,b))(hp:(fun x=>oZ x.1/\oZ x.2) (a,b)):(cV Tryz.B [] Tryz.f151 [] [aZ,aZ] [.bool] (fun x y=>y=(fun x=>ig x.1 x.2) x) (a,b)).holds:=by
 refine holds_of (p:=
  let za:=true=ig a b
  let zb:=a.1+a.2.1
  let zc:=b.1+b.2.1
  ((decide (a.2.1<=0))=true->za)/\((decide (a.2.1<=0))=false->((decide (b.2.1<=0))=true->za)/\((decide (b.2.1<=0))=false->aJ a.1->aJ a.2.1->aJ zb/\((decide (zb<=b.1))=true->za)/\((decide (zb<=b.1))=false->aJ b.1->aJ b.2.1->aJ zc/\decide (zc<=a.1)=ig a b)))) (by kernel_rfl) ?_
 dsimp -iota -proj -eta only;dsimp only at hp;simp only[oZ]at hp;refine iE (fun h0 =>?a) (fun h0=>iE (fun h1 =>?b) (fun h1 h2 h3=>⟨?c,iE (fun h4 =>?d) (fun h4 h5 h6=>⟨?e,?f⟩)⟩))
 case a|b|d|f=>rw[dy];simp only[ig,Bool.or_eq_true,decide_eq_true_eq,true_iff];omega
 case c|e=>simp only[aJ]at*;omega
def Tryz.I6:bT Tryz.prog Tryz.B.eT Tryz.X 151 [aZ,aZ] [.bool] (fun x=>oZ x.1/\oZ x.2) (fun x y=>y=(fun x=>ig x.1 x.2) x):=
 bW (X:=Tryz.X) (bR Tryz.bQ) Tryz.func151 (by kernel_rfl) (fun _=>[]) (fun x hw hp=>T0 x.1 x.2 hw hp)
def Tryz.spZ26:Bool×aT:=(true,cB [aZ,aZ] [.bool] (fun x=>oZ x.1/\oZ x.2) (fun x=>ig x.1 x.2))
def Tryz.FB:List (FuncId×(Bool×aT)):=[(151,Tryz.spZ26)]
def Tryz.KA:bN Tryz.prog Tryz.B Tryz.X Tryz.FB:=
 aP (aE Tryz.I6) (bR Tryz.bQ)
def Tryz.I7:List (FuncId×(Bool×aT)):=[(150,(false,gx Tryz.B Tryz.FB Tryz.f150 []))]
def Tryz.N9:bN Tryz.prog Tryz.B Tryz.X Tryz.I7:=
 aP (eP Tryz.KA Tryz.func150 (by kernel_rfl) []) (bR Tryz.bQ)
def FC:dL:=[(0,fun st=>{X:=Nat,inv:=fun i=>i<=(cU (.slice aZ) st 0).length/\∀j,j<i->ig (Sp aZ st (Mx st 1 0)) (nth aZ (cU (.slice aZ) st 0) j)=true,bX:=fun i=>(cU (.slice aZ) st 0).length-i,bK:=fun i=>[(8,sI i)],keep:=[0,1,7]})]
def Tryz.I8:List (FuncId×(Bool×aT)):=[(168,(false,gx Tryz.B Tryz.I7 Tryz.f168 FC))]
def Tryz.Oa:bN Tryz.prog Tryz.B Tryz.X Tryz.I8:=
 aP (eP Tryz.N9 Tryz.func168 (by kernel_rfl) FC) (bR Tryz.bQ)
def Tryz.I9:List (FuncId×(Bool×aT)):=[(149,(false,gx Tryz.B Tryz.I8 Tryz.f149 []))]
def Tryz.Oc:bN Tryz.prog Tryz.B Tryz.X Tryz.I9:=
 aP (eP Tryz.Oa Tryz.func149 (by kernel_rfl) []) (bR Tryz.bQ)
def VP(r:Int×Int×Unit)(l:List (D aZ))(hw:fY [aZ,.slice aZ] (r,l))(hp:(fun x=>oZ x.1/\∀y∈x.2,oZ y) (r,l)):(cV Tryz.B Tryz.I9 Tryz.f133 [] [aZ,.slice aZ] [.bool] (fun x y=>y=(fun x=>ja x.1 x.2) x) (r,l)).holds:=by
 refine holds_of (p:=
  let za:=bb l
  za<=aK->(∃(x:Nat),(x<=za/\∀(j:Nat),j<x->ig r (nth aZ l j)=true)/\(0=(↑x:Int)/\True)/\True)/\∀E:Nat,(E<=za/\∀(j:Nat),j<E->ig r (nth aZ l j)=true)->((decide ((↑E:Int)<(↑za:Int)))=true->(0<=(↑E:Int)/\(↑E:Int)<(↑za:Int))/\(oZ r/\oZ (nth aZ l E))/\((!ig r (nth aZ l E))=true->(!decide ((↑E:Int)>=0))=ja r l)/\((!ig r (nth aZ l E))=false->aJ (↑E:Int)->aJ 1->aJ ((↑E:Int)+1)/\∃(x':Nat),(x'<=za/\∀(j:Nat),j<x'->ig r (nth aZ l j)=true)/\za-x'<za-E/\((↑E:Int)+1=(↑x':Int)/\True)/\(r.1=r.1/\r.2.1=r.2.1/\True)/\True))/\((decide ((↑E:Int)<(↑za:Int)))=false->(!decide ((-1:Int)>=0))=ja r l)) (by kernel_rfl) ?_
 dsimp -iota -proj -eta only;dsimp only at hp;refine fun h0=>⟨?a,fun E q_0=>iL (fun h1=>⟨(by omega),⟨hp.1,hp.2 _ (dV (by omega))⟩,iB (fun h2=>(by rw[y5 (j:=E) (by omega) h2];simp)) (fun h2 h3 h4=>⟨(by simp only[aJ,aK]at*;omega),(by exact⟨E+1,⟨by omega,fun j hj=>by by_cases e:j=E;(subst e;exact h2);exact q_0.2 j (by omega)⟩,by omega,⟨by omega,ba⟩,(by trivial)⟩)⟩)⟩) (fun h1=>(by rw[B1 fun j hj=>q_0.2 j (by omega)];simp))⟩
 case a=>refine⟨0,?_⟩;(repeat' (first|exact trivial|rfl|omega|assumption|apply c8))
def Tryz.VQ:bT Tryz.prog Tryz.B.eT Tryz.X 133 [aZ,.slice aZ] [.bool] (fun x=>oZ x.1/\∀y∈x.2,oZ y) (fun x y=>y=(fun x=>ja x.1 x.2) x):=
 bW (X:=Tryz.X) Tryz.Oc Tryz.func133 (by kernel_rfl) (fun _=>[]) (fun x hw hp=>VP x.1 x.2 hw hp)
def Tryz.Ja:List (FuncId×(Bool×aT)):=[(76,Tryz.spZ0),(99,Tryz.spZ1),(21,Tryz.spZ2),(132,(true,cB [.int .i64] [.int .i64] (fun n=>0<=n/\n<=1000000) (fun n=>cK n))),(151,Tryz.spZ26),(133,(true,cB [aZ,.slice aZ] [.bool] (fun x=>oZ x.1/\∀y∈x.2,oZ y) (fun x=>ja x.1 x.2)))]
def Tryz.Od:bN Tryz.prog Tryz.B Tryz.X Tryz.Ja:=
 aP (aE Tryz.jm) (aP (aE Tryz.fH) (aP (aE Tryz.im) (aP (aE Tryz.TZ) (aP (aE Tryz.I6) (aP (aE Tryz.VQ) (bR Tryz.bQ))))))
def Jb(s:List Int)(l:List (D aZ)):dL:=[
 (0,fun st=>{X:=Nat,inv:=fun i=>i<=s.length/\∀j,j<i->1<=(nth (.int .i64) s j:Int)/\(nth (.int .i64) s j:Int)<=40,bX:=fun i=>s.length-i,bK:=fun i=>[(26,sI i)],keep:=[0,1,24,25]}),
 (2,fun st=>{X:=Nat,inv:=fun i=>i<=l.length/\∀j,j<i->nR (nth aZ l j),bX:=fun i=>l.length-i,bK:=fun i=>[(40,sI i)],keep:=[0,1,38,39]}),
 (4,fun st=>{X:=Nat×List (D aZ)×List Int,inv:=fun x=>x.1<=s.length/\gS x.2.1 (s.drop x.1) x.2.2=gS l s []/\(∀y∈x.2.1,nR y)/\x.2.1.length=l.length+x.1/\x.2.2.length=x.1,bX:=fun x=>s.length-x.1,bK:=fun x=>[(68,sI x.1),(10,.s (.one (.app aZ x.2.1 (bJ st 10)))),(11,.s (.one (.app (.int .i64) x.2.2 (bJ st 11))))],aF:=fun x=>[(bJ st 10,.tok aZ x.2.1),(bJ st 11,.tok (.int .i64) x.2.2)],keep:=[66,67],gY:=[bJ st 10,bJ st 11]}),
 (6,fun st=>{X:=Nat,inv:=fun j=>j<=32/\gy (cU (.slice aZ) st 10) (Mm (.int .i64) st (bJ st 14) 1) (40-j) (16*(j:Int))=gy (cU (.slice aZ) st 10) (Mm (.int .i64) st (bJ st 14) 1) 40 0,bX:=fun j=>40-j,bK:=fun j=>[],aF:=fun j=>[(bJ st 14,.cells 213 [.d (.int .i64) (16*(j:Int)),.d (.int .i64) (Mm (.int .i64) st (bJ st 14) 1)])],keep:=[4,5,10,11,13,14,66,67,68,69,70,71,72,73,74],gY:=[bJ st 14]})]
def T3(s:List Int)(l:List (D aZ))(hw:fY [.slice (.int .i64),.slice aZ] (s,l)):(cV (nE Tryz.B [65]) Tryz.Ja Tryz.f113 (Jb s l) [.slice (.int .i64),.slice aZ] [.slice (.int .i64),.err] (fun x y=>y=(fun x=>cL x) x) (s,l)).holds:=by
 refine holds_of (p:=
  let za:=bb s
  let zb:=za<=aK
  let zc:=(↑za:Int)
  let zd:=cL (s,l)
  let ze:=([],aM.no 2)=zd
  let zf:=bb l
  let zg:=Ty.int bm
  let zh:=fun(E:Nat)=>(↑E:Int)
  let zi:=([],aM.no 1)=zd
  let zj:=aJ 1
  let zk:=@bc Int=@bc Int/\True
  let zl:=Int×Int×Unit
  let zm:=Nat×List zl×List Int
  let zn:=gS l s (@bc Int)
  let zo:=fun(G:Nat×List (Int×Int×Unit)×List Int)=>cK (nth zg s G.1)
  let zp:=fun(G:Nat×List (Int×Int×Unit)×List Int)=>gy G.2.1 (zo G) 40 0
  let zq:=fun(I:Nat)=>16*zh I
  zb->((decide (zc > 6))=true->ze)/\((decide (zc > 6))=false->zf<=aK->((decide ((↑zf:Int) > 20))=true->ze)/\((decide ((↑zf:Int) > 20))=false->zb->(∃(x:Nat),(x<=za/\∀(j:Nat),j<x->1<=nth zg s j/\nth zg s j<=40)/\(0=(↑x:Int)/\True)/\True)/\∀E:Nat,(E<=za/\∀(j:Nat),j<E->1<=nth zg s j/\nth zg s j<=40)->((decide (zh E<zc))=true->(0<=zh E/\zh E<zc)/\((decide (nth zg s E<1))=true->zi)/\((decide (nth zg s E<1))=false->((decide (nth zg s E > 40))=true->zi)/\((decide (nth zg s E > 40))=false->aJ (zh E)->zj->aJ (zh E+1)/\∃(x':Nat),(x'<=za/\∀(j:Nat),j<x'->1<=nth zg s j/\nth zg s j<=40)/\za-x'<za-E/\(zh E+1=(↑x':Int)/\True)/\zk)))/\((decide (zh E<zc))=false->zf<=aK->(∃(x:Nat),(x<=zf/\∀(j:Nat),j<x->nR (nth aZ l j))/\(0=(↑x:Int)/\True)/\True)/\∀F:Nat,(F<=zf/\∀(j:Nat),j<F->nR (nth aZ l j))->((decide (zh F<(↑zf:Int)))=true->(0<=zh F/\zh F<(↑zf:Int))/\((decide ((nth aZ l F).1<0))=true->zi)/\((decide ((nth aZ l F).1<0))=false->((decide ((nth aZ l F).1 > 256))=true->zi)/\((decide ((nth aZ l F).1 > 256))=false->((decide ((nth aZ l F).2.1<0))=true->zi)/\((decide ((nth aZ l F).2.1<0))=false->((decide ((nth aZ l F).2.1 > 256))=true->zi)/\((decide ((nth aZ l F).2.1 > 256))=false->aJ (zh F)->zj->aJ (zh F+1)/\∃(x':Nat),(x'<=zf/\∀(j:Nat),j<x'->nR (nth aZ l j))/\zf-x'<zf-F/\(zh F+1=(↑x':Int)/\True)/\zk)))))/\((decide (zh F<(↑zf:Int)))=false->zf<=1000000000/\(zb->(∃(x:zm),(bh x<=za/\gS (bf x).1 (bj (bh x) s) (bf x).2=zn/\(∀(y:zl),y∈(bf x).1->nR y)/\bb (bf x).1=zf+bh x/\bb (bf x).2=bh x)/\(0=(↑(bh x):Int)/\l=(bf x).1/\@bc Int=(bf x).2/\True)/\l=(bf x).1/\@bc Int=(bf x).2/\True)/\∀G:Nat×List (Int×Int×Unit)×List Int,G.1<=za/\gS G.2.1 (bj G.1 s) G.2.2=zn/\(∀(y:zl),y∈G.2.1->nR y)/\bb G.2.1=zf+G.1/\bb G.2.2=G.1->((decide ((↑G.1:Int)<zc))=true->(0<=(↑G.1:Int)/\(↑G.1:Int)<zc)/\(0<=nth zg s G.1/\nth zg s G.1<=1000000)/\(∃(x:Nat),(x<=32/\gy G.2.1 (zo G) (40-x) (16*(↑x:Int))=zp G)/\True/\(0=16*(↑x:Int)/\zo G=zo G/\True)/\True)/\∀I:Nat,I<=32/\gy G.2.1 (zo G) (40-I) (zq I)=zp G->(oZ (zq I,zo G,())/\∀(y:zl),y∈G.2.1->oZ y)/\((!ja (zq I,zo G,()) G.2.1)=true->aJ (zq I)->aJ 16->aJ (zq I+16)/\∃(x':Nat),(x'<=32/\gy G.2.1 (zo G) (40-x') (16*(↑x':Int))=zp G)/\40-x'<40-I/\True/\(zq I+16=16*(↑x':Int)/\zo G=zo G/\True)/\G.2.1=G.2.1/\G.2.2=G.2.2/\zk)/\((!ja (zq I,zo G,()) G.2.1)=false->aJ (zq I)->aJ (zo G)->aJ (zq I+zo G)/\((decide (zq I+zo G > 256))=true->([],aM.no 8)=zd)/\((decide (zq I+zo G > 256))=false->(G.2.1=G.2.1/\bb G.2.1+bb [(zq I,zo G,())]<=1000000000)/\(G.2.2=G.2.2/\bb G.2.2+bb [zq I]<=1000000000)/\(aJ (↑G.1:Int)->zj->aJ ((↑G.1:Int)+1)/\∃(x':zm),(bh x'<=za/\gS (bf x').1 (bj (bh x') s) (bf x').2=zn/\(∀(y:zl),y∈(bf x').1->nR y)/\bb (bf x').1=zf+bh x'/\bb (bf x').2=bh x')/\za-bh x'<za-G.1/\((↑G.1:Int)+1=(↑(bh x'):Int)/\G.2.1++[(zq I,zo G,())]=(bf x').1/\G.2.2++[zq I]=(bf x').2/\True)/\G.2.1++[(zq I,zo G,())]=(bf x').1/\G.2.2++[zq I]=(bf x').2/\zk))))/\((decide ((↑G.1:Int)<zc))=false->(G.2.2,aM.nil)=zd))))))) (by kernel_rfl) ?_
 dsimp -iota -proj -eta only;refine fun h0=>iL (fun h1 =>?a) (fun h1 h2=>iL (fun h3 =>?b) (fun h3 h4=>⟨?c,fun E q_0=>iL (fun h5=>⟨?d,iL (fun h6 =>?e) (fun h6=>iL (fun h7 =>?f) (fun h7 h8 h9=>⟨?g,(by(try dsimp only[D]at*);exact⟨E+1,⟨by omega,fun j hj=>by by_cases e:j=E;(subst e;(try dsimp only[D]);omega);exact q_0.2 j (by omega)⟩,by omega,⟨by omega,ba⟩,(by trivial)⟩)⟩))⟩) (fun h5 h6=>⟨?h,fun F q_1=>iL (fun h7=>⟨?i,iL (fun h8 =>?j) (fun h8=>iL (fun h9 =>?k) (fun h9=>iL (fun h10 =>?l) (fun h10=>iL (fun h11 =>?m) (fun h11 h12 h13=>⟨?n,(by(try dsimp only[D]at*);exact⟨F+1,⟨by omega,fun j hj=>by by_cases e:j=F;(subst e;unfold nR;(try dsimp only[D]);omega);exact q_1.2 j (by omega)⟩,by omega,⟨by omega,ba⟩,(by trivial)⟩)⟩))))⟩) (fun h7=>⟨?o,fun h8=>⟨(⟨(0,l,[]),⟨b6 _,rfl,(fun y (hy:y∈l)=>by obtain⟨i,hi,e⟩:=gR (t:=aZ) hy;rw[<-e];exact q_1.2 i (by omega)),rfl,rfl⟩,(by trivial),(by trivial)⟩),fun G q_2=>iL (fun h9=>⟨?p,(by have:=q_0.2 G.1 (by omega);(try dsimp only[D]at*);omega),?q,fun I q_3=>⟨?r,iB (fun h10 h11 h12=>⟨?s,?t⟩) (fun h10 h11 h12=>⟨?u,iL (fun h13 =>?v) (fun h13=>⟨?w,?x,fun h14 h15=>⟨?y,?z⟩⟩)⟩)⟩⟩) (fun h9=>(by rw[wY (by omega) (fun j hj=>q_0.2 j (by omega)) (fun j hj=>q_1.2 j (by omega)),<-q_2.2.1,JM (by omega)]))⟩⟩)⟩)⟩))
 case a|b=>rw[y7 (by omega)]
 case c|h|q=>refine⟨0,?_⟩;(repeat' (first|exact trivial|rfl|omega|assumption|apply c8))
 case d|i|o|p=>omega
 case e|f=>(try dsimp only[D]at*);rw[y8 (by omega) (i:=E) (by omega) (by(try dsimp only[D]);omega)]
 case g|n|s|y=>simp only[aJ,aK]at*;omega
 case j|k|l|m=>(try dsimp only[D]at*);rw[wX (by omega) (i:=F) (by omega) (by unfold nR;(try dsimp only[D]);omega)]
 case r=>
  have hs:=q_0.2 G.1 (by omega);have hr:=lu hs.1 hs.2;exact⟨by refine⟨?_,?_,?_,?_⟩ <;> simp only <;> omega,fun y hy=>(q_2.2.2.1 y hy).oZ⟩
 case t=>
  have hf:ja (16*(I:Int),cK (nth (.int .i64) s G.1),()) G.2.1=false:=by assumption
  have hn:=O8 q_2.2.2.1 hf;exact⟨I+1,⟨by omega,by rw[<-q_3.2,show 40-I=(40-(I+1))+1 by omega,El hf,show 16*((I+1:Nat):Int)=16*(I:Int)+16 by omega]⟩,by omega,ba,⟨by omega,rfl,ba⟩,(by trivial)⟩
 case u=>
  have hs:=q_0.2 G.1 (by omega);have hr:=lu hs.1 hs.2;have hf:ja (16*(I:Int),cK (nth (.int .i64) s G.1),()) G.2.1=true:=by assumption
  have hb:=q_3.2.symm.trans (qm hf);simp only[aJ];omega
 case v=>
  have hs:=q_0.2 G.1 (by omega);have hr:=lu hs.1 hs.2;have hf:ja (16*(I:Int),cK (nth (.int .i64) s G.1),()) G.2.1=true:=by assumption
  have hb:=q_3.2.symm.trans (qm hf);rw[wY (by omega) (fun j hj=>q_0.2 j (by omega)) (fun j hj=>q_1.2 j (by omega)),<-q_2.2.1,rX (by omega),if_pos (by rw[hb];omega)]
 case w|x=>simp only[b3,true_and];omega
 case z=>
  have hs:=q_0.2 G.1 (by omega);have hr:=lu hs.1 hs.2;have hf:ja (16*(I:Int),cK (nth (.int .i64) s G.1),()) G.2.1=true:=by assumption
  have hb:=q_3.2.symm.trans (qm hf);exact⟨(G.1+1,_,_),⟨by omega,by rw[<-q_2.2.1,rX (k:=G.1) (by omega),if_neg (by rw[hb];omega),hb],Su q_2.2.2.1 (by refine⟨?_,?_,?_,?_⟩ <;> simp only <;> omega),by simp only[bt,b3];omega,by simp only[bt,b3];omega⟩,by simp only;omega,⟨by simp only;omega,rfl,rfl,ba⟩,(by trivial)⟩
def Tryz.T4:bT Tryz.prog Tryz.B.eT Tryz.X 113 [.slice (.int .i64),.slice aZ] [.slice (.int .i64),.err] (fun _=>True) (fun x y=>y=(fun x=>cL x) x):=
 bW (B:=(nE Tryz.B [65])) (X:=Tryz.X) (bN.hint (l:=[65]) Tryz.Od) Tryz.func113 (by kernel_rfl) (fun x=>Jb x.1 x.2) (fun x hw hp=>T3 x.1 x.2 hw)
def Jc(a:List Int)(b:List Int):dL:=[(0,fun st=>{X:=Nat,inv:=fun i=>i<=a.length/\∀j,j<i->nth (.int .i64) a j=nth (.int .i64) b j,bX:=fun i=>a.length-i,bK:=fun i=>[(5,sI i)],keep:=[0,1]})]
def DK(a:List Int)(b:List Int)(hw:fY [.slice (.int .i64),.slice (.int .i64)] (a,b)):(cV Tryz.B [] Tryz.f37 (Jc a b) [.slice (.int .i64),.slice (.int .i64)] [.bool] (fun x y=>y=(fun x=>mG x.1 x.2) x) (a,b)).holds:=by
 refine holds_of (p:=
  let za:=bb a
  let zb:=(↑(bb b):Int)
  let zc:=false=mG a b
  let zd:=Ty.int bm
  za<=aK->bb b<=aK->(((↑za:Int) != zb)=true->zc)/\(((↑za:Int) != zb)=false->(∃(x:Nat),(x<=za/\∀(j:Nat),j<x->nth zd a j=nth zd b j)/\(0=(↑x:Int)/\True)/\True)/\∀E:Nat,(E<=za/\∀(j:Nat),j<E->nth zd a j=nth zd b j)->za<=aK->((decide ((↑E:Int)<(↑za:Int)))=true->(0<=(↑E:Int)/\(↑E:Int)<(↑za:Int))/\(0<=(↑E:Int)/\(↑E:Int)<zb)/\((nth zd a E != nth zd b E)=true->zc)/\((nth zd a E != nth zd b E)=false->aJ (↑E:Int)->aJ 1->aJ ((↑E:Int)+1)/\∃(x':Nat),(x'<=za/\∀(j:Nat),j<x'->nth zd a j=nth zd b j)/\za-x'<za-E/\((↑E:Int)+1=(↑x':Int)/\True)/\True))/\((decide ((↑E:Int)<(↑za:Int)))=false->true=mG a b))) (by kernel_rfl) ?_
 dsimp -iota -proj -eta only;refine fun h0 h1=>iN (fun h2=>(O9 ‹_›)) (fun h2=>⟨(⟨0,⟨by omega,fun j hj=>by omega⟩,⟨rfl,ba⟩,ba⟩),fun E q_0 h3=>iL (fun h4=>⟨?a,?b,iN (fun h5=>(Sv (i:=E) ‹_›)) (fun h5 h6 h7=>⟨(by simp only[aJ,aK]at*;omega),(⟨E+1,⟨by omega,Pa q_0.2 ‹_›⟩,by omega,⟨by omega,ba⟩,(by trivial)⟩)⟩)⟩) (fun h4=>(MC ‹_› (fun i hi=>q_0.2 i (by omega))))⟩)
 case a|b=>omega
def Tryz.DL:bT Tryz.prog Tryz.B.eT Tryz.X 37 [.slice (.int .i64),.slice (.int .i64)] [.bool] (fun _=>True) (fun x y=>y=(fun x=>mG x.1 x.2) x):=
 bW (X:=Tryz.X) (bR Tryz.bQ) Tryz.func37 (by kernel_rfl) (fun x=>Jc x.1 x.2) (fun x hw hp=>DK x.1 x.2 hw)
def Jd(o:D aA):dL:=[
 (0,fun st=>{X:=Nat,inv:=fun i=>i<=o.1.length/\∀j,j<i->(nth .str o.1 j).length<=20,bX:=fun i=>o.1.length-i,bK:=fun i=>[(3,sI i)],keep:=[1]}),
 (2,fun st=>{X:=Nat,inv:=fun i=>i<=o.2.2.1.length/\∀j,j<i->(nth aR o.2.2.1 j).1.length<=20,bX:=fun i=>o.2.2.1.length-i,bK:=fun i=>[(4,sI i)],keep:=[1]}),
 (4,fun st=>{X:=Nat,inv:=fun i=>i<=o.2.2.2.1.length/\∀j,j<i->(nth bB o.2.2.2.1 j).2.2.2.1.length<=20,bX:=fun i=>o.2.2.2.1.length-i,bK:=fun i=>[(5,sI i)],keep:=[1]})]
def DM(o:D aA)(hw:fY [aA] o):(cV Tryz.B [] Tryz.f27 (Jd o) [aA] [.bool] (fun o y=>y=true->mX o) o).holds:=by
 refine holds_of (p:=
  let za:=bb o.1
  let zb:=false=true->mX o
  let zc:=bb o.2.1
  let zd:=o.2.2.1
  let ze:=bb zd
  let zf:=o.2.2.2.1
  let zg:=bb zf
  let zh:=fun(E:Nat)=>(↑E:Int)
  let zi:=fun(E:Nat)=>0<=zh E
  let zj:=aJ 1
  let zk:=fun(E:Nat)=>zh E+1
  let zl:=(o.1=o.1/\o.2.1=o.2.1/\zd=zd/\zf=zf/\True)/\True
  let zm:=fun(G:Nat)=>bb (nth bB zf G).2.2.2.1
  za<=aK->((decide ((↑za:Int) > 6))=true->zb)/\((decide ((↑za:Int) > 6))=false->zc<=aK->((decide ((↑zc:Int) > 50))=true->zb)/\((decide ((↑zc:Int) > 50))=false->ze<=aK->((decide ((↑ze:Int) > 10))=true->zb)/\((decide ((↑ze:Int) > 10))=false->zg<=aK->((decide ((↑zg:Int) > 10))=true->zb)/\((decide ((↑zg:Int) > 10))=false->(∃(x:Nat),(x<=za/\∀(j:Nat),j<x->bb (nth Ty.str o.1 j)<=20)/\(0=(↑x:Int)/\True)/\True)/\∀E:Nat,(E<=za/\∀(j:Nat),j<E->bb (nth Ty.str o.1 j)<=20)->za<=aK->((decide (zh E<(↑za:Int)))=true->(zi E/\zh E<(↑za:Int))/\(bb (nth Ty.str o.1 E)<=aK->((decide ((↑(bb (nth Ty.str o.1 E)):Int) > 20))=true->zb)/\((decide ((↑(bb (nth Ty.str o.1 E)):Int) > 20))=false->aJ (zh E)->zj->aJ (zk E)/\∃(x':Nat),(x'<=za/\∀(j:Nat),j<x'->bb (nth Ty.str o.1 j)<=20)/\za-x'<za-E/\(zk E=(↑x':Int)/\True)/\zl)))/\((decide (zh E<(↑za:Int)))=false->(∃(x:Nat),(x<=ze/\∀(j:Nat),j<x->bb (nth aR zd j).1<=20)/\(0=(↑x:Int)/\True)/\True)/\∀F:Nat,(F<=ze/\∀(j:Nat),j<F->bb (nth aR zd j).1<=20)->ze<=aK->((decide (zh F<(↑ze:Int)))=true->(zi F/\zh F<(↑ze:Int))/\(bb (nth aR zd F).1<=aK->((decide ((↑(bb (nth aR zd F).1):Int) > 20))=true->zb)/\((decide ((↑(bb (nth aR zd F).1):Int) > 20))=false->aJ (zh F)->zj->aJ (zk F)/\∃(x':Nat),(x'<=ze/\∀(j:Nat),j<x'->bb (nth aR zd j).1<=20)/\ze-x'<ze-F/\(zk F=(↑x':Int)/\True)/\zl)))/\((decide (zh F<(↑ze:Int)))=false->(∃(x:Nat),(x<=zg/\∀(j:Nat),j<x->bb (nth bB zf j).2.2.2.1<=20)/\(0=(↑x:Int)/\True)/\True)/\∀G:Nat,(G<=zg/\∀(j:Nat),j<G->bb (nth bB zf j).2.2.2.1<=20)->zg<=aK->((decide (zh G<(↑zg:Int)))=true->(zi G/\zh G<(↑zg:Int))/\(zm G<=aK->((decide ((↑(zm G):Int) > 20))=true->zb)/\((decide ((↑(zm G):Int) > 20))=false->aJ (zh G)->zj->aJ (zk G)/\∃(x':Nat),(x'<=zg/\∀(j:Nat),j<x'->bb (nth bB zf j).2.2.2.1<=20)/\zg-x'<zg-G/\(zk G=(↑x':Int)/\True)/\zl)))/\((decide (zh G<(↑zg:Int)))=false->true=true->mX o)))))))) (by kernel_rfl) ?_
 dsimp -iota -proj -eta only;refine fun h0=>iL (fun h1 =>?a) (fun h1 h2=>iL (fun h3 =>?b) (fun h3 h4=>iL (fun h5 =>?c) (fun h5 h6=>iL (fun h7 =>?d) (fun h7=>⟨?e,fun E q_0 h8=>iL (fun h9=>⟨?f,fun h10=>iL (fun h11 =>?g) (fun h11 h12 h13=>⟨?h,(⟨E+1,⟨by omega,jU q_0.2 (by omega)⟩,by omega,⟨by omega,ba⟩,(by trivial)⟩)⟩)⟩) (fun h9=>⟨?i,fun F q_1 h10=>iL (fun h11=>⟨?j,fun h12=>iL (fun h13 =>?k) (fun h13 h14 h15=>⟨?l,(⟨F+1,⟨by omega,jU q_1.2 (by omega)⟩,by omega,⟨by omega,ba⟩,(by trivial)⟩)⟩)⟩) (fun h11=>⟨?m,fun G q_2 h12=>iL (fun h13=>⟨?n,fun h14=>iL (fun h15 =>?o) (fun h15 h16 h17=>⟨?p,(⟨G+1,⟨by omega,jU q_2.2 (by omega)⟩,by omega,⟨by omega,ba⟩,(by trivial)⟩)⟩)⟩) (fun h13=>(fun _=>⟨by omega,by omega,by omega,by omega,fun i hi=>q_0.2 i (by omega),fun i hi=>q_1.2 i (by omega),fun i hi=>q_2.2 i (by omega)⟩))⟩)⟩)⟩))))
 case a|b|c|d|g|k|o=>simp_all
 case e|i|m=>refine⟨0,?_⟩;(repeat' (first|exact trivial|rfl|omega|assumption|apply c8))
 case f|j|n=>omega
 case h|l|p=>simp only[aJ,aK]at*;omega
def Tryz.um:bT Tryz.prog Tryz.B.eT Tryz.X 27 [aA] [.bool] (fun _=>True) (fun o y=>y=true->mX o):=
 bW (X:=Tryz.X) (bR Tryz.bQ) Tryz.func27 (by kernel_rfl) (fun x=>Jd x) (fun x hw hp=>DM x hw)
def Tryz.spZ27:Bool×aT:=(true,mW [aA] [.bool] (fun _=>True) (fun o y=>y=true->mX o))
def Tryz.FD:List (FuncId×(Bool×aT)):=[(27,Tryz.spZ27)]
def Tryz.KB:bN Tryz.prog Tryz.B Tryz.X Tryz.FD:=
 aP (fD Tryz.um) (bR Tryz.bQ)
def FF(l:List (D aA)):dL:=[
 (0,fun st=>{X:=Nat,inv:=fun i=>i<=l.length/\∀j,j<i->mX (nth aA l j),bX:=fun i=>l.length-i,bK:=fun i=>[(3,sI i)],keep:=[0]})]
def CS(l:List (D aA))(hw:fY [.slice aA] l):(cV Tryz.B Tryz.FD Tryz.f82 (FF l) [.slice aA] [.bool] (fun l y=>y=true->tV l) l).holds:=by
 refine holds_of (p:=
  let za:=bb l
  let zb:=false=true->tV l
  za<=aK->((decide ((↑za:Int) > 8))=true->zb)/\((decide ((↑za:Int) > 8))=false->(∃(x:Nat),(x<=za/\∀(j:Nat),j<x->mX (nth aA l j))/\(0=(↑x:Int)/\True)/\True)/\∀E:Nat,(E<=za/\∀(j:Nat),j<E->mX (nth aA l j))->za<=aK->((decide ((↑E:Int)<(↑za:Int)))=true->(0<=(↑E:Int)/\(↑E:Int)<(↑za:Int))/\True/\∀F:Bool,(F=true->mX (nth aA l E))->((!F)=true->zb)/\((!F)=false->aJ (↑E:Int)->aJ 1->aJ ((↑E:Int)+1)/\∃(x':Nat),(x'<=za/\∀(j:Nat),j<x'->mX (nth aA l j))/\za-x'<za-E/\((↑E:Int)+1=(↑x':Int)/\True)/\True))/\((decide ((↑E:Int)<(↑za:Int)))=false->true=true->tV l))) (by kernel_rfl) ?_
 dsimp -iota -proj -eta only;refine fun h0=>iL (fun h1 =>?a) (fun h1=>⟨?b,fun E q_0 h2=>iL (fun h3=>⟨(by omega),ba,fun F q_1=>iB (fun h4 =>?c) (fun h4 h5 h6=>⟨(by simp only[aJ,aK]at*;omega),(⟨E+1,⟨by omega,jU q_0.2 (by simp_all)⟩,by omega,⟨by omega,ba⟩,(by trivial)⟩)⟩)⟩) (fun h3=>(fun _=>⟨by omega,fun i hi=>q_0.2 i (by omega)⟩))⟩)
 case a|c=>simp_all
 case b=>refine⟨0,?_⟩;(repeat' (first|exact trivial|rfl|omega|assumption|apply c8))
def Tryz.CT:bT Tryz.prog Tryz.B.eT Tryz.X 82 [.slice aA] [.bool] (fun _=>True) (fun l y=>y=true->tV l):=
 bW (X:=Tryz.X) Tryz.KB Tryz.func82 (by kernel_rfl) (fun x=>FF x) (fun x hw hp=>CS x hw)
def Je(l:List (D aA))(s:List UInt8):dL:=[
 (0,fun st=>{X:=Nat×Int×Int,inv:=fun x=>x.1<=l.length/\iW l s x.1 0 x.2.1 x.2.2,bX:=fun x=>l.length-x.1,bK:=fun x=>[(14,sI x.1),(6,sI x.2.1),(7,sI x.2.2)],keep:=[1,12,13]}),
 (2,fun st=>{X:=Nat×Int×Int,inv:=fun x=>x.1<=(nth aA l (cU (.int .i64) st 14).toNat).2.2.1.length/\iW l s (cU (.int .i64) st 14).toNat x.1 x.2.1 x.2.2,bX:=fun x=>(nth aA l (cU (.int .i64) st 14).toNat).2.2.1.length-x.1,bK:=fun x=>[(22,sI x.1),(6,sI x.2.1),(7,sI x.2.2)],keep:=[1,8,9,12,13,14,15,16,17,18,19,20,21]})]
def T5(l:List (D aA))(s:List UInt8)(hw:fY [.slice aA,.str] (l,s)):(cV Tryz.B [] Tryz.f39 (Je l s) [.slice aA,.str] [.int .i64,.int .i64] (fun x y=>y=(fun x=>eA x) x) (l,s)).holds:=by
 refine holds_of (p:=
  let za:=bb l
  let zb:=Nat×Int×Int
  let zc:=fun(E:Nat×Int×Int)=>(↑E.1:Int)
  let zd:=fun(E:Nat×Int×Int)=>(nth aA l E.1).2.2.1
  let ze:=fun(E:Nat×Int×Int)=>bb (zd E)
  let zf:=aJ 1
  let zg:=fun(F:Nat×Int×Int)=>zc F+1
  let zh:=fun(E:Nat×Int×Int)=>(nth aA l E.1).2.2.2.1
  let zi:=fun(E:Nat×Int×Int)=>((nth aA l E.1).1=(nth aA l E.1).1/\(nth aA l E.1).2.1=(nth aA l E.1).2.1/\zd E=zd E/\zh E=zh E/\True)/\@bc (Int×Int×Int×List UInt8×Bool×Unit)=@bc (Int×Int×Int×List UInt8×Bool×Unit)/\@bc (List UInt8×Int×Bool×Unit)=@bc (List UInt8×Int×Bool×Unit)/\@bc Int=@bc Int/\@bc (List UInt8)=@bc (List UInt8)/\True
  let zj:=fun(F:Nat×Int×Int) (E:Nat×Int×Int)=>aJ (zc F)->zf->aJ (zg F)/\∃(x':zb),(bh x'<=ze E/\iW l s E.1 (bh x') (bf x').1 (bf x').2)/\ze E-bh x'<ze E-F.1/\(zg F=(↑(bh x'):Int)/\F.2.1=(bf x').1/\F.2.2=(bf x').2/\True)/\zi E
  let zk:=eA (l,s)
  za<=aK->(∃(x:zb),(bh x<=za/\iW l s (bh x) 0 (bf x).1 (bf x).2)/\(0=(↑(bh x):Int)/\(-1:Int)=(bf x).1/\(-1:Int)=(bf x).2/\True)/\True)/\∀E:Nat×Int×Int,E.1<=za/\iW l s E.1 0 E.2.1 E.2.2->((decide (zc E<(↑za:Int)))=true->(0<=zc E/\zc E<(↑za:Int))/\(ze E<=aK->(∃(x:zb),(bh x<=ze E/\iW l s E.1 (bh x) (bf x).1 (bf x).2)/\(0=(↑(bh x):Int)/\E.2.1=(bf x).1/\E.2.2=(bf x).2/\True)/\True)/\∀F:Nat×Int×Int,F.1<=ze E/\iW l s E.1 F.1 F.2.1 F.2.2->((decide (zc F<(↑(ze E):Int)))=true->(0<=zc F/\zc F<(↑(ze E):Int))/\((!(nth aR (zd E) F.1).1 == s)=true->zj F E)/\((!(nth aR (zd E) F.1).1 == s)=false->((!(nth aR (zd E) F.1).2.2.1)=true->(zc E,zc F)=zk)/\((!(nth aR (zd E) F.1).2.2.1)=false->((decide (F.2.1<0))=true->aJ (zc F)->zf->aJ (zg F)/\∃(x':zb),(bh x'<=ze E/\iW l s E.1 (bh x') (bf x').1 (bf x').2)/\ze E-bh x'<ze E-F.1/\(zg F=(↑(bh x'):Int)/\zc E=(bf x').1/\zc F=(bf x').2/\True)/\zi E)/\((decide (F.2.1<0))=false->zj F E))))/\((decide (zc F<(↑(ze E):Int)))=false->aJ (zc E)->zf->aJ (zg E)/\∃(x':zb),(bh x'<=za/\iW l s (bh x') 0 (bf x').1 (bf x').2)/\za-bh x'<za-E.1/\(zg E=(↑(bh x'):Int)/\F.2.1=(bf x').1/\F.2.2=(bf x').2/\True)/\True)))/\((decide (zc E<(↑za:Int)))=false->E.2=zk)) (by kernel_rfl) ?_
 dsimp -iota -proj -eta only;refine fun h0=>⟨(⟨(0,-1,-1),⟨by omega,iW.start l s⟩,⟨rfl,rfl,rfl,ba⟩,ba⟩),fun E q_0=>iL (fun h1=>⟨?a,fun h2=>⟨(⟨(0,E.2),⟨by omega,q_0.2⟩,⟨rfl,rfl,rfl,ba⟩,ba⟩),fun F q_1=>iL (fun h3=>⟨?b,⟨fun h4 h5 h6=>⟨?c,?d⟩,fun h4=>iB (fun h5 =>?e) (fun h5=>iL (fun h6 h7 h8=>⟨?f,?g⟩) (fun h6 h7 h8=>⟨?h,?i⟩))⟩⟩) (fun h3 h4 h5=>⟨(by simp only[aJ,aK]at*;omega),(by exact⟨(E.1+1,F.2),⟨by omega,q_1.2.row (by omega)⟩,by simp only;omega,⟨by simp only;omega,rfl,rfl,ba⟩,(by trivial)⟩)⟩)⟩⟩) (fun h1=>((q_0.2.done (by omega)).symm))⟩
 case a|b=>omega
 case c|f|h=>
  simp only[bl,reduceCtorEq]at h4;simp only[aJ,aK]at*;omega
 case d=>
  simp only[bl,reduceCtorEq]at h4;exact⟨(F.1+1,F.2),⟨by omega,q_1.2.skip ‹_›⟩,by simp only;omega,⟨by simp only;omega,rfl,rfl,ba⟩,(by trivial)⟩
 case e=>
  simp only[bl,reduceCtorEq]at h4;exact(q_1.2.Wn (by omega) (by omega) ‹_› ‹_›).symm
 case g=>
  simp only[bl,reduceCtorEq]at h4;exact⟨(F.1+1,_,_),⟨by omega,q_1.2.Da (by omega) (by omega) ‹_› (by simp_all) (by omega)⟩,by simp only;omega,⟨by simp only;omega,rfl,rfl,ba⟩,(by trivial)⟩
 case i=>
  simp only[bl,reduceCtorEq]at h4;exact⟨(F.1+1,F.2),⟨by omega,q_1.2.more (by simp_all) (by omega)⟩,by simp only;omega,⟨by simp only;omega,rfl,rfl,ba⟩,(by trivial)⟩
def Tryz.T6:bT Tryz.prog Tryz.B.eT Tryz.X 39 [.slice aA,.str] [.int .i64,.int .i64] (fun _=>True) (fun x y=>y=(fun x=>eA x) x):=
 bW (X:=Tryz.X) (bR Tryz.bQ) Tryz.func39 (by kernel_rfl) (fun x=>Je x.1 x.2) (fun x hw hp=>T5 x.1 x.2 hw)
def Tryz.Jf:List (FuncId×(Bool×aT)):=[(76,Tryz.spZ0),(99,Tryz.spZ1),(21,Tryz.spZ2),(27,Tryz.spZ27),(82,(true,mW [.slice aA] [.bool] (fun _=>True) (fun l y=>y=true->tV l))),(39,(true,cB [.slice aA,.str] [.int .i64,.int .i64] (fun _=>True) (fun x=>eA x)))]
def Tryz.Oe:bN Tryz.prog Tryz.B Tryz.X Tryz.Jf:=
 aP (aE Tryz.jm) (aP (aE Tryz.fH) (aP (aE Tryz.im) (aP (fD Tryz.um) (aP (fD Tryz.CT) (aP (aE Tryz.T6) (bR Tryz.bQ))))))
def Rq(l:List (D aA))(b:List Int)(t:D bB)(hw:fY [.slice aA,.slice (.int .i64),bB] (l,b,t))(hp:(fun x=>jN x.1/\x.2.1.length=x.1.length/\pL x.2.1) (l,b,t)):(cV Tryz.B Tryz.Jf Tryz.f116 [] [.slice aA,.slice (.int .i64),bB] [.int .i64,.err] (fun x y=>y=(fun x=>fO x.1 x.2.1 x.2.2) x) (l,b,t)).holds:=by
 refine holds_of (p:=
  let za:=eA (l,t.2.2.2.1)
  let zb:=0<=za.1
  let zc:=(nth aA l (bd za.1)).2.2.1
  let zd:=nth (Ty.int bm) b (bd za.1)
  let ze:=(nth aR zc (bd za.2)).2.1
  let zf:=fO l b t
  True/\((decide (za.1>=0))=true->(zb/\za.1<(↑(bb b):Int))/\(zb/\za.1<(↑(bb l):Int))/\(0<=za.2/\za.2<(↑(bb zc):Int))/\(aJ zd->aJ ze->aJ (zd+ze)/\(zd+ze,aM.nil)=zf))/\((decide (za.1>=0))=false->((t.2.2.2.2.1)=true->(0,aM.nil)=zf)/\((t.2.2.2.2.1)=false->(0,aM.no 6)=zf))) (by kernel_rfl) ?_
 dsimp -iota -proj -eta only;dsimp only at hp;refine⟨ba,iE (fun h0=>⟨?a,?b,?c,fun h1 h2=>⟨?d,((B2 (by omega)).symm)⟩⟩) (fun h0=>⟨fun h1=>((zA (by omega) h1).symm),fun h1=>((w4 (by omega) h1).symm)⟩)⟩
 case a|b|c=>
  have hf:=yp (l:=l) (s:=t.2.2.2.1) (by omega);omega
 case d=>
  have hf:=yp (l:=l) (s:=t.2.2.2.1) (by omega);have hb:=pZ (n:=l.length) (i:=(eA (l,t.2.2.2.1)).1) hp.2.2 hp.2.1 (by omega) hf.1;have hs:=Pg (s:=t.2.2.2.1) hp.1 (by omega);unfold Small at hs;dsimp only[D]at*;simp only[aJ];omega
def Tryz.Rr:bT Tryz.prog Tryz.B.eT Tryz.X 116 [.slice aA,.slice (.int .i64),bB] [.int .i64,.err] (fun x=>jN x.1/\x.2.1.length=x.1.length/\pL x.2.1) (fun x y=>y=(fun x=>fO x.1 x.2.1 x.2.2) x):=
 bW (X:=Tryz.X) Tryz.Oe Tryz.func116 (by kernel_rfl) (fun _=>[]) (fun x hw hp=>Rq x.1 x.2.1 x.2.2 hw hp)
def Tryz.FG:List (FuncId×(Bool×aT)):=[(116,(true,cB [.slice aA,.slice (.int .i64),bB] [.int .i64,.err] (fun x=>jN x.1/\x.2.1.length=x.1.length/\pL x.2.1) (fun x=>fO x.1 x.2.1 x.2.2)))]
def Tryz.KC:bN Tryz.prog Tryz.B Tryz.X Tryz.FG:=
 aP (aE Tryz.Rr) (bR Tryz.bQ)
def WJ(l:List (D aA))(b:List Int)(i:Int)(t:D bB)(hw:fY [.slice aA,.slice (.int .i64),.int .i64,bB] (l,b,i,t))(hp:(fun x=>jN x.1/\x.2.1.length=x.1.length/\pL x.2.1/\0<=x.2.2.1/\x.2.2.1<x.1.length/\Small x.2.2.2.1/\Word x.2.2.2.2.2.1) (l,b,i,t)):(cV Tryz.B Tryz.FG Tryz.f81 [] [.slice aA,.slice (.int .i64),.int .i64,bB] [.int .i64,.err] (fun x y=>y=(fun x=>gT x.1 x.2.1 x.2.2.1 x.2.2.2) x) (l,b,i,t)).holds:=by
 refine holds_of (p:=
  let za:=0<=i/\i<(↑(bb b):Int)
  let zb:=nth (Ty.int bm) b (bd i)
  let zc:=t.2.2.1
  let zd:=zb+zc
  let ze:=fO l b t
  let zf:=gT l b i t
  let zg:=ze.1+zc
  let zh:=t.2.1 == 3
  let zi:=zb+t.1
  let zj:=aJ zi
  let zk:=zg-zi
  let zl:=(0,aM.no 7)=zf
  let zm:=(-2147483648:Int)
  let zn:=zd-zi
  za/\(aJ zb->aJ zc->aJ zd/\((t.2.1 != 1)=true->(jN l/\bb b=bb l/\pL b)/\((!aM.isNil ze.2)=true->(0,ze.2)=zf)/\((!aM.isNil ze.2)=false->aJ ze.1->aJ zc->aJ zg/\(zh=true->za/\(aJ zb->aJ t.1->zj/\(aJ zg->zj->aJ zk/\((decide (zk<(-500:Int)))=true->zl)/\((decide (zk<(-500:Int)))=false->((decide (zk > 500))=true->zl)/\((decide (zk > 500))=false->((decide (zk<zm))=true->zl)/\((decide (zk<zm))=false->((decide (zk > 2147483647))=true->zl)/\((decide (zk > 2147483647))=false->(zk,aM.nil)=zf)))))))/\(zh=false->((decide (zg<zm))=true->zl)/\((decide (zg<zm))=false->((decide (zg > 2147483647))=true->zl)/\((decide (zg > 2147483647))=false->(zg,aM.nil)=zf)))))/\((t.2.1 != 1)=false->(zh=true->za/\(aJ zb->aJ t.1->zj/\(aJ zd->zj->aJ zn/\((decide (zn<(-500:Int)))=true->zl)/\((decide (zn<(-500:Int)))=false->((decide (zn > 500))=true->zl)/\((decide (zn > 500))=false->((decide (zn<zm))=true->zl)/\((decide (zn<zm))=false->((decide (zn > 2147483647))=true->zl)/\((decide (zn > 2147483647))=false->(zn,aM.nil)=zf)))))))/\(zh=false->((decide (zd<zm))=true->zl)/\((decide (zd<zm))=false->((decide (zd > 2147483647))=true->zl)/\((decide (zd > 2147483647))=false->(zd,aM.nil)=zf)))))) (by kernel_rfl) ?_
 dsimp -iota -proj -eta only;dsimp only at hp;refine⟨?a,fun h0 h1=>⟨?b,iN (fun h2=>⟨(by simp_all),iB (fun h3=>((U1 ‹_› ‹_›).symm)) (fun h3 h4 h5=>⟨?c,iQ (fun h6=>⟨?d,fun h7 h8=>⟨?e,fun h9 h10=>⟨?f,iL (fun h11 =>?g) (fun h11=>iL (fun h12 =>?h) (fun h12=>iL (fun h13 =>?i) (fun h13=>iL (fun h14 =>?j) (fun h14=>(by rw[yr ‹_› ‹_›,U2 ‹_› rfl (by dsimp only[D]at*;omega)])))))⟩⟩⟩) (fun h6=>iL (fun h7 =>?k) (fun h7=>iL (fun h8 =>?l) (fun h8=>(by rw[yr ‹_› ‹_›,Dh ‹_› rfl (by dsimp only[D]at*;omega)]))))⟩)⟩) (fun h2=>iQ (fun h3=>⟨?m,fun h4 h5=>⟨?n,fun h6 h7=>⟨?o,iL (fun h8 =>?p) (fun h8=>iL (fun h9 =>?q) (fun h9=>iL (fun h10 =>?r) (fun h10=>iL (fun h11 =>?s) (fun h11 =>?t))))⟩⟩⟩) (fun h3=>iL (fun h4 =>?u) (fun h4=>iL (fun h5 =>?v) (fun h5=>(by rw[AG ‹_›,Dh (by simp_all) rfl (by dsimp only[D]at*;omega)])))))⟩⟩
 case a|d|i|j|m|r|s=>omega
 case b|c|e|f|n|o=>
  have hb:=pZ hp.2.2.1 hp.2.1 hp.2.2.2.1 hp.2.2.2.2.1;have ht:=w5 t hp.1 hp.2.1 hp.2.2.1;have hs:=hp.2.2.2.2.2;unfold Small Word at hs;dsimp only[D]at*;simp only[aJ];omega
 case g|h=>rw[yr ‹_› ‹_›,SB ‹_› (by dsimp only[D]at*;omega)]
 case k|l=>
  have hb:=pZ hp.2.2.1 hp.2.1 hp.2.2.2.1 hp.2.2.2.2.1;have ht:=w5 t hp.1 hp.2.1 hp.2.2.1;have hs:=hp.2.2.2.2.2;unfold Small Word at hs;dsimp only[D]at*
  first|omega|(rw[yr ‹_› ‹_›,Hb ‹_› (by omega)])
 case p|q|t=>dsimp only[D]at*;omega
 case u|v=>
  have hb:=pZ hp.2.2.1 hp.2.1 hp.2.2.2.1 hp.2.2.2.2.1;have ht:=w5 t hp.1 hp.2.1 hp.2.2.1;have hs:=hp.2.2.2.2.2;unfold Small Word at hs;dsimp only[D]at*
  first|omega|(rw[AG ‹_›,Hb (by simp_all) (by omega)])
def Tryz.WK:bT Tryz.prog Tryz.B.eT Tryz.X 81 [.slice aA,.slice (.int .i64),.int .i64,bB] [.int .i64,.err] (fun x=>jN x.1/\x.2.1.length=x.1.length/\pL x.2.1/\0<=x.2.2.1/\x.2.2.1<x.1.length/\Small x.2.2.2.1/\Word x.2.2.2.2.2.1) (fun x y=>y=(fun x=>gT x.1 x.2.1 x.2.2.1 x.2.2.2) x):=
 bW (X:=Tryz.X) Tryz.KC Tryz.func81 (by kernel_rfl) (fun _=>[]) (fun x hw hp=>WJ x.1 x.2.1 x.2.2.1 x.2.2.2 hw hp)
def Tryz.FH:List (FuncId×(Bool×aT)):=[(81,(true,cB [.slice aA,.slice (.int .i64),.int .i64,bB] [.int .i64,.err] (fun x=>jN x.1/\x.2.1.length=x.1.length/\pL x.2.1/\0<=x.2.2.1/\x.2.2.1<x.1.length/\Small x.2.2.2.1/\Word x.2.2.2.2.2.1) (fun x=>gT x.1 x.2.1 x.2.2.1 x.2.2.2)))]
def Tryz.KD:bN Tryz.prog Tryz.B Tryz.X Tryz.FH:=
 aP (aE Tryz.WK) (bR Tryz.bQ)
def Rs(l:List (D aA))(b:List Int):dL:=[
 (0,fun st=>{X:=Nat,inv:=fun i=>i<=b.length/\∀j,j<i->0<=(nth (.int .i64) b j:Int)/\(nth (.int .i64) b j:Int)<=256,bX:=fun i=>b.length-i,bK:=fun i=>[(23,sI i)],keep:=[0,1,21,22]}),
 (2,fun st=>{X:=Nat×List (D aS),inv:=fun x=>x.1<=l.length/\nS l b (l.drop x.1) x.1 x.2=nS l b l 0 []/\x.2.length<=10*x.1,bX:=fun x=>l.length-x.1,bK:=fun x=>[(37,sI x.1),(8,.s (.one (.app aS x.2 (bJ st 8))))],aF:=fun x=>[(bJ st 8,.tok aS x.2)],keep:=[0,1,35,36],gY:=[bJ st 8]}),
 (4,fun st=>{X:=Nat×List (D aS),inv:=fun x=>x.1<=(nth aA l (cU (.int .i64) st 37).toNat).2.2.2.1.length/\oB (nS l b (l.drop ((cU (.int .i64) st 37).toNat+1)) ((cU (.int .i64) st 37).toNat+1)) (og l b (cU (.int .i64) st 37).toNat ((nth aA l (cU (.int .i64) st 37).toNat).2.2.2.1.drop x.1) x.2)=nS l b l 0 []/\x.2.length<=10*(cU (.int .i64) st 37).toNat+x.1,bX:=fun x=>(nth aA l (cU (.int .i64) st 37).toNat).2.2.2.1.length-x.1,bK:=fun x=>[(45,sI x.1),(8,.s (.one (.app aS x.2 (bJ st 8))))],aF:=fun x=>[(bJ st 8,.tok aS x.2)],keep:=[0,1,9,10,35,36,37,38,39,40,41,42,43,44],gY:=[bJ st 8]})]
def WL(l:List (D aA))(b:List Int)(hw:fY [.slice aA,.slice (.int .i64)] (l,b))(hp:(fun x=>jN x.1) (l,b)):(cV Tryz.B Tryz.FH Tryz.f35 (Rs l b) [.slice aA,.slice (.int .i64)] [.slice aS,.err] (fun x y=>y=(fun x=>iC x) x) (l,b)).holds:=by
 refine holds_of (p:=
  let za:=bb b
  let zb:=bb l
  let zc:=iC (l,b)
  let zd:=Ty.int bm
  let ze:=([],aM.no 1)=zc
  let zf:=aJ 1
  let zg:=@bc (Int×Int×Int×Unit)=@bc (Int×Int×Int×Unit)/\True
  let zh:=Nat×List (Int×Int×Int×Unit)
  let zi:=nS l b l 0 (@bc Pt)
  let zj:=fun(F:Nat×List (Int×Int×Int×Unit))=>10*F.1
  let zk:=fun(F:Nat×List (Int×Int×Int×Unit))=>(↑F.1:Int)
  let zl:=fun(F:Nat×List (Int×Int×Int×Unit))=>zk F<(↑zb:Int)
  let zm:=fun(F:Nat×List (Int×Int×Int×Unit))=>0<=zk F
  let zn:=fun(F:Nat×List (Int×Int×Int×Unit))=>(nth aA l F.1).2.2.2.1
  let zo:=fun(F:Nat×List (Int×Int×Int×Unit))=>bb (zn F)
  let zp:=fun(F:Nat×List (Int×Int×Int×Unit))=>nS l b (bj (F.1+1) l) (F.1+1)
  let zq:=fun(F G:Nat×List (Int×Int×Int×Unit))=>(gT l b (zk F) (nth bB (zn F) G.1)).2
  let zr:=fun(F G:Nat×List (Int×Int×Int×Unit))=>[(zk F,(nth bB (zn F) G.1).1,(gT l b (zk F) (nth bB (zn F) G.1)).1,())]
  za<=aK->zb<=aK->(((↑za:Int) != (↑zb:Int))=true->([],aM.no 3)=zc)/\(((↑za:Int) != (↑zb:Int))=false->za<=aK->(∃(x:Nat),(x<=za/\∀(j:Nat),j<x->0<=nth zd b j/\nth zd b j<=256)/\(0=(↑x:Int)/\True)/\True)/\∀E:Nat,(E<=za/\∀(j:Nat),j<E->0<=nth zd b j/\nth zd b j<=256)->((decide ((↑E:Int)<(↑za:Int)))=true->(0<=(↑E:Int)/\(↑E:Int)<(↑za:Int))/\((decide (nth zd b E<0))=true->ze)/\((decide (nth zd b E<0))=false->((decide (nth zd b E > 256))=true->ze)/\((decide (nth zd b E > 256))=false->aJ (↑E:Int)->zf->aJ ((↑E:Int)+1)/\∃(x':Nat),(x'<=za/\∀(j:Nat),j<x'->0<=nth zd b j/\nth zd b j<=256)/\za-x'<za-E/\((↑E:Int)+1=(↑x':Int)/\True)/\zg)))/\((decide ((↑E:Int)<(↑za:Int)))=false->zb<=aK->(∃(x:zh),(bh x<=zb/\nS l b (bj (bh x) l) (bh x) (bf x)=zi/\bb (bf x)<=10*bh x)/\(0=(↑(bh x):Int)/\@bc (Int×Int×Int×Unit)=bf x/\True)/\@bc (Int×Int×Int×Unit)=bf x/\True)/\∀F:Nat×List (Int×Int×Int×Unit),F.1<=zb/\nS l b (bj F.1 l) F.1 F.2=zi/\bb F.2<=zj F->((decide (zl F))=true->(zm F/\zl F)/\(zo F<=aK->(∃(x:zh),(bh x<=zo F/\oB (zp F) (og l b F.1 (bj (bh x) (zn F)) (bf x))=zi/\bb (bf x)<=zj F+bh x)/\(0=(↑(bh x):Int)/\F.2=bf x/\True)/\F.2=bf x/\True)/\∀G:Nat×List (Int×Int×Int×Unit),G.1<=zo F/\oB (zp F) (og l b F.1 (bj G.1 (zn F)) G.2)=zi/\bb G.2<=zj F+G.1->((decide (zk G<(↑(zo F):Int)))=true->(zm G/\zk G<(↑(zo F):Int))/\(jN l/\za=zb/\pL b/\zm F/\zl F/\Small (nth bB (zn F) G.1).1/\Word (nth bB (zn F) G.1).2.2.1)/\((!aM.isNil (zq F G))=true->([],zq F G)=zc)/\((!aM.isNil (zq F G))=false->(G.2=G.2/\bb G.2+bb (zr F G)<=1000000000)/\(aJ (zk G)->zf->aJ (zk G+1)/\∃(x':zh),(bh x'<=zo F/\oB (zp F) (og l b F.1 (bj (bh x') (zn F)) (bf x'))=zi/\bb (bf x')<=zj F+bh x')/\zo F-bh x'<zo F-G.1/\(zk G+1=(↑(bh x'):Int)/\G.2++zr F G=bf x'/\True)/\G.2++zr F G=bf x'/\((nth aA l F.1).1=(nth aA l F.1).1/\(nth aA l F.1).2.1=(nth aA l F.1).2.1/\(nth aA l F.1).2.2.1=(nth aA l F.1).2.2.1/\zn F=zn F/\True)/\@bc (Int×Int×Int×List UInt8×Bool×Unit)=@bc (Int×Int×Int×List UInt8×Bool×Unit)/\@bc (List UInt8×Int×Bool×Unit)=@bc (List UInt8×Int×Bool×Unit)/\@bc Int=@bc Int/\@bc (List UInt8)=@bc (List UInt8)/\zg)))/\((decide (zk G<(↑(zo F):Int)))=false->aJ (zk F)->zf->aJ (zk F+1)/\∃(x':zh),(bh x'<=zb/\nS l b (bj (bh x') l) (bh x') (bf x')=zi/\bb (bf x')<=10*bh x')/\zb-bh x'<zb-F.1/\(zk F+1=(↑(bh x'):Int)/\G.2=bf x'/\True)/\G.2=bf x'/\zg)))/\((decide (zl F))=false->(F.2,aM.nil)=zc)))) (by kernel_rfl) ?_
 dsimp -iota -proj -eta only;dsimp only at hp;refine fun h0 h1=>iN (fun h2=>((SA (by omega)).symm)) (fun h2 h3=>⟨(⟨0,⟨by omega,fun j hj=>by omega⟩,⟨rfl,ba⟩,ba⟩),fun E q_0=>iL (fun h4=>⟨?a,iL (fun h5 =>?b) (fun h5=>iL (fun h6 =>?c) (fun h6 h7 h8=>⟨?d,(⟨E+1,⟨by omega,jU q_0.2 (by dsimp only[D]at*;omega)⟩,by omega,⟨by omega,ba⟩,(by trivial)⟩)⟩))⟩) (fun h4 h5=>⟨(⟨(0,[]),⟨by omega,rfl,by simp⟩,(by trivial),(by trivial)⟩),fun F q_1=>iL (fun h6=>⟨?e,fun h7=>⟨(by exact⟨(0,F.2),⟨by omega,by rw[<-Pe (by omega)];exact q_1.2.1,by simp only;omega⟩,(by trivial),(by trivial)⟩),fun G q_2=>iL (fun h8=>⟨?f,?g,iB (fun h9 =>?h) (fun h9=>⟨?i,fun h10 h11=>⟨?j,?k⟩⟩)⟩) (fun h8 h9 h10=>⟨?l,?m⟩)⟩⟩) (fun h6 =>?n)⟩)⟩)
 case a|e|f=>omega
 case b|c=>exact(Pf (i:=E) (by omega) (by omega) (by dsimp only[D]at*;omega)).symm
 case d|j|l=>simp only[aJ,aK]at*;omega
 case g=>
  have hlen:b.length=l.length:=(by omega);have hib:pL b:=fun j hj=>q_0.2 j (by omega)
  have hm:=hp.2 F.1 (by omega);have htk:=hm.2.2 G.1 (by omega);have hb:=pZ (i:=(F.1:Int)) hib hlen (by omega) (by omega);unfold Small Word at htk;rw[e0]at hb;exact⟨hp,hlen,hib,by omega,by omega,htk.1,htk.2⟩
 case h=>
  have hlen:b.length=l.length:=(by omega);have hib:pL b:=fun j hj=>q_0.2 j (by omega)
  rw[Dg hlen hib,<-q_2.2.1,UZ (by omega) ‹_›]
 case i=>
  have hlen:b.length=l.length:=(by omega);have hib:pL b:=fun j hj=>q_0.2 j (by omega)
  have hm:=hp.2 F.1 (by omega);have htk:=hm.2.2 G.1 (by omega);have hb:=pZ (i:=(F.1:Int)) hib hlen (by omega) (by omega);unfold Small Word at htk;rw[e0]at hb;have:=hm.1;have:=hp.1;exact⟨rfl,by simp only[b3,aK];omega⟩
 case k=>
  have ho:(gT l b F.1 (nth bB (nth aA l F.1).2.2.2.1 G.1)).2.isNil=true:=by assumption
  exact⟨(G.1+1,_),⟨by omega,by rw[<-q_2.2.1,Wo (k:=G.1) (by omega) ho],by simp only[bt,b3];omega⟩,by simp only;omega,⟨by simp only;omega,rfl,ba⟩,(by trivial)⟩
 case m=>
  have hm:=hp.2 F.1 (by omega);exact⟨(F.1+1,G.2),⟨by omega,by rw[<-q_2.2.1,U0 (by omega)],by have:=hm.1;simp only;omega⟩,by simp only;omega,⟨by simp only;omega,rfl,ba⟩,(by trivial)⟩
 case n=>
  have hlen:b.length=l.length:=(by omega);have hib:pL b:=fun j hj=>q_0.2 j (by omega)
  rw[Dg hlen hib,<-q_1.2.1,UY (by omega)]
def Tryz.WM:bT Tryz.prog Tryz.B.eT Tryz.X 35 [.slice aA,.slice (.int .i64)] [.slice aS,.err] (fun x=>jN x.1) (fun x y=>y=(fun x=>iC x) x):=
 bW (X:=Tryz.X) Tryz.KD Tryz.func35 (by kernel_rfl) (fun x=>Rs x.1 x.2) (fun x hw hp=>WL x.1 x.2 hw hp)
def Rt(w:List (List Int))(l:List (D aS)):dL:=[
 (200000,fun st=>{X:=Nat,inv:=fun i=>i<=w.length,bX:=fun i=>w.length-i,bK:=fun i=>[(13,sI i)],aO:=[.ext 0 mh],refs:=[(6,0)],pd:=fun i=>(w.take i,()),keep:=[1,4,5,11,12]}),
 (2,fun st=>{X:=Nat,inv:=fun k=>k<=l.length/\∀j,j<k->tW w (nth aS l j),bX:=fun k=>l.length-k,bK:=fun k=>[(25,sI k)],aF:=fun k=>[(bJ st 6,.ext 0 mh (ly w (l.take k)))],keep:=[6,23,24],gY:=[bJ st 6]})]
def WN(w:List (List Int))(l:List (D aS))(hw:fY [mh,.slice aS] (w,l))(hp:(fun x=>x.1.length<=100000/\∀i,i<x.1.length->(nth ji x.1 i).length<=100000000) (w,l)):(cV (nE Tryz.B [6]) [] Tryz.f36 (Rt w l) [mh,.slice aS] [mh,.err] (fun x y=>y=(fun x=>iX x) x) (w,l)).holds:=by
 refine holds_of (p:=
  let za:=bb w
  let zb:=@bc (List Int)=@bc (List Int)/\True
  let zc:=(!false&&true)=true
  let zd:=fun(E:Nat)=>[nth (Ty.slice (Ty.int bm)) w E]
  let ze:=fun(E:Nat)=>(↑E:Int)+1
  let zf:=bb l
  let zg:=fun(F:Nat)=>(nth aS l F).1
  let zh:=([],aM.no 1)=iX (w,l)
  let zi:=fun(F:Nat)=>ly w (bg F l)
  let zj:=fun(F:Nat)=>(nth aS l F).2.1
  let zk:=fun(F:Nat)=>0<=zg F/\zg F<(↑(bb (zi F)):Int)
  let zl:=fun(F:Nat)=>bd (zg F)<bb (zi F)
  let zm:=fun(F:Nat)=>nth ji (zi F) (bd (zg F))
  za<=aK->(∃(x':Nat),x'<=za/\True/\(0=(↑x':Int)/\True)/\zb/\zc/\([],())=(bg x' w,()))/\∀E:Nat,E<=za->((decide ((↑E:Int)<(↑za:Int)))=true->(0<=(↑E:Int)/\(↑E:Int)<(↑za:Int))/\bb (nth (Ty.slice (Ty.int bm)) w E)<=1000000000/\(0<bb (zd E)/\bb (bg E w)+bb (zd E)<=1000000000)/\(aJ (↑E:Int)->aJ 1->aJ (ze E)/\∃(x':Nat),x'<=za/\za-x'<za-E/\(ze E=(↑x':Int)/\True)/\zb/\zc/\(bg E w++zd E,())=(bg x' w,())))/\((decide ((↑E:Int)<(↑za:Int)))=false->zf<=aK->(∃(x:Nat),(x<=zf/\∀(j:Nat),j<x->tW w (nth aS l j))/\(0=(↑x:Int)/\True)/\bg E w=ly w (bg x l)/\True)/\∀F:Nat,(F<=zf/\∀(j:Nat),j<F->tW w (nth aS l j))->((decide ((↑F:Int)<(↑zf:Int)))=true->(0<=(↑F:Int)/\(↑F:Int)<(↑zf:Int))/\((decide (zg F<0))=true->zh)/\((decide (zg F<0))=false->bb (zi F)<=aK->((decide (zg F>=(↑(bb (zi F)):Int)))=true->zh)/\((decide (zg F>=(↑(bb (zi F)):Int)))=false->((decide (zj F<0))=true->zh)/\((decide (zj F<0))=false->zk F/\zl F/\zl F/\(bb (zm F)<=aK->((decide (zj F>=(↑(bb (zm F)):Int)))=true->zh)/\((decide (zj F>=(↑(bb (zm F)):Int)))=false->zk F/\zl F/\(zl F/\0<=zj F/\zj F<(↑(bb (zm F)):Int))/\(zl F/\bd (zj F)<bb (zm F))/\(aJ (↑F:Int)->aJ 1->aJ (ze F)/\∃(x':Nat),(x'<=zf/\∀(j:Nat),j<x'->tW w (nth aS l j))/\zf-x'<zf-F/\(ze F=(↑x':Int)/\True)/\c7 (zi F) (bd (zg F)) (c7 (zm F) (bd (zj F)) (nth aS l F).2.2.1)=ly w (bg x' l)/\zb)))))))/\((decide ((↑F:Int)<(↑zf:Int)))=false->(zi F,aM.nil)=iX (w,l)))) (by kernel_rfl) ?_
 dsimp -iota -proj -eta only;dsimp only at hp;refine fun h0=>⟨(⟨0,by omega,ba,⟨rfl,ba⟩,⟨rfl,ba⟩,rfl,rfl⟩),fun E q_0=>iL (fun h1=>⟨?a,(by have:=hp.2 E (by omega);show bb (nth ji w E)<=1000000000;omega),(by have:=hp.1;simp only[b3,b9,aK];omega),fun h2 h3=>⟨?b,(⟨E+1,by omega,by omega,⟨by omega,ba⟩,⟨rfl,ba⟩,rfl,by rw[lK (t:=ji) (by omega)]⟩)⟩⟩) (fun h1 h2=>⟨(by exact⟨0,⟨by omega,fun j hj=>by omega⟩,⟨rfl,ba⟩,by rw[dw (by omega)];rfl,ba⟩),fun F q_1=>iL (fun h3=>⟨?c,iL (fun h4 =>?d) (fun h4 h5=>iE (fun h6 =>?e) (fun h6=>iL (fun h7 =>?f) (fun h7=>⟨?g,?h,?i,fun h8=>iE (fun h9 =>?j) (fun h9=>⟨?k,?l,?m,?n,fun h10 h11=>⟨?o,?p⟩⟩)⟩)))⟩) (fun h3=>(by rw[yq fun i hi=>q_1.2 i (by omega),dw (by omega)]))⟩)⟩
 case a|c=>omega
 case b|o=>simp only[aJ,aK]at*;omega
 case d|e|f|j=>
  have hr:=wZ (l.take F) w (nth aS l F).1.toNat;have hll:=qn (l.take F) w;exact(Sx (i:=F) (by omega) (by unfold tW;dsimp only[D]at*;omega)).symm
 case g|h|i|k|l|m|n=>
  have hr:=wZ (l.take F) w (nth aS l F).1.toNat;have hll:=qn (l.take F) w
  first|omega|(dsimp only[D]at*;omega)
 case p=>
  have hr:=wZ (l.take F) w (nth aS l F).1.toNat;have hll:=qn (l.take F) w;exact⟨F+1,⟨by omega,jU q_1.2 (by unfold tW;dsimp only[D]at*;omega)⟩,by omega,⟨by omega,ba⟩,Pd (by omega),(by trivial)⟩
def Tryz.WO:bT Tryz.prog Tryz.B.eT Tryz.X 36 [mh,.slice aS] [mh,.err] (fun x=>x.1.length<=100000/\∀i,i<x.1.length->(nth ji x.1 i).length<=100000000) (fun x y=>y=(fun x=>iX x) x):=
 bW (B:=(nE Tryz.B [6])) (X:=Tryz.X) (bN.hint (l:=[6]) (bR Tryz.bQ)) Tryz.func36 (by kernel_rfl) (fun x=>Rt x.1 x.2) (fun x hw hp=>WN x.1 x.2 hw hp)
end Go.Proofs.YtgokjhhcfemnhacGreatDoor

