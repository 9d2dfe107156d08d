/- A part of the proof that the law TopCrashCard holds of the given program: facts that are used there. -/
import Derived.Test.YtgokjhhcfemnhacGreatDoorPart2
import Derived.Test.YtgokjhhcfemnhacGreatDoorChecked
import Derived.Lib.LaidTab
import Derived.Lib.ItoaNum
import Derived.Shelf.Strconv.Itoa3
import Derived.Shelf.Strconv.AtoiAll
import Derived.Shelf.Strings.Split
import Derived.Shelf.Small.Wraps
import Derived.Shelf.Strings.Prefix
import Derived.Shelf.LaysM
import Derived.Shelf.LaysC
import Derived.Sort.Grow
import Derived.Lib.SplitLaws
import Derived.Lib.Builder
import Derived.Lib.UnsafeStr
import Derived.Lib.Strings
import Derived.Lib.Slices
import Derived.Lib.Walk
import Derived.Laws.Externs
import Derived.Deep.Heap
import Derived.Shelf.RegionOpenPlain
import Derived.RangeFuncLeaves
import Derived.Shelf.Abstract
import Derived.WalkKit
import Derived.OwnWalkIn
import Derived.TacticsInMore
import Derived.LoopNIn
import Derived.LoopIn
import Derived.BigRegionIn
import Derived.Deep.LoopGhost
import Derived.Deep.RegionLaw
import Derived.Lib.SliceRun
import Derived.Shelf.SlicesG.Delete
import Derived.Deep.Upon
set_option linter.unusedSimpArgs false
set_option linter.unusedVariables false
set_option maxRecDepth 100000
set_option maxHeartbeats 4000000
set_option linter.defProp false
noncomputable section
open True renaming intro->ad
open List renaming length->ae,nil->af,take->ag,drop->aj,length_take->ax,length_singleton->bb,length_cons->bh,replicate->bj,length_append->bo,length_nil->bp,length_map->bu,length_replicate->bw,map->bz,range->b3,set->cc,take_of_length_le->cd,length_eq_zero_iff->cm,length_eq_one_iff->cp,drop_zero->cz,length_drop->c7,mem_of_getElem?->ed,length_set->e5,range_succ->fr,take_zero->fs
open Int renaming toNat->ah,fdiv->bf,tmod->b4,le_refl->cg,one_mul->cy,emod_nonneg->dc,le_of_lt_add_one->dd
open Go.IntKind renaming wrap->ai,u64->ao,i64->aq,u8->bd,bits->bk
open Go.Lib renaming countB->ak,itoa->al,trimSuffix->ar,splitB->ay,cell_of_heap->bc,trimPrefix->br,hasPrefix->b8,atoiAll->b9,frozen_of_heap->cb,TabIs->cj,pow10Tab->ck,atoiSat->cn,nDigits_small->dn,decDigits_length->dp,splitB_all->ds,splitB_data->dT,run_unsafeSliceData_row->ew
open Nat renaming zero_le->au,le_trans->aw,le_refl->az,min->bg,not_lt_zero->bm,add_zero->cq,lt_div_iff_mul_lt->e7
open UInt8 renaming toNat->av
open BitVec renaming ofInt->ba,toNat->bx
open Go.Builtin renaming zeroCells->bq,clear_->c8,unsafeSliceData_->ek,unsafeString_->e0
open Go.Value renaming string->bt
open Go.Shelf renaming Ren->b5
open Option renaming map_eq_some_iff->b6,isNone->c6,map_some->ef
open Bool renaming noConfusion->b7
open ByteArray renaming size->ca
open Array renaming length_toList->cf
open Prod renaming ext->ch
open Go.Result renaming andThen->cr
open Go.Oper renaming upon_value->ct
open Go.Deep renaming nblk_setCell->cu,blk_setCell_other->cw
open Go.World renaming shape?->eh,os_setCells->fz,output_setCells->gd,heap_setCells_other->gf
open Go.Proofs.Lays renaming n103->gE,n102->hC,n146->hD
open Go.Proofs.LaysM renaming n171->gN
open Go.Proofs.LaysC renaming n172->hB
open Go.Extern.AbiNoEscape renaming same->hE
namespace Go.Proofs.YtgokjhhcfemnhacGreatDoor
open Go.Vg
def Tryz.B:Cx:={eT:=128,τ:=[(2,(.int .i64)),(3,(.int .i64)),(4,.bool),(5,(.int .u8)),(7,(.prod (.int .i64) (.prod (.int .i64) (.prod .bool (.prod (.int .u8) .unit))))),(9,.str),(12,(.int .u64)),(13,(.prod .str (.prod (.int .u64) .unit))),(18,(.prod .er .unit)),(21,(.int .i32)),(22,(.slice eX)),(23,(.int .u64)),(25,.er),(26,.er),(31,(.slice aA)),(32,(.prod (.slice aA) .unit)),(33,(.prod (.slice aA) .unit)),(35,.err),(36,.err),(37,(.slice aE)),(38,(.slice aI)),(39,aA),(40,aA),(41,eX),(42,eX),(53,aE),(54,aE),(56,(.slice .str)),(57,(.slice (.int .i64))),(58,(.slice gD)),(59,(.slice lT)),(60,aV),(61,aV),(65,.er),(68,(.slice aV)),(73,(.slice tz)),(78,(.slice (.slice (.int .i64)))),(81,tz),(82,tz),(85,lT),(86,lT),(89,aI),(90,aI),(98,gD),(99,gD),(110,.er),(121,(.slice du)),(122,Kz),(123,Kz),(125,(.prod .er (.prod (.int .i64) (.prod (.slice aA) .unit)))),(126,(.prod .er (.prod (.int .i64) (.prod (.slice aA) .unit)))),(128,(.int .i64)),(132,du),(133,du),(142,(.slice (.int .u8))),(143,(.prod .er (.prod (.slice (.int .u8)) .unit))),(144,(.prod .er (.prod (.slice (.int .u8)) .unit))),(150,.er),(151,(.prod .er (.prod (.int .i64) .unit))),(152,(.prod .er (.prod (.int .i64) .unit))),(153,(.prod .str (.prod (.int .i64) .unit))),(154,(.prod .str (.prod (.int .i64) .unit))),(166,(.prod .er (.prod .er .unit))),(167,(.prod .er (.prod .er .unit))),(182,(.int .u64)),(211,(.slice BK)),(212,BK),(213,BK),(216,(.int .u32)),(235,(.int .i64)),(247,(.prod (.int .u8) (.prod (.int .u8) .unit))),(248,(.prod (.int .u8) (.prod (.int .u8) .unit))),(253,(.prod .str (.prod .str (.prod .err .unit)))),(254,(.prod .str (.prod .str (.prod .err .unit)))),(259,(.prod .str .unit)),(260,(.prod .str .unit))],uK:=[(95,(40,4)),(227,(24,5)),(242,(20,23)),(243,(65,5)),(246,(256,5)),(249,(16,248)),(261,(32,5)),(262,(64,5)),(265,(0,16))],Γ:=[],N:=0,eqs:=[54,86,90,99],ld:=[25,26,141],mQ:=[(150,(9,154))],oD:=[(144,5)]}
def Tryz.cL:TyOK Tryz.prog Tryz.B:=Lb (n:=16) (by kernel_rfl)
structure Tryz.Mw (w:World):Prop where
 pow:cj Tryz.prog w "internal/strconv.uint64pow10" .u64 ck
 max:∃m,w.cell? ⟨0,0,none⟩=some (.int .i64 m)
 Nb:∃ev,w.cell? ⟨4,0,none⟩=some ev/\(ev=.nilIface\/∃te pe,ev=.iface te pe)
 Nc:∃ev,w.cell? ⟨5,0,none⟩=some ev/\(ev=.nilIface\/∃te pe,ev=.iface te pe)
def Tryz.Mx:Tryz.prog.globalNamed "internal/strconv.uint64pow10" =some 1:=by kernel_rfl
def tJ{w:World}{b o:Nat}{v:Value}(h:w.cell? ⟨b,o,none⟩=some v):b<w.heap.size:=by
 unfold World.cell? at h;by_cases hb:b<w.heap.size
 ·exact hb
 ·have h0:w.heap[b]?=none:=Array.getElem?_eq_none (by omega)
  simp[h0]at h
def qY{w w':World}{b o:Nat}(h:w'.heap[b]?=w.heap[b]?):w'.cell? ⟨b,o,none⟩=w.cell? ⟨b,o,none⟩:=by
 unfold World.cell?;rw[h]
def It{P:Program}{w w':World}{nm:String}{g:Nat}(hg:P.globalNamed nm=some g)(h:w'.heap[g]?=w.heap[g]?):w'.var? P nm=w.var? P nm:=by
 unfold World.var?;rw[hg];simp[h]
def Tryz.X:Ext:=
 {MJ with
  rr:=Tryz.Mw
  yu:=[1,0,4,5]
  AV:=fun{w} h b hb=>by
   obtain⟨h1,⟨m,h2⟩,⟨e3,h3,_⟩,⟨e4,h4,_⟩⟩:=h;simp only[List.mem_cons,List.not_mem_nil,or_false]at hb;rcases hb with rfl|rfl|rfl|rfl
   ·have h1':=World.var?_cell Tryz.Mx h1 0
    exact tJ (v:=.int .u64 1) (by simpa[ck]using h1')
   ·exact tJ h2
   ·exact tJ h3
   ·exact tJ h4
  vS:=fun{w w'} h hb=>by
   obtain⟨h1,⟨m,h2⟩,⟨e3,h3,h5⟩,⟨e4,h4,h6⟩⟩:=h;refine⟨?_,⟨m,?_⟩,⟨e3,?_,h5⟩,⟨e4,?_,h6⟩⟩
   ·unfold cj at h1 ⊢
    rw[It Tryz.Mx (hb 1 (by simp))];exact h1
   ·rw[qY (hb 0 (by simp))];exact h2
   ·rw[qY (hb 4 (by simp))];exact h3
   ·rw[qY (hb 5 (by simp))];exact h4}
end Go.Proofs.YtgokjhhcfemnhacGreatDoor

namespace Go.Proofs.YtgokjhhcfemnhacGreatDoor
open Go.Vg Go.Mrl
def CH(s:List UInt8):eo:=[(0,fun st=>{X:=Nat,inv:=fun i=>i<=s.length/\∀j,j<i->fv j (cM s j)=false,dx:=fun i=>s.length-i,bX:=fun i=>[(15,.s (.one (.d (.int .i64) i)))],aC:=fun _=>[],keep:=[0,14],ey:=[]})]
def CI(s:List UInt8):eo:=[(0,fun st=>{X:=Nat,inv:=fun i=>i<=s.length/\∀j,j<i->fv j (cM s j)=false,dx:=fun i=>s.length-i,bX:=fun i=>[(3,.s (.one (.d (.int .i64) i)))],aC:=fun _=>[],keep:=[0],ey:=[]})]
def J7(s:List UInt8)(hw:gq [.str] s):(eC Tryz.B [] Tryz.f76 (CH s) [.str] [.err] (fun x y=>y=(fun s=>aJ (aH s)) x) s).holds:=by
 refine holds_of (p:=
  let za:=aJ (aH s)
  let zb:=aQ.no 1=za
  let zc:=ae s
  let zd:=fun(F:Nat)=>(↑(av (cM s F)):Int)
  let ze:=aQ.no 3=za
  let zf:=fun(F:Nat)=>aR (↑F:Int)->aR 1->aR ((↑F:Int)+1)/\∃(x':Nat),(x'<=zc/\∀(j:Nat),j<x'->fv j (cM s j)=false)/\zc-x'<zc-F/\((↑F:Int)+1=(↑x':Int)/\True)/\True
  let zg:=fun(F:Nat)=>((zd F != 95)=true->ze)/\((zd F != 95)=false->zf F)
  let zh:=fun(F:Nat)=>(((↑F:Int) == 0)=true->ze)/\(((↑F:Int) == 0)=false->((decide (zd F<48))=true->zg F)/\((decide (zd F<48))=false->((decide (zd F > 57))=true->zg F)/\((decide (zd F > 57))=false->zf F)))
  ((s == @af UInt8)=true->zb)/\((s == @af UInt8)=false->zc<=aN->((decide ((↑zc:Int) > 8))=true->zb)/\((decide ((↑zc:Int) > 8))=false->zc<=aN->(∃(x:Nat),(x<=zc/\∀(j:Nat),j<x->fv j (cM s j)=false)/\(0=(↑x:Int)/\True)/\True)/\∀F:Nat,(F<=zc/\∀(j:Nat),j<F->fv j (cM s j)=false)->((decide ((↑F:Int)<(↑zc:Int)))=true->(0<=(↑F:Int)/\(↑F:Int)<(↑zc:Int))/\((decide (zd F<97))=true->zh F)/\((decide (zd F<97))=false->((decide (zd F > 122))=true->zh F)/\((decide (zd F > 122))=false->zf F)))/\((decide ((↑F:Int)<(↑zc:Int)))=false->aQ.nil=za)))) (by kernel_rfl) ?_
 dsimp -iota -proj -eta only;refine iQ (fun h0 =>?a) (fun h0 h1=>iL (fun h2 =>?b) (fun h2 h3=>⟨(⟨0,⟨by omega,fun j hj=>by omega⟩,⟨rfl,ad⟩,ad⟩),fun F q_0=>iL (fun h4=>⟨?c,iL (fun h5=>iQ (fun h6 =>?d) (fun h6=>iL (fun h7=>iN (fun h8 =>?e) (fun h8 h9 h10=>⟨?f,?g⟩)) (fun h7=>iL (fun h8=>iN (fun h9 =>?h) (fun h9 h10 h11=>⟨?i,?j⟩)) (fun h8 h9 h10=>⟨?k,?l⟩)))) (fun h5=>iL (fun h6=>iQ (fun h7 =>?m) (fun h7=>iL (fun h8=>iN (fun h9 =>?n) (fun h9 h10 h11=>⟨?o,?p⟩)) (fun h8=>iL (fun h9=>iN (fun h10 =>?q) (fun h10 h11 h12=>⟨?r,?s⟩)) (fun h9 h10 h11=>⟨?t,?u⟩)))) (fun h6 h7 h8=>⟨?v,?w⟩))⟩) (fun h4 =>?x)⟩))
 case a|b=>rw[rh (by first|omega|simp[h0])];rfl
 case c|f|o|r|t=>omega
 case d|e|h|m|n|q=>
  have hl:s.length≠0:=fun e=>h0 (cm.1 e)
  rw[fe (i:=F) (by omega) (by omega) (iC.2 (by omega))];rfl
 case g|j|l|p|s|u|w=>exact⟨F+1,⟨by omega,lj q_0.2 (gY.2 (by omega))⟩,by omega,⟨by omega,ad⟩,ad⟩
 case i|k|v=>simp only[aR,aN]at*;omega
 case x=>
  have hl:s.length≠0:=fun e=>h0 (cm.1 e)
  rw[pM (by omega) (fun i hi=>q_0.2 i (by omega))];rfl
def Tryz.my:cG Tryz.prog Tryz.B.eT Tryz.X 76 [.str] [.err] (fun _=>True) (fun x y=>y=(fun s=>aJ (aH s)) x):=
 dk (X:=Tryz.X) (cN Tryz.cL) Tryz.func76 (by kernel_rfl) (fun x=>CH x) (fun x hw hp=>J7 x hw)
def CJ(s:List UInt8)(hw:gq [.str] s):(eC Tryz.B [] Tryz.f99 (CI s) [.str] [.int .i64] (fun x y=>y=(fun s=>aH s) x) s).holds:=by
 refine holds_of (p:=
  let za:=ae s
  let zb:=za<=aN
  let zc:=(↑za:Int)
  let zd:=aH s
  let ze:=fun(F:Nat)=>0<=(↑F:Int)/\(↑F:Int)<zc
  let zf:=fun(F:Nat)=>(↑(av (cM s F)):Int)
  let zg:=fun(F:Nat) =>!decide (zf F<=122)
  let zh:=3=zd
  let zi:=fun(F:Nat)=>aR (↑F:Int)->aR 1->aR ((↑F:Int)+1)/\∃(x':Nat),(x'<=za/\∀(j:Nat),j<x'->fv j (cM s j)=false)/\za-x'<za-F/\((↑F:Int)+1=(↑x':Int)/\True)/\True
  let zj:=fun(F:Nat)=>(((↑F:Int) == 0)=true->zh)/\(((↑F:Int) == 0)=false->zi F)
  let zk:=fun(F:Nat)=>(((↑F:Int) == 0)=true->zh)/\(((↑F:Int) == 0)=false->((!zf F == 95)=true->zh)/\((!zf F == 95)=false->zi F))
  let zl:=fun(F:Nat)=>ze F/\((zg F)=true->zk F)/\((zg F)=false->zi F)
  zb->((decide (zc<1))=true->1=zd)/\((decide (zc<1))=false->zb->((decide (zc > 8))=true->1=zd)/\((decide (zc > 8))=false->(∃(x:Nat),(x<=za/\∀(j:Nat),j<x->fv j (cM s j)=false)/\(0=(↑x:Int)/\True)/\True)/\∀F:Nat,(F<=za/\∀(j:Nat),j<F->fv j (cM s j)=false)->zb->((decide ((↑F:Int)<zc))=true->ze F/\((decide (zf F>=97))=true->ze F/\ze F/\((decide (zf F>=48))=true->ze F/\((decide (zf F<=57))=true->((zg F)=true->zj F)/\((zg F)=false->zi F))/\((decide (zf F<=57))=false->zl F))/\((decide (zf F>=48))=false->zl F))/\((decide (zf F>=97))=false->ze F/\((decide (zf F>=48))=true->ze F/\((decide (zf F<=57))=true->zj F)/\((decide (zf F<=57))=false->ze F/\zk F))/\((decide (zf F>=48))=false->ze F/\zk F)))/\((decide ((↑F:Int)<zc))=false->0=zd)))) (by kernel_rfl) ?_
 dsimp -iota -proj -eta only;refine fun h0=>iL (fun h1 =>?a) (fun h1 h2=>iL (fun h3 =>?b) (fun h3=>⟨(⟨0,⟨by omega,fun j hj=>by omega⟩,⟨rfl,ad⟩,ad⟩),fun F q_0 h4=>iL (fun h5=>⟨?c,iE (fun h6=>⟨?d,?e,iE (fun h7=>⟨?f,iE (fun h8=>⟨fun h9=>iQ (fun h10 =>?g) (fun h10 h11 h12=>⟨?h,?i⟩),fun h9 h10 h11=>⟨?j,?k⟩⟩) (fun h8=>⟨?l,⟨fun h9=>iQ (fun h10 =>?m) (fun h10=>⟨fun h11 =>?n,fun h11 h12 h13=>⟨?o,?p⟩⟩),fun h9 h10 h11=>⟨?q,?r⟩⟩⟩)⟩) (fun h7=>⟨?s,⟨fun h8=>iQ (fun h9 =>?t) (fun h9=>⟨fun h10 =>?u,fun h10 h11 h12=>⟨?v,?w⟩⟩),fun h8 h9 h10=>⟨?x,?y⟩⟩⟩)⟩) (fun h6=>⟨?z,iE (fun h7=>⟨?a0,iE (fun h8=>iQ (fun h9 =>?a1) (fun h9 h10 h11=>⟨(by simp only[aR,aN]at*;omega),(⟨F+1,⟨by omega,lj q_0.2 (gY.2 (by omega))⟩,by omega,⟨by omega,ad⟩,ad⟩)⟩)) (fun h8=>⟨?a2,iQ (fun h9 =>?a3) (fun h9=>⟨fun h10 =>?a4,fun h10 h11 h12=>⟨?a5,?a6⟩⟩)⟩)⟩) (fun h7=>⟨?a7,iQ (fun h8 =>?a8) (fun h8=>⟨fun h9 =>?a9,fun h9 h10 h11=>⟨?aa,?ab⟩⟩)⟩)⟩)⟩) (fun h5=>(by rw[pM (by omega) (fun i hi=>q_0.2 i (by omega))]))⟩))
 case a|b=>rw[rh (by omega)]
 case c|d|e|f|l|s|z|a0|a2|a7=>omega
 case g|m|a9=>
  simp only[bl,reduceCtorEq]at h9;rw[fe (i:=F) (by omega) (by omega) (iC.2 (by omega))]
 case h|j|aa=>
  simp only[bl,reduceCtorEq]at h9;omega
 case i|k|r|ab=>
  simp only[bl,reduceCtorEq]at h9;exact⟨F+1,⟨by omega,lj q_0.2 (gY.2 (by omega))⟩,by omega,⟨by omega,ad⟩,ad⟩
 case n=>
  simp only[bl,reduceCtorEq]at h9 h11;rw[fe (i:=F) (by omega) (by omega) (iC.2 (by omega))]
 case o=>
  simp only[bl,reduceCtorEq]at h9 h11;omega
 case p=>
  simp only[bl,reduceCtorEq]at h9 h11;exact⟨F+1,⟨by omega,lj q_0.2 (gY.2 (by omega))⟩,by omega,⟨by omega,ad⟩,ad⟩
 case q=>
  simp only[bl,reduceCtorEq]at h9;simp only[aR,aN]at*;omega
 case t=>
  simp only[bl,reduceCtorEq]at h8;rw[fe (i:=F) (by omega) (by omega) (iC.2 (by omega))]
 case u=>
  simp only[bl,reduceCtorEq]at h8 h10;rw[fe (i:=F) (by omega) (by omega) (iC.2 (by omega))]
 case v=>
  simp only[bl,reduceCtorEq]at h8 h10;omega
 case w=>
  simp only[bl,reduceCtorEq]at h8 h10;exact⟨F+1,⟨by omega,lj q_0.2 (gY.2 (by omega))⟩,by omega,⟨by omega,ad⟩,ad⟩
 case x=>
  simp only[bl,reduceCtorEq]at h8;omega
 case y=>
  simp only[bl,reduceCtorEq]at h8;exact⟨F+1,⟨by omega,lj q_0.2 (gY.2 (by omega))⟩,by omega,⟨by omega,ad⟩,ad⟩
 case a1|a3|a8=>rw[fe (i:=F) (by omega) (by omega) (iC.2 (by omega))]
 case a4=>
  simp only[bl,reduceCtorEq]at h10;rw[fe (i:=F) (by omega) (by omega) (iC.2 (by omega))]
 case a5=>
  simp only[bl,reduceCtorEq]at h10;simp only[aR,aN]at*;omega
 case a6=>
  simp only[bl,reduceCtorEq]at h10;exact⟨F+1,⟨by omega,lj q_0.2 (gY.2 (by omega))⟩,by omega,⟨by omega,ad⟩,ad⟩
def Tryz.iy:cG Tryz.prog Tryz.B.eT Tryz.X 99 [.str] [.int .i64] (fun _=>True) (fun x y=>y=(fun s=>aH s) x):=
 dk (X:=Tryz.X) (cN Tryz.cL) Tryz.func99 (by kernel_rfl) (fun x=>CI x) (fun x hw hp=>CJ x hw)
def Iu(e:aQ)(hw:gq [.err] e):(eC Tryz.B [] Tryz.f21 [] [.err] [.int .i64] (fun x y=>y=(fun e=>mr e) x) e).holds:=by
 refine holds_of (p:=
  ((aQ.isNil e)=true->0=mr e)/\((aQ.isNil e)=false->((!aQ.EY e)=true->(-1:Int)=mr e)/\((!aQ.EY e)=false->aQ.num e=mr e))) (by kernel_rfl) ?_
 refine⟨fun h0 =>?a,fun h0=>iB (fun h1 =>?b) (fun h1 =>?c)⟩
 case a|b|c=>cases e <;> simp_all [aQ.isNil,aQ.EY,aQ.num,mr]
def Tryz.lA:cG Tryz.prog Tryz.B.eT Tryz.X 21 [.err] [.int .i64] (fun _=>True) (fun x y=>y=(fun e=>mr e) x):=
 dk (X:=Tryz.X) (cN Tryz.cL) Tryz.func21 (by kernel_rfl) (fun _=>[]) (fun x hw hp=>Iu x hw)
def Tryz.spZ0:Bool×bA:=(true,dj [.str] [.err] (fun _=>True) (fun s=>aJ (aH s)))
def Tryz.spZ1:Bool×bA:=(true,dj [.str] [.int .i64] (fun _=>True) (fun s=>aH s))
def Tryz.spZ2:Bool×bA:=(true,dj [.err] [.int .i64] (fun _=>True) (fun e=>mr e))
def Tryz.EK:List (FuncId×(Bool×bA)):=[(76,Tryz.spZ0),(99,Tryz.spZ1),(21,Tryz.spZ2)]
def Tryz.Iv:bU Tryz.prog Tryz.B Tryz.X Tryz.EK:=
 aU (aK Tryz.my) (aU (aK Tryz.iy) (aU (aK Tryz.lA) (cN Tryz.cL)))
def EL(e:D aA):eo:=[
 (0,fun st=>{X:=Nat,inv:=fun i=>i<=ae e.2.1/\∀j,j<i->cP (nth aE e.2.1 j)=0,dx:=fun i=>ae e.2.1-i,bX:=fun i=>[(34,sI i)],keep:=[1,32,33]}),
 (2,fun st=>{X:=Nat,inv:=fun i=>i<=ae e.2.2.1/\∀j,j<i->cK e.2.1.length (nth aI e.2.2.1 j)=0,dx:=fun i=>ae e.2.2.1-i,bX:=fun i=>[(73,sI i)],keep:=[1,71,72]})]
def Iw(e:D aA)(hw:gq [aA] e):(eC Tryz.B Tryz.EK Tryz.f49 (EL e) [aA] [.err] (fun x y=>y=(fun e=>aJ (aL e)) x) e).holds:=by
 refine holds_of (p:=
  let za:=aJ (aH e.1)
  let zb:=aJ (aL e)
  let zc:=e.2.1
  let zd:=ae zc
  let ze:=zd<=aN
  let zf:=(↑zd:Int)
  let zg:=aQ.no (2:Int)=zb
  let zh:=e.2.2.1
  let zi:=ae zh
  let zj:=fun(F:Nat)=>aJ (aH (nth aE zc F).1)
  let zk:=aQ.no (1:Int)=zb
  let zl:=fun(F:Nat)=>(nth aE zc F).2.2.1
  let zm:=fun(F:Nat)=>(↑F:Int)+(1:Int)
  let zn:=(e.1=e.1/\zc=zc/\zh=zh/\True)/\True
  True/\((!aQ.isNil za)=true->za=zb)/\((!aQ.isNil za)=false->ze->((decide (zf<(1:Int)))=true->zg)/\((decide (zf<(1:Int)))=false->ze->((decide (zf > (6:Int)))=true->zg)/\((decide (zf > (6:Int)))=false->zi<=aN->((decide ((↑zi:Int) > (36:Int)))=true->zg)/\((decide ((↑zi:Int) > (36:Int)))=false->ze->(∃(x:Nat),(x<=zd/\∀(j:Nat),j<x->cP (nth aE zc j)=(0:Int))/\((0:Int)=(↑x:Int)/\True)/\True)/\∀F:Nat,(F<=zd/\∀(j:Nat),j<F->cP (nth aE zc j)=(0:Int))->((decide ((↑F:Int)<zf))=true->((0:Int)<=(↑F:Int)/\(↑F:Int)<zf)/\True/\((!aQ.isNil (zj F))=true->zj F=zb)/\((!aQ.isNil (zj F))=false->((decide ((nth aE zc F).2.1<(1:Int)))=true->zk)/\((decide ((nth aE zc F).2.1<(1:Int)))=false->((decide ((nth aE zc F).2.1 > (1000000:Int)))=true->zk)/\((decide ((nth aE zc F).2.1 > (1000000:Int)))=false->((decide (zl F<(0:Int)))=true->zk)/\((decide (zl F<(0:Int)))=false->((decide (zl F>=(256:Int)))=true->zk)/\((decide (zl F>=(256:Int)))=false->(16:Int)≠(0:Int)/\∀G:Int,G=b4 (zl F) (16:Int)->((G != (0:Int))=true->zk)/\((G != (0:Int))=false->aR (↑F:Int)->aR (1:Int)->aR (zm F)/\∃(x':Nat),(x'<=zd/\∀(j:Nat),j<x'->cP (nth aE zc j)=(0:Int))/\zd-x'<zd-F/\(zm F=(↑x':Int)/\True)/\zn)))))))/\((decide ((↑F:Int)<zf))=false->zi<=aN->(∃(x:Nat),(x<=zi/\∀(j:Nat),j<x->cK zd (nth aI zh j)=(0:Int))/\((0:Int)=(↑x:Int)/\True)/\True)/\∀G:Nat,(G<=zi/\∀(j:Nat),j<G->cK zd (nth aI zh j)=(0:Int))->((decide ((↑G:Int)<(↑zi:Int)))=true->((0:Int)<=(↑G:Int)/\(↑G:Int)<(↑zi:Int))/\((decide ((nth aI zh G).1<(0:Int)))=true->zk)/\((decide ((nth aI zh G).1<(0:Int)))=false->ze->((decide ((nth aI zh G).1>=zf))=true->zk)/\((decide ((nth aI zh G).1>=zf))=false->((decide ((nth aI zh G).2.1<(0:Int)))=true->zk)/\((decide ((nth aI zh G).2.1<(0:Int)))=false->((decide ((nth aI zh G).2.1>=(40:Int)))=true->zk)/\((decide ((nth aI zh G).2.1>=(40:Int)))=false->((decide ((nth aI zh G).2.2.1<(-2147483648:Int)))=true->zk)/\((decide ((nth aI zh G).2.2.1<(-2147483648:Int)))=false->((decide ((nth aI zh G).2.2.1 > (2147483647:Int)))=true->zk)/\((decide ((nth aI zh G).2.2.1 > (2147483647:Int)))=false->aR (↑G:Int)->aR (1:Int)->aR (zm G)/\∃(x':Nat),(x'<=zi/\∀(j:Nat),j<x'->cK zd (nth aI zh j)=(0:Int))/\zi-x'<zi-G/\(zm G=(↑x':Int)/\True)/\zn)))))))/\((decide ((↑G:Int)<(↑zi:Int)))=false->aQ.nil=zb))))))) (by kernel_rfl) ?_
 dsimp -iota -proj -eta only;refine⟨ad,iB (fun h0=>(by rw[ph (y8 (eY _) h0)])) (fun h0 h1=>iL (fun h2=>(by rw[hH (dy (by assumption:(aJ (aH e.1)).isNil=true)) (.inl (by omega))];rfl)) (fun h2 h3=>iL (fun h4=>(by rw[hH (dy (by assumption:(aJ (aH e.1)).isNil=true)) (.inr (.inl (by omega)))];rfl)) (fun h4 h5=>iL (fun h6=>(by rw[hH (dy (by assumption:(aJ (aH e.1)).isNil=true)) (.inr (.inr (by omega)))];rfl)) (fun h6 h7=>⟨?a,fun F q_0=>iL (fun h8=>⟨?b,ad,iB (fun h9=>(by have hp:=y8 (eY _) h9;rw[(dC (dy (by assumption:(aJ (aH e.1)).isNil=true)) (cZ (by omega) (by omega) (by omega)) q_0.2 (by omega) (wT hp) (by omega))])) (fun h9=>iL (fun h10=>(by rw[(dC (dy (by assumption:(aJ (aH e.1)).isNil=true)) (cZ (by omega) (by omega) (by omega)) q_0.2 (by omega) (fZ (dy h9) (.inl ‹_›)) (by decide))];rfl)) (fun h10=>iL (fun h11=>(by rw[(dC (dy (by assumption:(aJ (aH e.1)).isNil=true)) (cZ (by omega) (by omega) (by omega)) q_0.2 (by omega) (fZ (dy h9) (.inr (.inl ‹_›))) (by decide))];rfl)) (fun h11=>iL (fun h12=>(by rw[(dC (dy (by assumption:(aJ (aH e.1)).isNil=true)) (cZ (by omega) (by omega) (by omega)) q_0.2 (by omega) (fZ (dy h9) (.inr (.inr (.inl ‹_›)))) (by decide))];rfl)) (fun h12=>iE (fun h13=>(by rw[(dC (dy (by assumption:(aJ (aH e.1)).isNil=true)) (cZ (by omega) (by omega) (by omega)) q_0.2 (by omega) (fZ (dy h9) (.inr (.inr (.inr (.inl ‹_›))))) (by decide))];rfl)) (fun h13=>⟨(by trivial),fun G q_1=>iN (fun h14=>(by have hb:=qK h12 q_1;rw[(dC (dy (by assumption:(aJ (aH e.1)).isNil=true)) (cZ (by omega) (by omega) (by omega)) q_0.2 (by omega) (fZ (dy h9) (.inr (.inr (.inr (.inr (by rw[hb]at h14;exact(Int.lt_iff_le_and_ne.2 ⟨dc _ (by decide),fun e'=>h14 e'.symm⟩))))))) (by decide))];rfl)) (fun h14 h15 h16=>⟨?c,(by have hb:=qK h12 q_1;exact⟨F+1,⟨by omega,kg q_0.2 (BZ (dy h9) h10 h11 h12 (dd (show _<(255:Int)+1 from h13)) (hb.symm.trans h14))⟩,by omega,⟨by omega,ad⟩,(by trivial)⟩)⟩)⟩)))))⟩) (fun h8 h9=>⟨?d,fun G q_1=>iL (fun h10=>⟨?e,iL (fun h11=>(by rw[(dM (dy (by assumption:(aJ (aH e.1)).isNil=true)) (cZ (by omega) (by omega) (by omega)) (fun j hj=>q_0.2 j (by omega)) q_1.2 (by omega) (ga (.inl ‹_›)))];rfl)) (fun h11 h12=>iE (fun h13=>(by rw[(dM (dy (by assumption:(aJ (aH e.1)).isNil=true)) (cZ (by omega) (by omega) (by omega)) (fun j hj=>q_0.2 j (by omega)) q_1.2 (by omega) (ga (.inr (.inl ‹_›))))];rfl)) (fun h13=>iL (fun h14=>(by rw[(dM (dy (by assumption:(aJ (aH e.1)).isNil=true)) (cZ (by omega) (by omega) (by omega)) (fun j hj=>q_0.2 j (by omega)) q_1.2 (by omega) (ga (.inr (.inr (.inl ‹_›)))))];rfl)) (fun h14=>iE (fun h15=>(by rw[(dM (dy (by assumption:(aJ (aH e.1)).isNil=true)) (cZ (by omega) (by omega) (by omega)) (fun j hj=>q_0.2 j (by omega)) q_1.2 (by omega) (ga (.inr (.inr (.inr (.inl ‹_›))))))];rfl)) (fun h15=>iL (fun h16=>(by rw[(dM (dy (by assumption:(aJ (aH e.1)).isNil=true)) (cZ (by omega) (by omega) (by omega)) (fun j hj=>q_0.2 j (by omega)) q_1.2 (by omega) (ga (.inr (.inr (.inr (.inr (.inl ‹_›)))))))];rfl)) (fun h16=>iL (fun h17=>(by rw[(dM (dy (by assumption:(aJ (aH e.1)).isNil=true)) (cZ (by omega) (by omega) (by omega)) (fun j hj=>q_0.2 j (by omega)) q_1.2 (by omega) (ga (.inr (.inr (.inr (.inr (.inr ‹_›)))))))];rfl)) (fun h17 h18 h19=>⟨?f,(⟨G+1,⟨by omega,kg q_1.2 (FU ‹_› ‹_› ‹_› (dd (show _<(39:Int)+1 from h15)) ‹_› ‹_›)⟩,by omega,⟨by omega,ad⟩,(by trivial)⟩)⟩))))))⟩) (fun h10=>(by rw[zD (dy (by assumption:(aJ (aH e.1)).isNil=true)) (cZ (by omega) (by omega) (by omega)) (fun j hj=>q_0.2 j (by omega)) (fun j hj=>q_1.2 j (by omega))];rfl))⟩)⟩))))⟩
 case a|d=>exact⟨0,⟨au _,fun j hj=>absurd hj (bm _)⟩,⟨rfl,ad⟩,ad⟩
 case b|e=>omega
 case c|f=>simp only[aR,aN]at*;omega
def Tryz.zX:cG Tryz.prog Tryz.B.eT Tryz.X 49 [aA] [.err] (fun _=>True) (fun x y=>y=(fun e=>aJ (aL e)) x):=
 dk (X:=Tryz.X) Tryz.Iv Tryz.func49 (by kernel_rfl) (fun x=>EL x) (fun x hw hp=>Iw x hw)
end Go.Proofs.YtgokjhhcfemnhacGreatDoor

namespace Go.Proofs.YtgokjhhcfemnhacGreatDoor
open Go.Shelf
def Tryz.DQ:b5:=⟨fun|103=>130|210=>148|206=>167|n=>n,fun|9=>9|4=>4|24=>208|3=>3|n=>n,fun|n=>n⟩
def Tryz.Lp:gE Tryz.prog Tryz.DQ:={
 mixed:=by kernel_rfl
 f103:=Tryz.func130.trans (congrArg some (by kernel_rfl))
 f206:=Tryz.func167.trans (congrArg some (by kernel_rfl))
 f210:=Tryz.func148.trans (congrArg some (by kernel_rfl))
 t3:=Tryz.underlying3
 a3:=Tryz.isAgg3
 z3:=Tryz.sizeOf3
 v3:=Tryz.zeroValue3
 t4:=Tryz.underlying4
 a4:=Tryz.isAgg4
 z4:=Tryz.sizeOf4
 v4:=Tryz.zeroValue4
 t9:=Tryz.underlying9
 a9:=Tryz.isAgg9
 z9:=Tryz.sizeOf9
 v9:=Tryz.zeroValue9
 t24:=Tryz.underlying208
 a24:=Tryz.isAgg208
 z24:=Tryz.sizeOf208
 v24:=Tryz.zeroValue208}
open Go.RowKit in
def Tryz.strings_CutPrefix(s p:ByteArray)(w:World) :
  Calls Tryz.prog 130 #[.string s,.string p] w fun e w'=>e=.returned (.tuple #[.string ⟨(br s.data.toList p.data.toList).toArray⟩,.bool (b8 s.data.toList p.data.toList)])/\w'=w:=Any.strings_CutPrefix Tryz.Lp s p w
def Tryz.CK:b5:=⟨fun|171=>71|243=>109|246=>128|283=>144|284=>145|285=>146|286=>147|129=>163|317=>162|318=>164|319=>165|320=>166|337=>174|338=>175|n=>n,fun|3=>3|9=>9|2=>2|4=>4|171=>227|0=>0|53=>23|37=>142|5=>5|173=>230|212=>242|51=>216|20=>20|213=>243|46=>182|232=>261|233=>262|n=>n,fun|17=>1|18=>6|19=>7|n=>n⟩
def Tryz.J8:gN Tryz.prog Tryz.CK:={
 mixed:=by kernel_rfl
 f129:=Tryz.func163.trans (congrArg some (by kernel_rfl))
 f171:=Tryz.func71.trans (congrArg some (by kernel_rfl))
 f243:=Tryz.func109.trans (congrArg some (by kernel_rfl))
 f246:=Tryz.func128.trans (congrArg some (by kernel_rfl))
 f283:=Tryz.func144.trans (congrArg some (by kernel_rfl))
 f284:=Tryz.func145.trans (congrArg some (by kernel_rfl))
 f285:=Tryz.func146.trans (congrArg some (by kernel_rfl))
 f286:=Tryz.func147.trans (congrArg some (by kernel_rfl))
 f317:=Tryz.func162.trans (congrArg some (by kernel_rfl))
 f318:=Tryz.func164.trans (congrArg some (by kernel_rfl))
 f319:=Tryz.func165.trans (congrArg some (by kernel_rfl))
 f320:=Tryz.func166.trans (congrArg some (by kernel_rfl))
 f337:=Tryz.func174.trans (congrArg some (by kernel_rfl))
 f338:=Tryz.func175.trans (congrArg some (by kernel_rfl))
 t0:=Tryz.underlying0
 a0:=Tryz.isAgg0
 z0:=Tryz.sizeOf0
 v0:=Tryz.zeroValue0
 t2:=Tryz.underlying2
 a2:=Tryz.isAgg2
 z2:=Tryz.sizeOf2
 v2:=Tryz.zeroValue2
 t3:=Tryz.underlying3
 a3:=Tryz.isAgg3
 z3:=Tryz.sizeOf3
 v3:=Tryz.zeroValue3
 t4:=Tryz.underlying4
 a4:=Tryz.isAgg4
 z4:=Tryz.sizeOf4
 v4:=Tryz.zeroValue4
 t5:=Tryz.underlying5
 a5:=Tryz.isAgg5
 z5:=Tryz.sizeOf5
 v5:=Tryz.zeroValue5
 t9:=Tryz.underlying9
 a9:=Tryz.isAgg9
 z9:=Tryz.sizeOf9
 v9:=Tryz.zeroValue9
 t20:=Tryz.underlying20
 a20:=Tryz.isAgg20
 z20:=Tryz.sizeOf20
 v20:=Tryz.zeroValue20
 t37:=Tryz.underlying142
 a37:=Tryz.isAgg142
 z37:=Tryz.sizeOf142
 v37:=Tryz.zeroValue142
 t46:=Tryz.underlying182
 a46:=Tryz.isAgg182
 z46:=Tryz.sizeOf182
 v46:=Tryz.zeroValue182
 t51:=Tryz.underlying216
 a51:=Tryz.isAgg216
 z51:=Tryz.sizeOf216
 v51:=Tryz.zeroValue216
 t53:=Tryz.underlying23
 a53:=Tryz.isAgg23
 z53:=Tryz.sizeOf23
 v53:=Tryz.zeroValue23
 t171:=Tryz.underlying227
 a171:=Tryz.isAgg227
 z171:=Tryz.sizeOf227
 v171:=Tryz.zeroValue227
 t173:=Tryz.underlying230
 a173:=Tryz.isAgg230
 z173:=Tryz.sizeOf230
 v173:=Tryz.zeroValue230
 t212:=Tryz.underlying242
 a212:=Tryz.isAgg242
 z212:=Tryz.sizeOf242
 v212:=Tryz.zeroValue242
 t213:=Tryz.underlying243
 a213:=Tryz.isAgg243
 z213:=Tryz.sizeOf243
 t232:=Tryz.underlying261
 a232:=Tryz.isAgg261
 z232:=Tryz.sizeOf261
 v232:=Tryz.zeroValue261
 t233:=Tryz.underlying262
 a233:=Tryz.isAgg262
 z233:=Tryz.sizeOf262
 v233:=Tryz.zeroValue262
 g17:=by kernel_rfl
 g18:=by kernel_rfl
 g19:=by kernel_rfl
 i0:=by kernel_rfl
 i2:=by kernel_rfl
 i3:=by kernel_rfl
 i4:=by kernel_rfl
 i5:=by kernel_rfl
 i9:=by kernel_rfl
 i20:=by kernel_rfl
 i37:=by kernel_rfl
 i46:=by kernel_rfl
 i51:=by kernel_rfl
 i53:=by kernel_rfl
 i171:=by kernel_rfl
 i173:=by kernel_rfl
 i212:=by kernel_rfl
 i232:=by kernel_rfl
 i233:=by kernel_rfl
 m17:=by kernel_rfl
 m18:=by kernel_rfl
 m19:=by kernel_rfl}
open Go.RowKit Go.Sort Go.Lib in
def Tryz.strconv_Itoa(n:Int)(h0 : -9223372036854775808<=n)(h1:n<=9223372036854775807)(w:World)(htab:cj Tryz.prog w "internal/strconv.uint64pow10" .u64 ck) :
  Calls Tryz.prog 71 #[.int .i64 n] w fun e w'=>e=.returned (.string ⟨(al n).toArray⟩)/\∃k os,w'=grow (w.drewN k) os:=Any.strconv_Itoa Tryz.J8 n h0 h1 w htab
def Tryz.CL:b5:=⟨fun|172=>125|244=>141|245=>142|247=>157|279=>158|280=>159|281=>160|282=>161|287=>171|316=>172|171=>71|205=>173|321=>176|322=>177|243=>109|246=>128|283=>144|284=>145|285=>146|286=>147|129=>163|317=>162|318=>164|319=>165|320=>166|337=>174|338=>175|n=>n,fun|9=>9|3=>3|75=>36|76=>146|4=>4|5=>5|167=>235|37=>142|0=>0|85=>236|2=>2|168=>238|53=>23|175=>251|46=>182|210=>254|127=>188|145=>260|143=>258|21=>21|171=>227|173=>230|212=>242|51=>216|20=>20|213=>243|232=>261|233=>262|80=>149|n=>n,fun|15=>4|16=>5|17=>1|18=>6|19=>7|n=>n⟩
def Tryz.vD:hB Tryz.prog Tryz.CL:={
 mixed:=by kernel_rfl
 f129:=Tryz.func163.trans (congrArg some (by kernel_rfl))
 f171:=Tryz.func71.trans (congrArg some (by kernel_rfl))
 f172:=Tryz.func125.trans (congrArg some (by kernel_rfl))
 f205:=Tryz.func173.trans (congrArg some (by kernel_rfl))
 f243:=Tryz.func109.trans (congrArg some (by kernel_rfl))
 f244:=Tryz.func141.trans (congrArg some (by kernel_rfl))
 f245:=Tryz.func142.trans (congrArg some (by kernel_rfl))
 f246:=Tryz.func128.trans (congrArg some (by kernel_rfl))
 f247:=Tryz.func157.trans (congrArg some (by kernel_rfl))
 f279:=Tryz.func158.trans (congrArg some (by kernel_rfl))
 f280:=Tryz.func159.trans (congrArg some (by kernel_rfl))
 f281:=Tryz.func160.trans (congrArg some (by kernel_rfl))
 f282:=Tryz.func161.trans (congrArg some (by kernel_rfl))
 f283:=Tryz.func144.trans (congrArg some (by kernel_rfl))
 f284:=Tryz.func145.trans (congrArg some (by kernel_rfl))
 f285:=Tryz.func146.trans (congrArg some (by kernel_rfl))
 f286:=Tryz.func147.trans (congrArg some (by kernel_rfl))
 f287:=Tryz.func171.trans (congrArg some (by kernel_rfl))
 f316:=Tryz.func172.trans (congrArg some (by kernel_rfl))
 f317:=Tryz.func162.trans (congrArg some (by kernel_rfl))
 f318:=Tryz.func164.trans (congrArg some (by kernel_rfl))
 f319:=Tryz.func165.trans (congrArg some (by kernel_rfl))
 f320:=Tryz.func166.trans (congrArg some (by kernel_rfl))
 f321:=Tryz.func176.trans (congrArg some (by kernel_rfl))
 f322:=Tryz.func177.trans (congrArg some (by kernel_rfl))
 f337:=Tryz.func174.trans (congrArg some (by kernel_rfl))
 f338:=Tryz.func175.trans (congrArg some (by kernel_rfl))
 t0:=Tryz.underlying0
 a0:=Tryz.isAgg0
 z0:=Tryz.sizeOf0
 v0:=Tryz.zeroValue0
 t2:=Tryz.underlying2
 a2:=Tryz.isAgg2
 z2:=Tryz.sizeOf2
 v2:=Tryz.zeroValue2
 t3:=Tryz.underlying3
 a3:=Tryz.isAgg3
 z3:=Tryz.sizeOf3
 v3:=Tryz.zeroValue3
 t4:=Tryz.underlying4
 a4:=Tryz.isAgg4
 z4:=Tryz.sizeOf4
 v4:=Tryz.zeroValue4
 t5:=Tryz.underlying5
 a5:=Tryz.isAgg5
 z5:=Tryz.sizeOf5
 v5:=Tryz.zeroValue5
 t9:=Tryz.underlying9
 a9:=Tryz.isAgg9
 z9:=Tryz.sizeOf9
 v9:=Tryz.zeroValue9
 t20:=Tryz.underlying20
 a20:=Tryz.isAgg20
 z20:=Tryz.sizeOf20
 v20:=Tryz.zeroValue20
 t21:=Tryz.underlying21
 a21:=Tryz.isAgg21
 z21:=Tryz.sizeOf21
 v21:=Tryz.zeroValue21
 t37:=Tryz.underlying142
 a37:=Tryz.isAgg142
 z37:=Tryz.sizeOf142
 v37:=Tryz.zeroValue142
 t46:=Tryz.underlying182
 a46:=Tryz.isAgg182
 z46:=Tryz.sizeOf182
 v46:=Tryz.zeroValue182
 t51:=Tryz.underlying216
 a51:=Tryz.isAgg216
 z51:=Tryz.sizeOf216
 v51:=Tryz.zeroValue216
 t53:=Tryz.underlying23
 a53:=Tryz.isAgg23
 z53:=Tryz.sizeOf23
 v53:=Tryz.zeroValue23
 t75:=Tryz.underlying36
 a75:=Tryz.isAgg36
 z75:=Tryz.sizeOf36
 v75:=Tryz.zeroValue36
 t76:=Tryz.underlying146
 a76:=Tryz.isAgg146
 z76:=Tryz.sizeOf146
 v76:=Tryz.zeroValue146
 t85:=Tryz.underlying236
 a85:=Tryz.isAgg236
 z85:=Tryz.sizeOf236
 v85:=Tryz.zeroValue236
 t127:=Tryz.underlying188
 a127:=Tryz.isAgg188
 z127:=Tryz.sizeOf188
 v127:=Tryz.zeroValue188
 t143:=Tryz.underlying258
 a143:=Tryz.isAgg258
 z143:=Tryz.sizeOf258
 v143:=Tryz.zeroValue258
 t145:=Tryz.underlying260
 a145:=Tryz.isAgg260
 z145:=Tryz.sizeOf260
 v145:=Tryz.zeroValue260
 t167:=Tryz.underlying235
 a167:=Tryz.isAgg235
 z167:=Tryz.sizeOf235
 v167:=Tryz.zeroValue235
 t168:=Tryz.underlying238
 a168:=Tryz.isAgg238
 z168:=Tryz.sizeOf238
 v168:=Tryz.zeroValue238
 t171:=Tryz.underlying227
 a171:=Tryz.isAgg227
 z171:=Tryz.sizeOf227
 v171:=Tryz.zeroValue227
 t173:=Tryz.underlying230
 a173:=Tryz.isAgg230
 z173:=Tryz.sizeOf230
 v173:=Tryz.zeroValue230
 t175:=Tryz.underlying251
 a175:=Tryz.isAgg251
 z175:=Tryz.sizeOf251
 v175:=Tryz.zeroValue251
 t210:=Tryz.underlying254
 a210:=Tryz.isAgg254
 z210:=Tryz.sizeOf254
 v210:=Tryz.zeroValue254
 t212:=Tryz.underlying242
 a212:=Tryz.isAgg242
 z212:=Tryz.sizeOf242
 v212:=Tryz.zeroValue242
 t213:=Tryz.underlying243
 a213:=Tryz.isAgg243
 z213:=Tryz.sizeOf243
 t232:=Tryz.underlying261
 a232:=Tryz.isAgg261
 z232:=Tryz.sizeOf261
 v232:=Tryz.zeroValue261
 t233:=Tryz.underlying262
 a233:=Tryz.isAgg262
 z233:=Tryz.sizeOf262
 v233:=Tryz.zeroValue262
 g15:=by kernel_rfl
 g16:=by kernel_rfl
 g17:=by kernel_rfl
 g18:=by kernel_rfl
 g19:=by kernel_rfl
 t80:=Tryz.underlying149
 a80:=Tryz.isAgg149
 z80:=Tryz.sizeOf149
 v80:=Tryz.zeroValue149
 i0:=by kernel_rfl
 i2:=by kernel_rfl
 i3:=by kernel_rfl
 i4:=by kernel_rfl
 i5:=by kernel_rfl
 i9:=by kernel_rfl
 i20:=by kernel_rfl
 i21:=by kernel_rfl
 i37:=by kernel_rfl
 i46:=by kernel_rfl
 i51:=by kernel_rfl
 i53:=by kernel_rfl
 i75:=by kernel_rfl
 i76:=by kernel_rfl
 i80:=by kernel_rfl
 i85:=by kernel_rfl
 i127:=by kernel_rfl
 i143:=by kernel_rfl
 i145:=by kernel_rfl
 i167:=by kernel_rfl
 i168:=by kernel_rfl
 i171:=by kernel_rfl
 i173:=by kernel_rfl
 i175:=by kernel_rfl
 i210:=by kernel_rfl
 i212:=by kernel_rfl
 i232:=by kernel_rfl
 i233:=by kernel_rfl
 m15:=by kernel_rfl
 m16:=by kernel_rfl
 m17:=by kernel_rfl
 m18:=by kernel_rfl
 m19:=by kernel_rfl
 c0:=by kernel_rfl
 c2:=by kernel_rfl
 c3:=by kernel_rfl
 c4:=by kernel_rfl
 c5:=by kernel_rfl
 c9:=by kernel_rfl
 c20:=by kernel_rfl
 c21:=by kernel_rfl
 c37:=by kernel_rfl
 c46:=by kernel_rfl
 c51:=by kernel_rfl
 c53:=by kernel_rfl
 c75:=by kernel_rfl
 c76:=by kernel_rfl
 c80:=by kernel_rfl
 c85:=by kernel_rfl
 c127:=by kernel_rfl
 c143:=by kernel_rfl
 c145:=by kernel_rfl
 c167:=by kernel_rfl
 c168:=by kernel_rfl
 c171:=by kernel_rfl
 c173:=by kernel_rfl
 c175:=by kernel_rfl
 c210:=by kernel_rfl
 c212:=by kernel_rfl
 c213:=by kernel_rfl
 c232:=by kernel_rfl
 c233:=by kernel_rfl}
open Go.RowKit in
def Tryz.strconv_Atoi_ok(s:ByteArray)(hmax:s.size<=9223372036854775806)(v:Int)(h:b9 s.data.toList=.ok v)(w:World) :
  Calls Tryz.prog 125 #[.string s] w fun e w'=>e=.returned (.tuple #[.int .i64 v,.nilIface])/\(w'=w\/∃t,w'=Lib.bytesWorld w 5 t):=Any.strconv_Atoi_ok Tryz.vD s hmax v h w
open Go.RowKit in
def Tryz.strconv_Atoi_syntax(s:ByteArray)(hlim:s.size<=281474976710656)(h:b9 s.data.toList=Go.Lib.NumEnd.syntax)(ev:Value)(w:World)(hv:w.cell? ⟨4,0,none⟩=some ev)(hev:ev=.nilIface\/∃te pe,ev=.iface te pe) :
  Calls Tryz.prog 125 #[.string s] w fun e w'=>∃N,e=.returned (.tuple #[.int .i64 (0),.iface 238 (.pointer (some ⟨N,0,none⟩))])/\w.heap.size<=N/\w'.heap[N]?=some (.cells #[.string ⟨#[65,116,111,105]⟩,.string s,ev] 254 (0,0))/\Below w.heap.size w w':=Any.strconv_Atoi_syntax Tryz.vD s hlim h ev w hv hev
open Go.RowKit in
def Tryz.strconv_Atoi_range(s:ByteArray)(hlim:s.size<=281474976710656)(h:b9 s.data.toList=.range)(ev:Value)(w:World)(hv:w.cell? ⟨5,0,none⟩=some ev)(hev:ev=.nilIface\/∃te pe,ev=.iface te pe) :
  Calls Tryz.prog 125 #[.string s] w fun e w'=>∃N,e=.returned (.tuple #[.int .i64 (cn s.data.toList),.iface 238 (.pointer (some ⟨N,0,none⟩))])/\w.heap.size<=N/\w'.heap[N]?=some (.cells #[.string ⟨#[65,116,111,105]⟩,.string s,ev] 254 (0,0))/\Below w.heap.size w w':=Any.strconv_Atoi_range Tryz.vD s hlim h ev w hv hev
def Tryz.DR:b5:=⟨fun|102=>103|209=>124|207=>140|n=>n,fun|9=>9|4=>4|3=>3|n=>n,fun|n=>n⟩
def Tryz.Lq:hC Tryz.prog Tryz.DR:={
 mixed:=by kernel_rfl
 f102:=Tryz.func103.trans (congrArg some (by kernel_rfl))
 f207:=Tryz.func140.trans (congrArg some (by kernel_rfl))
 f209:=Tryz.func124.trans (congrArg some (by kernel_rfl))
 t3:=Tryz.underlying3
 a3:=Tryz.isAgg3
 z3:=Tryz.sizeOf3
 v3:=Tryz.zeroValue3
 t4:=Tryz.underlying4
 a4:=Tryz.isAgg4
 z4:=Tryz.sizeOf4
 v4:=Tryz.zeroValue4
 t9:=Tryz.underlying9
 a9:=Tryz.isAgg9
 z9:=Tryz.sizeOf9
 v9:=Tryz.zeroValue9}
open Go.RowKit Go.Lib in
def Tryz.strings_TrimSuffix(s p:ByteArray)(w:World)(hs:s.size<=9223372036854775807) :
  Calls Tryz.prog 103 #[.string s,.string p] w fun e w'=>e=.returned (.string ⟨(ar s.data.toList p.data.toList).toArray⟩)/\w'=w:=Any.strings_TrimSuffix Tryz.Lq s p w hs
def Tryz.DS:b5:=⟨fun|146=>102|221=>101|268=>121|138=>122|143=>123|195=>136|197=>137|218=>138|219=>139|260=>152|217=>153|225=>154|224=>155|267=>156|266=>169|314=>170|n=>n,fun|9=>9|31=>56|3=>3|4=>4|0=>0|105=>221|21=>21|5=>5|46=>182|119=>246|139=>249|138=>248|146=>217|51=>216|n=>n,fun|1=>0|3=>2|4=>3|n=>n⟩
def Tryz.EM:hD Tryz.prog Tryz.DS:={
 mixed:=by kernel_rfl
 f138:=Tryz.func122.trans (congrArg some (by kernel_rfl))
 f143:=Tryz.func123.trans (congrArg some (by kernel_rfl))
 f146:=Tryz.func102.trans (congrArg some (by kernel_rfl))
 f195:=Tryz.func136.trans (congrArg some (by kernel_rfl))
 f197:=Tryz.func137.trans (congrArg some (by kernel_rfl))
 f217:=Tryz.func153.trans (congrArg some (by kernel_rfl))
 f218:=Tryz.func138.trans (congrArg some (by kernel_rfl))
 f219:=Tryz.func139.trans (congrArg some (by kernel_rfl))
 f221:=Tryz.func101.trans (congrArg some (by kernel_rfl))
 f224:=Tryz.func155.trans (congrArg some (by kernel_rfl))
 f225:=Tryz.func154.trans (congrArg some (by kernel_rfl))
 f260:=Tryz.func152.trans (congrArg some (by kernel_rfl))
 f266:=Tryz.func169.trans (congrArg some (by kernel_rfl))
 f267:=Tryz.func156.trans (congrArg some (by kernel_rfl))
 f268:=Tryz.func121.trans (congrArg some (by kernel_rfl))
 f314:=Tryz.func170.trans (congrArg some (by kernel_rfl))
 t0:=Tryz.underlying0
 a0:=Tryz.isAgg0
 z0:=Tryz.sizeOf0
 v0:=Tryz.zeroValue0
 t3:=Tryz.underlying3
 a3:=Tryz.isAgg3
 z3:=Tryz.sizeOf3
 v3:=Tryz.zeroValue3
 t4:=Tryz.underlying4
 a4:=Tryz.isAgg4
 z4:=Tryz.sizeOf4
 v4:=Tryz.zeroValue4
 t5:=Tryz.underlying5
 a5:=Tryz.isAgg5
 z5:=Tryz.sizeOf5
 v5:=Tryz.zeroValue5
 t9:=Tryz.underlying9
 a9:=Tryz.isAgg9
 z9:=Tryz.sizeOf9
 v9:=Tryz.zeroValue9
 t21:=Tryz.underlying21
 a21:=Tryz.isAgg21
 z21:=Tryz.sizeOf21
 v21:=Tryz.zeroValue21
 t31:=Tryz.underlying56
 a31:=Tryz.isAgg56
 z31:=Tryz.sizeOf56
 v31:=Tryz.zeroValue56
 t46:=Tryz.underlying182
 a46:=Tryz.isAgg182
 z46:=Tryz.sizeOf182
 v46:=Tryz.zeroValue182
 t51:=Tryz.underlying216
 a51:=Tryz.isAgg216
 z51:=Tryz.sizeOf216
 v51:=Tryz.zeroValue216
 t105:=Tryz.underlying221
 a105:=Tryz.isAgg221
 z105:=Tryz.sizeOf221
 v105:=Tryz.zeroValue221
 t119:=Tryz.underlying246
 a119:=Tryz.isAgg246
 z119:=Tryz.sizeOf246
 t138:=Tryz.underlying248
 a138:=Tryz.isAgg248
 z138:=Tryz.sizeOf248
 v138:=Tryz.zeroValue248
 t139:=Tryz.underlying249
 a139:=Tryz.isAgg249
 z139:=Tryz.sizeOf249
 v139:=Tryz.zeroValue249
 t146:=Tryz.underlying217
 a146:=Tryz.isAgg217
 z146:=Tryz.sizeOf217
 v146:=Tryz.zeroValue217
 g1:=by kernel_rfl
 g3:=by kernel_rfl
 g4:=by kernel_rfl}
open Go.RowKit Go.Lib in
def Tryz.strings_Split(s sep:ByteArray)(m:Int)(w:World)(hs:s.size<4294967281)(hm:w.cell? ⟨0,0,none⟩=some (.int .i64 m))(h1:1<=sep.size) :
  Calls Tryz.prog 102 #[.string s,.string sep] w fun e w'=>
   e=.returned (.slice (some ⟨w.heap.size,0,none⟩) (ak s sep+1) (ak s sep+1))/\w'=w.alloc (.cells ((ay sep 0 (ak s sep) s).map bt).toArray 9):=Any.strings_Split Tryz.EM (by kernel_rfl) s sep m w hs hm h1
end Go.Proofs.YtgokjhhcfemnhacGreatDoor

namespace Go.Proofs.YtgokjhhcfemnhacGreatDoor
open Go.Vg Go.Mrl
def Gr(w:World)(k:Nat)(os:Array Obj):Vg.Below w.heap.size w (Sort.grow (w.drewN k) os):=by
 refine⟨rfl,rfl,?_,fun i hi =>?_⟩
 ·show w.heap.size<=(w.heap++os).size
  simp
 ·show(w.heap++os)[i]?=w.heap[i]?
  rw[Array.getElem?_append,if_pos hi]
def Lr{eT:TypeId}{n:Int}{O:aD}{w:World}{v:Value}(h:VR eT (.int .i64) n O w v):v=.int .i64 n/\-9223372036854775808<=n/\n<=9223372036854775807:=by
 obtain⟨h1,h2,h3⟩:=VR.one rfl h;exact⟨by simpa using h1,h2,h3⟩
def kv{eT:TypeId}{s:List UInt8}{O:aD}{w:World}{v:Value}(h:VR eT .str s O w v):v=.string ⟨s.toArray⟩/\s.length<=aN:=by
 obtain⟨h1,h2⟩:=VR.one rfl h;exact⟨by simpa using h1,h2⟩
def CM{eT:TypeId}{s:List UInt8}{O:aD}{w:World}(h:s.length<=aN):VR eT .str s O w (.string ⟨s.toArray⟩):=VR.bQ rfl ⟨rfl,h⟩
def qZ:∀(k u:Nat),u<10^(k+1)->Lib.nDigits u<=k+1
 |0,u,h=>by rw[dn (by simpa using h)];exact az _
 |k+1,u,h=>by
  by_cases hu:u<10
  ·rw[dn hu];omega
  ·rw[Lib.nDigits_big hu]
   have:=qZ k (u / 10) (by rw[Nat.pow_succ]at h;omega);omega
def J9{n:Int}(h0 : -9223372036854775808<=n)(h1:n<=9223372036854775807):(al n).length<=21:=by
 unfold al;split
 ·rw[bh,dp]
  have:=qZ 19 n.natAbs (by omega);omega
 ·rw[dp]
  have:=qZ 19 n.toNat (by omega);omega
def Tryz.vE:cG Tryz.prog Tryz.B.eT Tryz.X 71 [.int .i64] [.str] (fun _=>True) (fun n y=>y=al n):=by
 refine⟨⟨Tryz.f71,Tryz.func71,by kernel_rfl,by kernel_rfl⟩,fun O w n vs hG hO ha _ =>?_⟩;obtain⟨v,rfl,hv⟩:=ha;obtain⟨rfl,h0,h1⟩:=Lr hv;refine(Tryz.strconv_Itoa n h0 h1 w hG.pow).mono ?_;rintro e w' ⟨rfl,k,os,rfl⟩;exact⟨[.string ⟨(al n).toArray⟩],al n,rfl,rfl,⟨_,rfl,CM (by have:=J9 h0 h1;unfold aN;omega)⟩,Gr w k os⟩
def Tryz.CN:cG Tryz.prog Tryz.B.eT Tryz.X 125 [.str] [.int .i64,.err] (fun s=>s.length<=281474976710656) (fun s y=>y=gx s):=by
 refine⟨⟨Tryz.f125,Tryz.func125,by kernel_rfl,by kernel_rfl⟩,fun O w s vs hG hO ha hs =>?_⟩;obtain⟨v,rfl,hv⟩:=ha;obtain⟨rfl,hl⟩:=kv hv;have hsz:(⟨s.toArray⟩:ByteArray).size=s.length:=by simp[ca]
 have hsl:(⟨s.toArray⟩:ByteArray).data.toList=s:=by simp
 cases ha:b9 s with
 |ok n=>
  refine(Tryz.strconv_Atoi_ok ⟨s.toArray⟩ (by rw[hsz];omega) n (by rw[hsl];exact ha) w).mono ?_;rintro e w' ⟨rfl,hw⟩;obtain⟨b0,b1⟩:=Lib.atoiAll_bounds ha;refine⟨[.int .i64 n,.nilIface],(n,.nil),rfl,by unfold gx;rw[ha],⟨_,_,rfl,VR.bQ rfl ⟨rfl,b0,b1⟩,⟨_,rfl,VR.bQ rfl ⟨_,rfl,rfl⟩⟩⟩,?_⟩;rcases hw with rfl|⟨t,rfl⟩
  ·exact Vg.Below.refl _ _
  ·exact .of (Lib.bytesWorld_below _ _ _)
 |range=>
  obtain⟨ev,hv,he⟩:=hG.Nc;obtain⟨b0,b1⟩:=Lib.atoiSat_bounds s;have hA:=Tryz.strconv_Atoi_range ⟨s.toArray⟩ (by rw[hsz];exact hs) (by rw[hsl];exact ha) ev w hv he;rw[hsl]at hA;refine hA.mono ?_;rintro e w' ⟨N,rfl,_,_,hb⟩;exact⟨[.int .i64 (cn s),_],(cn s,.other),rfl,by unfold gx;rw[ha],⟨_,_,rfl,VR.bQ rfl ⟨rfl,b0,b1⟩,⟨_,rfl,VR.bQ rfl ⟨_,rfl,_,_,rfl,by decide+kernel⟩⟩⟩,.of hb⟩
 |_=>
  obtain⟨ev,hv,he⟩:=hG.Nb;refine(Tryz.strconv_Atoi_syntax ⟨s.toArray⟩ (by rw[hsz];exact hs) (by rw[hsl];exact ha) ev w hv he).mono ?_;rintro e w' ⟨N,rfl,_,_,hb⟩;exact⟨[.int .i64 0,_],(0,.other),rfl,by unfold gx;rw[ha],⟨_,_,rfl,VR.bQ rfl ⟨rfl,by decide,by decide⟩,⟨_,rfl,VR.bQ rfl ⟨_,rfl,_,_,rfl,by decide+kernel⟩⟩⟩,.of hb⟩
def Tryz.sP:cG Tryz.prog Tryz.B.eT Tryz.X 130 [.str,.str] [.str,.bool] (fun _=>True) (fun x y=>y=(br x.1 x.2,b8 x.1 x.2)):=by
 refine⟨⟨Tryz.f130,Tryz.func130,by kernel_rfl,by kernel_rfl⟩,fun O w x vs hG hO ha _ =>?_⟩;obtain⟨s,p⟩:=x;obtain⟨v,vs',rfl,hv,u,rfl,hu⟩:=ha;obtain⟨rfl,hl⟩:=kv hv;obtain⟨rfl,_⟩:=kv hu;refine(Tryz.strings_CutPrefix ⟨s.toArray⟩ ⟨p.toArray⟩ w).mono ?_;rintro e w' ⟨rfl,rfl⟩;have hle:(br s p).length<=s.length:=by unfold br;split <;> simp
 exact⟨[.string ⟨(br s p).toArray⟩,.bool (b8 s p)],_,rfl,rfl,⟨_,_,rfl,CM (aw hle hl),_,rfl,VR.bQ rfl rfl⟩,Vg.Below.refl _ _⟩
def Tryz.rm:cG Tryz.prog Tryz.B.eT Tryz.X 103 [.str,.str] [.str] (fun _=>True) (fun x y=>y=ar x.1 x.2):=by
 refine⟨⟨Tryz.f103,Tryz.func103,by kernel_rfl,by kernel_rfl⟩,fun O w x vs hG hO ha _ =>?_⟩;obtain⟨s,p⟩:=x;obtain⟨v,vs',rfl,hv,u,rfl,hu⟩:=ha;obtain⟨rfl,hl⟩:=kv hv;obtain⟨rfl,_⟩:=kv hu;have hl:s.length<=aN:=hl;have hsz:(⟨s.toArray⟩:ByteArray).size=s.length:=by simp[ca]
 refine(Tryz.strings_TrimSuffix ⟨s.toArray⟩ ⟨p.toArray⟩ w (by rw[hsz];exact hl)).mono ?_;rintro e w' ⟨rfl,rfl⟩;have hle:(ar s p).length<=s.length:=by unfold ar;split <;> simp
 exact⟨[.string ⟨(ar s p).toArray⟩],_,rfl,rfl,⟨_,rfl,CM (aw hle hl)⟩,Vg.Below.refl _ _⟩
def Tryz.CO:cG Tryz.prog Tryz.B.eT Tryz.X 102 [.str,.str] [.slice .str] (fun x=>x.1.length<4294967281/\x.2.length=1) (fun x y=>y=parts (BS x.2) x.1):=by
 refine⟨⟨Tryz.f102,Tryz.func102,by kernel_rfl,by kernel_rfl⟩,fun O w x vs hG hO ha hp =>?_⟩;obtain⟨s,p⟩:=x;obtain⟨hs,hp⟩:=hp;obtain⟨c,rfl⟩:∃c,p=[c]:=cp.1 hp
 obtain⟨v,vs',rfl,hv,u,rfl,hu⟩:=ha;obtain⟨rfl,hl⟩:=kv hv;obtain⟨rfl,_⟩:=kv hu;obtain⟨m,hm⟩:=hG.max;have hsz:(⟨s.toArray⟩:ByteArray).size=s.length:=by simp[ca]
 have h1:1<=(⟨#[c]⟩:ByteArray).size:=az 1;refine(Tryz.strings_Split ⟨s.toArray⟩ ⟨#[c]⟩ m w (by rw[hsz];exact hs) hm h1).mono ?_;rintro e w' ⟨rfl,rfl⟩;have hlen:=ds ⟨#[c]⟩ h1 0 _ ⟨s.toArray⟩ rfl;have hdat:=dT ⟨#[c]⟩ 0 (ak ⟨s.toArray⟩ ⟨#[c]⟩) ⟨s.toArray⟩;have hcb:=Lib.countB_le ⟨#[c]⟩ h1 _ ⟨s.toArray⟩ (az _);have hd:(ay ⟨#[c]⟩ 0 (ak ⟨s.toArray⟩ ⟨#[c]⟩) ⟨s.toArray⟩).map (·.data.toList)=parts c s:=by rw[hdat,<-oq,<-Lib.count_one]
 have hlf:(parts c s).length=ak ⟨s.toArray⟩ ⟨#[c]⟩ +1:=by rw[<-hd,bu,hlen]
 refine⟨[_],parts c s,rfl,rfl,⟨_,rfl,VR.bQ rfl ⟨_,rfl,?_,.inr ⟨w.heap.size,0,ak ⟨s.toArray⟩ ⟨#[c]⟩ +1,by rw[hlf],by rw[hlf];exact az _,fun i y hy =>?_⟩⟩⟩,(Vg.Below.refl _ w).alloc (az _) _⟩
 ·rw[hlf];have hs:s.length<4294967281:=hs;rw[hsz]at hcb;unfold aN;omega
 ·have hyl:=om c s y (ed hy)
  refine⟨[.string ⟨y.toArray⟩],⟨rfl,aw hyl hl⟩,fun j u hj=>⟨?_,fun hh =>?_⟩⟩
  ·have hj0:j=0:=by
    rcases j with _|j
    ·rfl
    ·simp at hj
   subst hj0;simp at hj;subst hj;rw[<-hd,List.getElem?_map,b6]at hy;obtain⟨q,hq,rfl⟩:=hy;have hh:(w.alloc (.cells ((ay ⟨#[c]⟩ 0 (ak ⟨s.toArray⟩ ⟨#[c]⟩) ⟨s.toArray⟩).map bt).toArray 9)).heap[w.heap.size]?=some (.cells ((ay ⟨#[c]⟩ 0 (ak ⟨s.toArray⟩ ⟨#[c]⟩) ⟨s.toArray⟩).map bt).toArray 9 (0,0)):=heap_alloc_new w _;rw[bc hh];simp only[Ty.size,Nat.mul_one,Nat.zero_add,cq,List.getElem?_toArray,List.getElem?_map,hq,ef]
  ·have:=hO _ _ hh
   simp at this
def Tryz.spZ3:Bool×bA:=(true,dj [.int .i64] [.str] (fun _=>True) (fun n=>al n))
def Tryz.spZ4:Bool×bA:=(true,dj [aA] [.err] (fun _=>True) (fun e=>aJ (aL e)))
def Tryz.CP:List (FuncId×(Bool×bA)):=[(76,Tryz.spZ0),(99,Tryz.spZ1),(21,Tryz.spZ2),(71,Tryz.spZ3),(49,Tryz.spZ4)]
def Tryz.Gs:bU Tryz.prog Tryz.B Tryz.X Tryz.CP:=
 aU (aK Tryz.my) (aU (aK Tryz.iy) (aU (aK Tryz.lA) (aU (aK Tryz.vE) (aU (aK Tryz.zX) (cN Tryz.cL)))))
def CQ(e:D aA):eo:=[
 (0,fun st=>{X:=Nat,inv:=fun i=>i<=ae e.2.1,dx:=fun i=>ae e.2.1-i,bX:=fun i=>[(35,sI i),(6,sS (fI e i))],keep:=[1,2,3,5,33,34]}),
 (2,fun st=>{X:=Nat,inv:=fun i=>i<=ae e.2.2.1,dx:=fun i=>ae e.2.2.1-i,bX:=fun i=>[(60,sI i),(6,sS (fC e i))],keep:=[2,3,5,58,59]})]
def Ka(e:D aA)(hw:gq [aA] e):(eC (iR Tryz.B [23,30,47,53,68,74,80]) Tryz.CP Tryz.f105 (CQ e) [aA] [.str,.err] (fun x y=>y=(fun e=>cO e) x) e).holds:=by
 refine holds_of (p:=
  let za:=aJ (aL e)
  let zb:=[(32:UInt8)]
  let zc:=ae zb
  let zd:=e.2.1
  let ze:=ae zd
  let zf:=e.2.2.1
  let zg:=ae zf
  let zh:=al (↑ze:Int)
  let zi:=e.1++zb++zh
  let zj:=al (↑zg:Int)
  let zk:=fun(F:Nat)=>zb++(nth aE zd F).1
  let zl:=fun(F:Nat)=>al (nth aE zd F).2.1
  let zm:=fun(F:Nat)=>zk F++zb++zl F++zb
  let zn:=fun(F:Nat)=>al (nth aE zd F).2.2.1
  let zo:=fun(F:Nat)=>(↑F:Int)+1
  let zp:=(e.1=e.1/\zd=zd/\zf=zf/\True)/\True
  let zq:=fun(G:Nat)=>zb++al (nth aI zf G).1
  let zr:=fun(G:Nat)=>zq G++zb++al (nth aI zf G).2.1
  let zs:=fun(G:Nat)=>al (nth aI zf G).2.2.1
  True/\((!aQ.isNil za)=true->([],za)=cO e)/\((!aQ.isNil za)=false->ae e.1+zc<=aN/\(ze<=aN->zg<=aN->True/\ae (e.1++zb)+ae zh<=aN/\ae zi+zc<=aN/\True/\ae (zi++zb)+ae zj<=aN/\(ze<=aN->(∃(x:Nat),x<=ze/\(0=(↑x:Int)/\zi++zb++zj=fI e x/\True)/\True)/\∀F:Nat,F<=ze->((decide ((↑F:Int)<(↑ze:Int)))=true->(0<=(↑F:Int)/\(↑F:Int)<(↑ze:Int))/\zc+ae (nth aE zd F).1<=aN/\ae (zk F)+zc<=aN/\True/\ae (zk F++zb)+ae (zl F)<=aN/\ae (zk F++zb++zl F)+zc<=aN/\True/\ae (zm F)+ae (zn F)<=aN/\ae (fI e F)+ae (zm F++zn F)<=aN/\(aR (↑F:Int)->aR 1->aR (zo F)/\∃(x':Nat),x'<=ze/\ze-x'<ze-F/\(zo F=(↑x':Int)/\fI e F++(zm F++zn F)=fI e x'/\True)/\zp))/\((decide ((↑F:Int)<(↑ze:Int)))=false->zg<=aN->(∃(x:Nat),x<=zg/\(0=(↑x:Int)/\fI e F=fC e x/\True)/\True)/\∀G:Nat,G<=zg->((decide ((↑G:Int)<(↑zg:Int)))=true->(0<=(↑G:Int)/\(↑G:Int)<(↑zg:Int))/\True/\zc+ae (al (nth aI zf G).1)<=aN/\ae (zq G)+zc<=aN/\True/\ae (zq G++zb)+ae (al (nth aI zf G).2.1)<=aN/\ae (zr G)+zc<=aN/\True/\ae (zr G++zb)+ae (zs G)<=aN/\ae (fC e G)+ae (zr G++zb++zs G)<=aN/\(aR (↑G:Int)->aR 1->aR (zo G)/\∃(x':Nat),x'<=zg/\zg-x'<zg-G/\(zo G=(↑x':Int)/\fC e G++(zr G++zb++zs G)=fC e x'/\True)/\zp))/\((decide ((↑G:Int)<(↑zg:Int)))=false->ae (fC e G)+ae [(10:UInt8)]<=aN/\(fC e G++[(10:UInt8)],aQ.nil)=cO e)))))) (by kernel_rfl) ?_
 dsimp -iota -proj -eta only;refine⟨ad,iB (fun h0=>(F4 (fun e=>by rw[bK.2 e]at h0;cases h0))) (fun h0=>⟨?a,fun h1 h2=>⟨ad,?b,?c,ad,?d,fun h3=>⟨(⟨0,by omega,⟨rfl,(FV e).symm,ad⟩,ad⟩),fun F q_0=>iL (fun h4=>⟨?e,?f,?g,ad,?h,?i,ad,?j,?k,fun h5 h6=>⟨?l,(⟨F+1,by omega,by omega,⟨by omega,F2 (by omega),ad⟩,(by trivial)⟩)⟩⟩) (fun h4 h5=>⟨(⟨0,by omega,⟨rfl,by rw[FW,show F=e.2.1.length by omega],ad⟩,ad⟩),fun G q_1=>iL (fun h6=>⟨?m,ad,?n,?o,ad,?p,?q,ad,?r,?s,fun h7 h8=>⟨?t,(⟨G+1,by omega,by omega,⟨by omega,F3 (by omega),ad⟩,(by trivial)⟩)⟩⟩) (fun h6=>⟨(by have a:=(jg (bK.1 h0)).F1 G;simp only[bo,bh,bp,aN];omega),(HD (bK.1 h0) (by omega))⟩)⟩)⟩⟩⟩)⟩
 case a|b|c|d=>have a:=(jg (bK.1 h0)).lens;simp only[bo,bh,bp,aN];omega
 case e|m=>omega
 case f|g|h|i|j|k=>have a:=(jg (bK.1 h0)).ML (i:=F) (by omega);simp only[bo,bh,bp,aN];omega
 case l|t=>simp only[aR,aN]at*;omega
 case n|o|p|q|r|s=>have a:=(jg (bK.1 h0)).MM (i:=G) (by omega);simp only[bo,bh,bp,aN];omega
def Tryz.CS:cG Tryz.prog Tryz.B.eT Tryz.X 105 [aA] [.str,.err] (fun _=>True) (fun x y=>y=(fun e=>cO e) x):=
 dk (B:=(iR Tryz.B [23,30,47,53,68,74,80])) (X:=Tryz.X) (bU.hint (l:=[23,30,47,53,68,74,80]) Tryz.Gs) Tryz.func105 (by kernel_rfl) (fun x=>CQ x) (fun x hw hp=>Ka x hw)
end Go.Proofs.YtgokjhhcfemnhacGreatDoor

namespace Go.Proofs.YtgokjhhcfemnhacGreatDoor
open Go.RowKit Go.Vg
def Tryz.MY:(Tryz.prog.info? 144).map (·.size)=some 2:=by kernel_rfl
def Tryz.Nd:liesAt Tryz.prog Tryz.prog.depth 144 (2 / Tryz.prog.cellsOf 144) 0 144 1=true:=by kernel_rfl
set_option maxHeartbeats 1000000 in
set_option maxRecDepth 100000 in
def Tryz.Gt(b:Nat)(v:Value)(w:World)(hb:w.heap[b]?=some (.cells #[.pointer (some ⟨b,0,none⟩),v] 144 (0,0))) :
  Calls Tryz.prog 110 #[.pointer (some ⟨b,0,none⟩)] w fun e w'=>e=.returned (.tuple #[])/\w'=w:=by
 obtain⟨j,hj,_⟩:=b6.1 Tryz.MY;have h0:w.cell? ⟨b,0,none⟩=some (.pointer (some ⟨b,0,none⟩)):=by rw[bc hb];rfl
 go_enter Tryz.func110,Tryz.ntmps110
 go_wp2
 rw[Lib.run_neq_ptr_same w _ Tryz.underlying141 hj]
 go_wp2
 go_end0
 exact⟨rfl,rfl⟩
set_option maxHeartbeats 1000000 in
set_option maxRecDepth 100000 in
def Tryz.DT(b:Nat)(v:Value)(w:World)(hb:w.heap[b]?=some (.cells #[.pointer none,v] 144 (0,0))) :
  Calls Tryz.prog 110 #[.pointer (some ⟨b,0,none⟩)] w fun e w'=>e=.returned (.tuple #[])/\w'=w.setCell ⟨b,0,none⟩ (.pointer (some ⟨b,0,none⟩)):=by
 obtain⟨j,hj,hjs⟩:=b6.1 Tryz.MY;have h0:w.cell? ⟨b,0,none⟩=some (.pointer none):=by rw[bc hb];rfl
 have hsh:w.shape? b=some (144,2):=by simp[eh,hb]
 have hfz:w.frozen? ⟨b,0,none⟩=false:=cb hb 0
 go_enter Tryz.func110,Tryz.ntmps110
 go_wp2
 rw[Lib.run_to_unsafe w ⟨b,0,none⟩ Tryz.underlying141 Tryz.underlying206 hj (by rw[hjs];decide) hsh (Nat.zero_lt_succ 1)];simp only[cr];rw[ct]
 go_wp2
 rw[run_callFunc_extern Tryz.func129 (by kernel_rfl) (by kernel_rfl) (by kernel_rfl) (e:=hE) (by kernel_rfl)];rw[Lib.run_noEscape];simp only[cr];rw[ct]
 go_wp2
 rw[Lib.run_from_unsafe w ⟨b,0,none⟩ Tryz.underlying206 Tryz.underlying141 hj hsh Tryz.Nd];simp only[cr];rw[ct]
 go_wp2
 go_end0
 exact⟨rfl,rfl⟩
def Tryz.Nf:(Tryz.prog.info? 5).map (fun i=>(i.zero,i.size,i.bytes))=some (some (.int .u8 0),1,1):=by kernel_rfl
def Tryz.M8:Tryz.prog.cellsOf 5=1:=by kernel_rfl
set_option maxHeartbeats 2000000 in
set_option maxRecDepth 100000 in
def Tryz.Ix(b:Nat)(p v:Value)(xs:List Value)(s:ByteArray)(w:World)(hb:w.heap[b]?=some (.cells #[p,v] 144 (0,0)))(hp:p=.pointer none\/p=.pointer (some ⟨b,0,none⟩))
  (hown:w.ownsRow 0 5 1 v xs.length xs)(hne:v.ownBlock≠some b)(hcap:∀a n c,v=.slice (some a) n c->0<c)(hlen:xs.length+s.size<=140737488355328) :
  Calls Tryz.prog 72 #[.pointer (some ⟨b,0,none⟩),.string s] w fun e w'=>e=.returned (.tuple #[.int .i64 s.size,.nilIface])/\
   ∃v',w'.heap[b]?=some (.cells #[.pointer (some ⟨b,0,none⟩),v'] 144 (0,0))/\w'.ownsRow 0 5 1 v' (xs.length+s.size) (xs++Lib.strCells s)/\v'.ownBlock≠some b/\Kept b v w w'/\
    (∀a n c,v'=.slice (some a) n c->0<c)/\(∀g,v'.ownBlock=some g->v.ownBlock=some g\/w.heap.size<=g):=by
 obtain⟨i0,hi,hz0⟩:=b6.1 Tryz.Nf;simp only[Prod.mk.injEq]at hz0;obtain⟨hz0,hz1,hz2⟩:=hz0;have hchk:Calls Tryz.prog 110 #[.pointer (some ⟨b,0,none⟩)] w fun e w1=>e=.returned (.tuple #[])/\w1.heap[b]?=some (.cells #[.pointer (some ⟨b,0,none⟩),v] 144 (0,0))/\
   w1.os=w.os/\w1.output=w.output/\w1.heap.size=w.heap.size/\∀k,k≠b->w1.heap[k]?=w.heap[k]?:=by
  rcases hp with rfl|rfl
  ·refine(Tryz.DT b v w hb).mono ?_
   rintro e w1 ⟨rfl,rfl⟩;exact⟨rfl,(Jw hb).trans (by simp),rfl,rfl,cu _ _ _,fun k hk=>cw _ _ _ _ hk⟩
  ·refine(Tryz.Gt b v w hb).mono ?_
   rintro e w1 ⟨rfl,rfl⟩;exact⟨rfl,hb,rfl,rfl,rfl,fun _ _=>rfl⟩
 go_enter Tryz.func72,Tryz.ntmps72
 go_wp2_with (go_at_call 110;refine hchk.mono ?_)
 rintro e w1 ⟨rfl,hb1,ho1,hu1,hs1,hk1⟩;have hown1:w1.ownsRow 0 5 1 v xs.length xs:=by
  refine⟨hown.1,?_⟩;rcases hown.2 with h|⟨g,cap,cur,h1,h2,h3,h4⟩
  ·exact .inl h
  ·refine .inr ⟨g,cap,cur,h1,h2,?_,h4⟩
   rw[hk1 g (fun e=>hne (by rw[h1,e];rfl))];exact h3
 have c0:w1.cell? ⟨b,0,none⟩=some (.pointer (some ⟨b,0,none⟩)):=by rw[bc hb1];rfl
 have c1:w1.cell? ⟨b,1,none⟩=some v:=by rw[bc hb1];rfl
 obtain⟨v',w2,hrun,hown',hgrow,hcap',hnew⟩:=Lc (t:=142) (u:=9) (ty:=142) Tryz.underlying142 Tryz.underlying9 hi hz0 hz1 hz2 hown1 hcap s hlen;have hlt:b<w1.heap.size:=(Array.getElem?_eq_some_iff.1 hb1).1;have hb2:w2.heap[b]?=some (.cells #[.pointer (some ⟨b,0,none⟩),v] 144 (0,0)):=by rw[hgrow.block b hlt (fun e=>hne e.symm)];exact hb1
 have d1:w2.cell? ⟨b,1,none⟩=some v:=by rw[bc hb2];rfl
 have f1:w2.frozen? ⟨b,1,none⟩=false:=cb hb2 1;have hne':v'.ownBlock≠some b:=by
  intro e;rcases hown'.2 with⟨h,_⟩|⟨g',cap,cur,h,_,h3,_⟩
  ·rw[h]at e;cases e
  ·rw[h]at e
   cases e;rw[hb2]at h3;cases h3
 have hv1:∃a n c,v'=.slice a n c:=by
  rcases hown'.2 with⟨h,_⟩|⟨g',cap,cur,h,_⟩ <;> exact⟨_,_,_,h⟩
 obtain⟨va,vn,vc,rfl⟩:=hv1;rw[hs1]at hnew
 go_wp2_with (at_builtin;refine tM rfl _ _ 142 9 rfl rfl rfl hrun ?_)
 go_ret2
 refine⟨rfl,.slice va vn vc,(Jw hb2).trans (by simp),⟨hown'.1,?_⟩,hne',⟨hgrow.os.trans ho1,hgrow.output.trans hu1,?_,fun k h1 h2 h3 =>?_⟩,hcap',hnew⟩
 ·rcases hown'.2 with h|⟨g,cap,cur,h1,h2,h3,h4⟩
  ·exact .inl h
  ·refine .inr ⟨g,cap,cur,h1,h2,?_,h4⟩
   rw[cw _ _ _ _ (fun e=>hne' (by rw[h1,show g=b from e];rfl))];exact h3
 ·rw[cu];have:=hgrow.size;omega
 ·rw[cw _ _ _ _ (show k≠b from h2),hgrow.block k (by omega) (fun e=>h3 e.symm),hk1 k h2]
set_option maxHeartbeats 2000000 in
set_option maxRecDepth 100000 in
def Tryz.Gu(b:Nat)(p v:Value)(l:List UInt8)(w:World)(hb:w.heap[b]?=some (.cells #[p,v] 144 (0,0)))(hown:w.ownsRow 0 5 1 v l.length (l.map fun c=>Value.int .u8 c.toNat))(hcap:∀a n c,v=.slice (some a) n c->0<c) :
  Calls Tryz.prog 75 #[.pointer (some ⟨b,0,none⟩)] w fun e w'=>e=.returned (.string ⟨l.toArray⟩)/\FA v w w':=by
 have c1:w.drew.cell? ⟨b,1,none⟩=some v:=by
  have:w.drew.heap[b]?=some (.cells #[p,v] 144 (0,0)):=hb;rw[bc this];rfl
 have mixed:Tryz.prog.follows .mixedOrders=true:=by kernel_rfl
 by_cases h0:l=[]
 ·subst h0
  obtain⟨q,n,c,rfl,hn,hSD⟩:∃q n c,v=.slice q n c/\n=0/\(ek #[142] 188 #[v]).run Tryz.prog w.drew=.ok (.pointer q) w.drew:=by
   rcases hown.2 with⟨rfl,_⟩|⟨g,cap,cur,rfl,_⟩
   ·exact⟨none,0,0,rfl,rfl,Lib.run_unsafeSliceData_nil _ _ _ _ _⟩
   ·exact⟨_,_,_,rfl,rfl,ew _ _ _ _ _ _ (by have:=hcap _ _ _ rfl;omega)⟩
  subst hn;have hUS:(e0 #[188,3] 9 #[.pointer q,.int .i64 0]).run Tryz.prog w.drew=.ok (.string .empty) w.drew:=Lib.run_unsafeString_none _ _ _ _ q
  go_enter Tryz.func75,Tryz.ntmps75
  go_wp2
  go_region_o
  all_goals (go_wp2;go_ret;exact⟨rfl,rfl,rfl,rfl,fun _ _=>rfl⟩)
 ·have hl0:l.length≠0:=by simpa using h0
  rcases hown.2 with⟨_,hz⟩|⟨g,cap,cur,rfl,hbg,hg,hnc,hcm,hcs,htake⟩
  ·exact absurd hz hl0
  have hSD:(ek #[142] 188 #[.slice (some ⟨g,0,none⟩) l.length cap]).run Tryz.prog w.drew=.ok (.pointer (some ⟨g,0,none⟩)) w.drew:=ew _ _ _ _ _ _ (by omega);have hUS:(e0 #[188,3] 9 #[.pointer (some ⟨g,0,none⟩),.int .i64 l.length]).run Tryz.prog w.drew=.ok (.string ⟨l.toArray⟩) (w.drew.freeze ⟨g,0,none⟩ l.length):=by
   refine Lib.run_unsafeString_row w.drew 188 3 9 5 Tryz.underlying188 Tryz.M8 g cur.size (by have hg':w.drew.heap[g]?=some (.cells cur 5 (0,0)):=hg;simp[eh,hg']) l h0 (by omega) (by unfold maxLen at hcm;omega) ?_;intro j x hx;exact hown.cells (g:=g) rfl j (.int .u8 x.toNat) (by simp[hx])
  go_enter Tryz.func75,Tryz.ntmps75
  go_wp2
  go_region_o
  all_goals (go_wp2;go_ret;exact⟨rfl,Dw⟩)
def Tryz.Ls(b:Nat)(p _q:Value)(a:Option Addr)(n c:Nat)(w:World)(hb:w.heap[b]?=some (.cells #[p,.slice a n c] 144 (0,0))) :
  Calls Tryz.prog 74 #[.pointer (some ⟨b,0,none⟩)] w fun r w'=>r=.returned (.int .i64 n)/\w'=w:=by
 have c1:w.cell? ⟨b,1,none⟩=some (.slice a n c):=by rw[bc hb];rfl
 go_enter Tryz.func74,Tryz.ntmps74
 go_wp2
 go_ret
 exact⟨rfl,rfl⟩
def Tryz.DU:cF Tryz.prog Tryz.B.eT Tryz.X 72 false (qI 144 5):=
 wL ⟨Tryz.f72,Tryz.func72,by kernel_rfl,by kernel_rfl⟩ Tryz.Ix
def Tryz.CT:cF Tryz.prog Tryz.B.eT Tryz.X 75 false (oQ 144 5):=
 vg ⟨Tryz.f75,Tryz.func75,by kernel_rfl,by kernel_rfl⟩ Tryz.Gu
def Tryz.Iy:cF Tryz.prog Tryz.B.eT Tryz.X 74 true (wJ 144 5):=
 Aq ⟨Tryz.f74,Tryz.func74,by kernel_rfl,by kernel_rfl⟩ Tryz.Ls
end Go.Proofs.YtgokjhhcfemnhacGreatDoor

namespace Go.Proofs.YtgokjhhcfemnhacGreatDoor
open Go.Vg Go.Mrl
@[reducible] def Tryz.aT:List Ob:=[.box 123 [.obj 1,.obj 2,.obj 3,.d (.int .i64),.d .bool],.row true .str,.row true .str,.tok du]
def Lt(s:List UInt8)(hw:gq [.str] s)(hp:(fun s=>s.length<=64) s):(eC Tryz.B [] Tryz.f88 [] [.str] [.str] (fun x y=>y=(fun s=>cB s) x) s).holds:=by
 refine holds_of (p:=
  let za:=ae s
  let zb:=64-(↑za:Int)
  let zc:=bj (ah zb) (cE (Ty.int bd))
  za<=aN->aR 64->aR (↑za:Int)->aR zb/\(0<=zb/\zb=zb/\zb<=1000000000)/\ae zc<=aN/\za+ae (bytesOf zc)<=aN/\s++bytesOf zc=cB s) (by kernel_rfl) ?_
 dsimp -iota -proj -eta only;exact fun h0 h1 h2=>⟨(by simp only[aR,aN]at*;omega),(by omega),(by simp only[bw,AT];omega),(by simp only[bytesOf,bu,bw,AT];omega),(by show s++bytesOf (bj _ 0)=_;rw[FG,cB,show ah (64-(s.length:Int))=64-s.length by omega])⟩
def Tryz.EN:cG Tryz.prog Tryz.B.eT Tryz.X 88 [.str] [.str] (fun s=>s.length<=64) (fun x y=>y=(fun s=>cB s) x):=
 dk (X:=Tryz.X) (cN Tryz.cL) Tryz.func88 (by kernel_rfl) (fun _=>[]) (fun x hw hp=>Lt x hw hp)
def Kb(x:Int)(y:Int)(hw:gq [.int .u64,.int .u64] (x,y))(hp:(fun z=>z.1=1/\0<=z.2/\z.2<=1000000) (x,y)):(eC Tryz.B [] Tryz.f135 [] [.int .u64,.int .u64] [.int .u64,.int .u64] (fun x y=>y=(fun z=>sg z) x) (x,y)).holds:=by
 refine holds_of (p:=
  let za:=bk ao
  let zb:=ba za (4294967295:Int)
  let zc:=(0:Int)<=(32:Int)
  let zd:=(2:Int)^min 32 za
  let ze:=fun(Q M:Int)=>Q=ai ao M
  ∀F:Int,F=ai ao (↑(bx (ba za x&&&zb)):Int)->zc/\∀G:Int,G=bf x zd->∀I:Int,I=ai ao (↑(bx (ba za y&&&zb)):Int)->zc/\∀K:Int,K=bf y zd->∀M:Int,M=F*I->∀Q:Int,ze Q M->∀U:Int,U=G*I->∀V:Int,ze V U->zc/\∀x_8:Int,x_8=bf Q zd->∀R:Int,R=ai ao (V+x_8)->∀Y:Int,Y=ai ao (↑(bx (ba za R&&&zb)):Int)->zc/\∀x_11:Int,x_11=bf R zd->∀x_12:Int,x_12=F*K->∀x_13:Int,ze x_13 x_12->∀x_14:Int,x_14=ai ao (Y+x_13)->∀x_15:Int,x_15=G*K->∀x_16:Int,ze x_16 x_15->∀x_17:Int,x_17=ai ao (x_16+x_11)->zc/\∀x_18:Int,x_18=bf x_14 zd->∀x_19:Int,x_19=ai ao (x_17+x_18)->∀x_20:Int,x_20=x*y->∀x_21:Int,ze x_21 x_20->(x_19,x_21)=sg (x,y)) (by kernel_rfl) ?_
 dsimp -iota -proj -eta only;dsimp only at hp;refine fun F q_0=>⟨?a,fun G q_1 I q_2=>⟨?b,fun K q_3 M q_4 Q q_5 U q_6 V q_7=>⟨?c,fun x_8 q_8 R q_9 Y q_10=>⟨?d,fun x_11 q_11 x_12 q_12 x_13 q_13 x_14 q_14 x_15 q_15 x_16 q_16 x_17 q_17=>⟨?e,fun x_18 q_18 x_19 q_19 x_20 q_20 x_21 q_21 =>?f⟩⟩⟩⟩⟩
 case a|b|c|d|e=>trivial
 case f=>
  have a0:=JB q_0 (by omega) (by omega);have a1:=BP q_1 rfl (by omega) (by omega);have a2:=JB q_2 (by omega) (by omega);have a3:=BP q_3 rfl (by omega) (by omega);have a4:M=y:=by rw[q_4,a0,a2,hp.1,cy]
  have a5:Q=y:=by rw[q_5,a4];exact ir (by omega) (by omega)
  have a6:U=0:=by rw[q_6,a1,Int.zero_mul]
  have a7:V=0:=by rw[q_7,a6];rfl
  have a8:=BP q_8 rfl (by omega) (by omega);have a9:R=0:=by rw[q_9,a7,a8];rfl
  have a10:Y=0:=by rw[JB q_10 (by omega) (by omega)];exact a9
  have a11:=BP q_11 rfl (by omega) (by omega);have a12:x_12=0:=by rw[q_12,a3,Int.mul_zero]
  have a13:x_13=0:=by rw[q_13,a12];rfl
  have a14:x_14=0:=by rw[q_14,a10,a13];rfl
  have a15:x_15=0:=by rw[q_15,a1,Int.zero_mul]
  have a16:x_16=0:=by rw[q_16,a15];rfl
  have a17:x_17=0:=by rw[q_17,a16,a11];rfl
  have a18:=BP q_18 rfl (by omega) (by omega);have a19:x_19=0:=by rw[q_19,a17,a18];rfl
  have a21:x_21=y:=by rw[q_21,q_20,hp.1,cy];exact ir (by omega) (by omega)
  rw[a19,a21];simp[sg,hp.1]
def Tryz.Kc:cG Tryz.prog Tryz.B.eT Tryz.X 135 [.int .u64,.int .u64] [.int .u64,.int .u64] (fun z=>z.1=1/\0<=z.2/\z.2<=1000000) (fun x y=>y=(fun z=>sg z) x):=
 dk (X:=Tryz.X) (cN Tryz.cL) Tryz.func135 (by kernel_rfl) (fun _=>[]) (fun x hw hp=>Kb x.1 x.2 hw hp)
def Tryz.spZ5:Bool×bA:=(true,dj [.int .u64,.int .u64] [.int .u64,.int .u64] (fun z=>z.1=1/\0<=z.2/\z.2<=1000000) (fun z=>sg z))
def Tryz.CU:List (FuncId×(Bool×bA)):=[(135,Tryz.spZ5)]
def Tryz.Gv:bU Tryz.prog Tryz.B Tryz.X Tryz.CU:=
 aU (aK Tryz.Kc) (cN Tryz.cL)
def My(x:Int)(y:Int)(hw:gq [.int .u64,.int .u64] (x,y))(hp:(fun z=>z.1=1/\0<=z.2/\z.2<=1000000) (x,y)):(eC Tryz.B Tryz.CU Tryz.f117 [] [.int .u64,.int .u64] [.int .u64,.int .u64] (fun x y=>y=(fun z=>sg z) x) (x,y)).holds:=by
 refine holds_of (p:=
  (x=1/\0<=y/\y<=1000000)/\(0,x*y)=sg (x,y)) (by kernel_rfl) ?_
 dsimp only at hp;refine⟨?a,?b⟩
 case a|b=>trivial
def Tryz.Mz:cG Tryz.prog Tryz.B.eT Tryz.X 117 [.int .u64,.int .u64] [.int .u64,.int .u64] (fun z=>z.1=1/\0<=z.2/\z.2<=1000000) (fun x y=>y=(fun z=>sg z) x):=
 dk (X:=Tryz.X) Tryz.Gv Tryz.func117 (by kernel_rfl) (fun _=>[]) (fun x hw hp=>My x.1 x.2 hw hp)
def Tryz.Iz:List (FuncId×(Bool×bA)):=[(117,Tryz.spZ5)]
def Tryz.Kd:bU Tryz.prog Tryz.B Tryz.X Tryz.Iz:=
 aU (aK Tryz.Mz) (cN Tryz.cL)
def zY(x:List (List UInt8))(n:Int):eo:=[(0,fun st=>{X:=Nat,inv:=fun k=>1<=k/\k<=n.toNat,dx:=fun k=>n.toNat-k,bX:=fun k=>[(8,sI k)],aC:=fun k=>[(dO st 7,.aM .str (iT (nth .str x 0) n.toNat k))],keep:=[4,7],jq:=[dO st 7]})]
def q7:List (Alt [] [.d (.slice .str),.d (.int .i64)]):=[{bH:=[.row false .str],res:=[.obj 0],out:=fun a _=>(bj a.2.1.toNat (nth .str a.1 0),()),ret:=fun _ _=>()}]
def IA(x:List (List UInt8))(n:Int)(hw:gr [.d (.slice .str),.d (.int .i64)] (x,n,()))(hp:(fun a _=>a.1.length=1/\1<=a.2.1/\a.2.1<=1000000) (x,n,()) ()):(dW Tryz.B Tryz.Iz Tryz.f87 (zY x n) [] [.d (.slice .str),.d (.int .i64)] q7 (x,n,()) ()).holds:=by
 refine holds_of (p:=
  let za:=ae x
  let zb:=ai ao (↑za:Int)
  let zc:=ai ao n
  let zd:=ai aq (zb*zc)
  let ze:=bj (ah zd) (cE Ty.str)
  let zf:=ae ze
  let zg:=ah n
  let zh:=min za zf
  let zi:=nth Ty.str x 0
  let zj:=fun(F:Nat)=>iT zi zg F
  let zk:=fun(F:Nat)=>ae (zj F)
  let zl:=fun(F:Nat)=>(↑(zk F):Int)
  let zm:=fun(F:Nat)=>ag (F-0) (aj 0 (zj F))
  let zn:=fun(F:Nat)=>min (ae (zm F)) (zk F-F)
  let zo:=fun(F:Nat)=>(↑F:Int)+(↑(zn F):Int)
  ((decide (n<(0:Int)))=true->False)/\((decide (n<(0:Int)))=false->za<=aN->(zb=(1:Int)/\(0:Int)<=zc/\zc<=(1000000:Int))/\((decide ((0:Int) > (0:Int)))=true->False)/\((decide ((0:Int) > (0:Int)))=false->((decide (zb*zc > (9223372036854775807:Int)))=true->False)/\((decide (zb*zc > (9223372036854775807:Int)))=false->((0:Int)<=zd/\zd=zd/\zd<=(1000000000:Int))/\(True/\0+zf<=zf)/\(∃(G:Nat),(1<=G/\G<=zg)/\((↑zh:Int)=(↑G:Int)/\True)/\ag 0 ze++ag zh x++aj (0+zh) ze=iT zi zg G/\True)/\∀F:Nat,1<=F/\F<=zg->zk F<=aN->((decide ((↑F:Int)<zl F))=true->((0:Int)<=(↑F:Int)/\(↑F:Int)<=zl F/\zl F<=zl F)/\((0:Int)<=(0:Int)/\(0:Int)<=(↑F:Int)/\(↑F:Int)<=zl F)/\(0+(F-0)<=zk F/\F+(zk F-F)<=zk F)/\(aR (↑F:Int)->aR (↑(zn F):Int)->aR (zo F)/\∃(x':Nat),(1<=x'/\x'<=zg)/\zg-x'<zg-F/\(zo F=(↑x':Int)/\True)/\ag F (zj F)++ag (zn F) (zm F)++aj (F+zn F) (zj F)=iT zi zg x'/\@af (List UInt8)=@af (List UInt8)/\True))/\((decide ((↑F:Int)<zl F))=false->True/\(zj F,())=(bj zg zi,())/\()=()))))) (by kernel_rfl) ?_
 dsimp -iota -proj -eta only;dsimp only at hp;have e1:ai ao n=n:=ir (by omega) (by omega);have e2:ai ao (x.length:Int)=1:=by rw[hp.1];exact ir (by decide) (by decide)
 have e3:ai aq (1*n)=n:=by rw[cy];exact iu (by omega) (by omega)
 refine iL (fun h0 =>?a) (fun h0 h1=>⟨(by rw[e1,e2];omega),⟨fun h2=>absurd (show false=true from h2) (by decide),fun h2=>iL (fun h3=>(by rw[e1,e2]at*;omega)) (fun h3=>⟨(by rw[e1,e2,e3];omega),(by simp_all),?b,fun F q_0 h4=>iL (fun h5=>⟨?c,?d,?e,fun h6 h7=>⟨(by simp only[aR,aN]at*;omega),?f⟩⟩) (fun h5=>(by rw[show F=ah n by have hl:=BQ (s:=nth .str x 0) (n:=ah n) (k:=F) (by omega);omega,Hq];exact⟨ad,rfl,rfl⟩))⟩)⟩⟩)
 case a|c|d|e=>omega
 case b=>
  rw[e1,e2,e3];obtain⟨s,rfl⟩:=cp.1 hp.1;refine⟨1,by omega,⟨?_,ad⟩,?_,(by trivial)⟩
  ·simp only[bb,bw];omega
  ·have hm:min (ae [s]) (ae (bj (ah n) (cE Ty.str)))=1:=by simp only[bb,bw];omega
   rw[hm];exact FH (n:=ah n) (by omega) rfl [s] rfl
 case f=>
  have hl:=BQ (s:=nth .str x 0) (n:=ah n) (k:=F) (by omega);have e6:min (ae (ag (F-0) (aj 0 (iT (nth .str x 0) (ah n) F)))) (ae (iT (nth .str x 0) (ah n) F)-F)=min F (ah n-F):=by
   simp only[ax,cz];omega
  rw[e6];refine⟨F+min F (ah n-F),by omega,by omega,⟨by omega,ad⟩,?_,(by trivial)⟩;rw[Nat.sub_zero,cz];exact Hp (by omega) (by omega)
def Tryz.IB:cF Tryz.prog Tryz.B.eT Tryz.X 87 false (bF [] [.d (.slice .str),.d (.int .i64)] (fun a _=>a.1.length=1/\1<=a.2.1/\a.2.1<=1000000) q7):=
 bN (X:=Tryz.X) Tryz.Kd Tryz.func87 (by kernel_rfl) (fun(a:CD [.d (.slice .str),.d (.int .i64)]) (x:PD [])=>zY a.1 a.2.1) (fun(a:CD [.d (.slice .str),.d (.int .i64)]) (x:PD []) hw hp=>IA a.1 a.2.1 hw hp)
def sQ:List (Alt [.row true .str] [.obj 0]):=[{bH:=[.row true .str,.row false .str],res:=[.obj 1],ok:=fun _ x=>x.1≠[],out:=fun _ x=>(x.1,x.1,()),ret:=fun _ _=>()}]
def IC(l:List (List UInt8))(hw:gr [.obj 0] ())(hp:(fun _ x=>x.1≠[]/\x.1.length<=1000000) () (l,())):(dW Tryz.B [] Tryz.f89 [] [.row true .str] [.obj 0] sQ () (l,())).holds:=by
 refine holds_of (p:=
  ∀F:Bool,(0<ae l->F=false)->(F=true->False)/\(F=false->ae l<=1000000000/\l≠@af (List UInt8)/\(l,l,())=(l,l,())/\()=())) (by kernel_rfl) ?_
 dsimp only at hp;refine fun F q_0=>⟨fun h0 =>?a,fun h0=>⟨(by omega),?b⟩⟩
 case a|b=>simp_all
def Tryz.ID:cF Tryz.prog Tryz.B.eT Tryz.X 89 false (bF [.row true .str] [.obj 0] (fun _ x=>x.1≠[]/\x.1.length<=1000000) sQ):=
 bN (X:=Tryz.X) (cN Tryz.cL) Tryz.func89 (by kernel_rfl) (fun(a:CD [.obj 0]) (x:PD [.row true .str])=>[]) (fun(a:CD [.obj 0]) (x:PD [.row true .str]) hw hp=>IC x.1 hw hp)
def Tryz.spZ6:Bool×bA:=(true,dj [.str] [.str] (fun s=>s.length<=64) (fun s=>cB s))
def Tryz.CV:List (FuncId×(Bool×bA)):=[(88,Tryz.spZ6),(87,(false,bF [] [.d (.slice .str),.d (.int .i64)] (fun a _=>a.1.length=1/\1<=a.2.1/\a.2.1<=1000000) q7)),(89,(false,bF [.row true .str] [.obj 0] (fun _ x=>x.1≠[]/\x.1.length<=1000000) sQ))]
def Tryz.Gw:bU Tryz.prog Tryz.B Tryz.X Tryz.CV:=
 aU (aK Tryz.EN) (aU (Tryz.IB) (aU (Tryz.ID) (cN Tryz.cL)))
def Tryz.vF:List (Alt Tryz.aT [.obj 0]):=[{bH:=Tryz.aT,res:=[.d .err],out:=fun _ x=>(stepOf x).1,ret:=fun _ x=>(aJ (stepOf x).2,())}]
def Lu(d:Dk)(hw:gr [.obj 0] ())(hp:(fun _ x =>-1<=x.1.1) () d):(dW Tryz.B [] Tryz.f118 [] Tryz.aT [.obj 0] Tryz.vF () d).holds:=by
 refine holds_of (p:=
  let za:=d.2.2.2.1=d.2.2.2.1
  let zb:=(-1:Int)
  let zc:=(stepOf d).1
  let zd:=(aJ (stepOf d).2,())
  let ze:=(aQ.no 9,())=zd
  let zf:=zb-1
  let zg:=(aQ.nil,())=zd
  let zh:=d.1.1-1
  let zi:=((d.1.2.1)=true->za/\True/\d=zc/\ze)/\((d.1.2.1)=false->aR d.1.1->aR 1->aR zh/\za/\True/\((if zb > zh then zb else zh,d.1.2),d.2)=zc/\zg)
  ((!d.1.2.1)=true->((d.1.1 == 0)=true->(true=true->za/\True/\((zb,true,()),d.2)=zc/\ze)/\(true=false->aR zb->aR 1->aR zf/\za/\True/\((if zb > zf then zb else zf,true,()),d.2)=zc/\zg))/\((d.1.1 == 0)=false->zi))/\((!d.1.2.1)=false->zi)) (by kernel_rfl) ?_
 dsimp -iota -proj -eta only;refine iB (fun h0=>iQ (fun h1=>⟨fun h2=>(by rw[uh (by simp_all) ‹_›];exact⟨rfl,ad,rfl,rfl⟩),fun h2=>absurd (show true=false from h2) (by decide)⟩) (fun h1=>⟨fun h2 =>?a,fun h2 h3 h4=>⟨?b,(by rw[yW (by simp_all) ‹_› hp];exact⟨rfl,ad,rfl,rfl⟩)⟩⟩)) (fun h0=>⟨fun h1 =>?c,fun h1 h2 h3=>⟨?d,(by simp_all)⟩⟩)
 case a|c=>rw[Dz (by simp_all)];exact⟨rfl,ad,rfl,rfl⟩
 case b|d=>simp only[aR]at*;omega
def Tryz.Lv:cF Tryz.prog Tryz.B.eT Tryz.X 118 false (bF Tryz.aT [.obj 0] (fun _ x =>-1<=x.1.1) Tryz.vF):=
 bN (X:=Tryz.X) (cN Tryz.cL) Tryz.func118 (by kernel_rfl) (fun(a:CD [.obj 0]) (x:PD Tryz.aT)=>[]) (fun(a:CD [.obj 0]) (x:PD Tryz.aT) hw hp=>Lu x hw hp)
def Tryz.vG:List (FuncId×(Bool×bA)):=[(88,Tryz.spZ6),(118,(false,bF Tryz.aT [.obj 0] (fun _ x =>-1<=x.1.1) Tryz.vF))]
def Tryz.xl:bU Tryz.prog Tryz.B Tryz.X Tryz.vG:=
 aU (aK Tryz.EN) (aU (Tryz.Lv) (cN Tryz.cL))
def Tryz.sR:List (Alt Tryz.aT [.obj 0,.d (.int .i64),.d .str]):=[{bH:=Tryz.aT,res:=[.d .err],out:=fun a x=>(bB x a.1 a.2.1).1,ret:=fun a x=>(aJ (bB x a.1 a.2.1).2,())}]
def IE(at_:Int)(s:List UInt8)(d:Dk)(hw:gr [.obj 0,.d (.int .i64),.d .str] (at_,s,()))(hp:(fun _ x =>-1<=x.1.1/\x.2.2.2.1.length<=900000000) (at_,s,()) d):(dW Tryz.B Tryz.vG Tryz.f90 [] Tryz.aT [.obj 0,.d (.int .i64),.d .str] Tryz.sR (at_,s,()) d).holds:=by
 refine holds_of (p:=
  let za:=d.2.2.2.1=d.2.2.2.1
  let zb:=bB d at_ s
  let zc:=(aJ zb.2,())
  let zd:=za/\True/\d=zb.1/\(aQ.no 1,())=zc
  let ze:=ae d.2.2.1
  let zf:=ae s
  let zg:=aJ (stepOf d).2
  let zh:=(stepOf d).1
  let zi:=ae zh.2.2.1
  let zj:=ah at_
  let zk:=cc zh.2.2.1 zj (cB s)
  let zl:=zh.2.2.2.1
  let zm:=[(at_,nth Ty.str zk zj,())]
  let zn:=zl++zm
  let zo:=(zg,())=zc
  ((decide (at_<0))=true->zd)/\((decide (at_<0))=false->ze<=aN->((decide (at_>=(↑ze:Int)))=true->zd)/\((decide (at_>=(↑ze:Int)))=false->zf<=aN->((decide ((↑zf:Int) > 64))=true->zd)/\((decide ((↑zf:Int) > 64))=false->za/\(-1:Int)<=d.1.1/\(True->((aQ.isNil zg)=true->zf<=64/\(0<=at_/\at_<(↑zi:Int))/\zj<zi/\(0<=at_/\at_<(↑(ae zk):Int))/\zj<ae zk/\(zl=zl/\ae zl+ae zm<=1000000000)/\zn=zn/\True/\(zh.1,zh.2.1,zk,zn,())=zb.1/\zo)/\((aQ.isNil zg)=false->zl=zl/\True/\zh=zb.1/\zo)))))) (by kernel_rfl) ?_
 dsimp -iota -proj -eta only;refine iL (fun h0 =>?a) (fun h0 h1=>iE (fun h2 =>?b) (fun h2 h3=>iL (fun h4 =>?c) (fun h4=>⟨rfl,?d,fun h5=>⟨fun h6=>⟨?e,?f,?g,?h,?i,?j,?k⟩,fun h6=>(by rw[Dy (by omega) (fun h=>by have:=bK.2 h;simp_all)];exact⟨rfl,ad,rfl,rfl⟩)⟩⟩)))
 case a|b|c=>rw[FI (by omega)];exact⟨rfl,ad,rfl,rfl⟩
 case d|e=>omega
 case f|g=>
  have hlen:(stepOf d).fst.snd.snd.fst=d.snd.snd.fst:=congrArg (fun z=>z.2.1) (dF d);have hwt:(stepOf d).fst.snd.snd.snd.fst=d.snd.snd.snd.fst:=congrArg (fun z=>z.2.2.1) (dF d);have hkp:(stepOf d).fst.snd.fst=d.snd.fst:=congrArg (fun z=>z.1) (dF d);rw[hlen];omega
 case h|i=>
  have hlen:(stepOf d).fst.snd.snd.fst=d.snd.snd.fst:=congrArg (fun z=>z.2.1) (dF d);have hwt:(stepOf d).fst.snd.snd.snd.fst=d.snd.snd.snd.fst:=congrArg (fun z=>z.2.2.1) (dF d);have hkp:(stepOf d).fst.snd.fst=d.snd.fst:=congrArg (fun z=>z.1) (dF d);rw[e5,hlen];omega
 case j=>
  have hlen:(stepOf d).fst.snd.snd.fst=d.snd.snd.fst:=congrArg (fun z=>z.2.1) (dF d);have hwt:(stepOf d).fst.snd.snd.snd.fst=d.snd.snd.snd.fst:=congrArg (fun z=>z.2.2.1) (dF d);have hkp:(stepOf d).fst.snd.fst=d.snd.fst:=congrArg (fun z=>z.1) (dF d);rw[hwt];simp only[bb,true_and];omega
 case k=>
  have hlen:(stepOf d).fst.snd.snd.fst=d.snd.snd.fst:=congrArg (fun z=>z.2.1) (dF d);have hwt:(stepOf d).fst.snd.snd.snd.fst=d.snd.snd.snd.fst:=congrArg (fun z=>z.2.2.1) (dF d);have hkp:(stepOf d).fst.snd.fst=d.snd.fst:=congrArg (fun z=>z.1) (dF d);rw[Hr (by omega) (bK.1 ‹_›),Ld (t:=.str) (by rw[hlen];omega),hlen,hwt,hkp];exact⟨rfl,ad,rfl,by simp[bK.1 ‹(aJ (stepOf d).snd).isNil=true›]⟩
def Tryz.nn:cF Tryz.prog Tryz.B.eT Tryz.X 90 false (bF Tryz.aT [.obj 0,.d (.int .i64),.d .str] (fun _ x =>-1<=x.1.1/\x.2.2.2.1.length<=900000000) Tryz.sR):=
 bN (X:=Tryz.X) Tryz.xl Tryz.func90 (by kernel_rfl) (fun(a:CD [.obj 0,.d (.int .i64),.d .str]) (x:PD Tryz.aT)=>[]) (fun(a:CD [.obj 0,.d (.int .i64),.d .str]) (x:PD Tryz.aT) hw hp=>IE a.1 a.2.1 x hw hp)
def Tryz.vH:List (Alt Tryz.aT [.obj 0,.d (.int .i64)]):=[{bH:=Tryz.aT,res:=[.d .str,.d .err],out:=fun _ x=>x,ret:=fun a x=>((mK x a.1).1,aJ (mK x a.1).2,())}]
def Ke(at_:Int)(d:Dk)(hw:gr [.obj 0,.d (.int .i64)] (at_,())):(dW Tryz.B [] Tryz.f65 [] Tryz.aT [.obj 0,.d (.int .i64)] Tryz.vH (at_,()) d).holds:=by
 refine holds_of (p:=
  let za:=d.2.2.2.1=d.2.2.2.1
  let zb:=((mK d at_).1,aJ (mK d at_).2,())
  let zc:=za/\True/\d=d/\([],aQ.no 1,())=zb
  let zd:=ae d.2.2.1
  ((d.1.2.1)=true->za/\True/\d=d/\([],aQ.no 9,())=zb)/\((d.1.2.1)=false->((decide (at_<0))=true->zc)/\((decide (at_<0))=false->zd<=aN->((decide (at_>=(↑zd:Int)))=true->zc)/\((decide (at_>=(↑zd:Int)))=false->(0<=at_/\at_<(↑zd:Int))/\ah at_<zd/\za/\True/\d=d/\(nth Ty.str d.2.2.1 (ah at_),aQ.nil,())=zb)))) (by kernel_rfl) ?_
 dsimp -iota -proj -eta only;refine⟨fun h0=>(by rw[FJ ‹_›];exact⟨rfl,ad,rfl,rfl⟩),fun h0=>iL (fun h1 =>?a) (fun h1 h2=>iE (fun h3 =>?b) (fun h3=>⟨(by trivial),(by omega),(by rw[JE ‹_› (by omega)];exact⟨rfl,ad,rfl,rfl⟩)⟩))⟩
 case a|b=>rw[Ht ‹_› (by omega)];exact⟨rfl,ad,rfl,rfl⟩
def Tryz.vI:cF Tryz.prog Tryz.B.eT Tryz.X 65 false (bF Tryz.aT [.obj 0,.d (.int .i64)] (fun _ _=>True) Tryz.vH):=
 bN (X:=Tryz.X) (cN Tryz.cL) Tryz.func65 (by kernel_rfl) (fun(a:CD [.obj 0,.d (.int .i64)]) (x:PD Tryz.aT)=>[]) (fun(a:CD [.obj 0,.d (.int .i64)]) (x:PD Tryz.aT) hw hp=>Ke a.1 x hw)
def Tryz.sU:List (Alt Tryz.aT [.obj 0]):=[{bH:=Tryz.aT,res:=[.d .err],out:=fun _ x=>(bC x).1,ret:=fun _ x=>(aJ (bC x).2,())}]
def IF(d:Dk)(hw:gr [.obj 0] ())(hp:(fun _ x =>-1<=x.1.1/\x.2.1.length=x.2.2.1.length) () d):(dW Tryz.B Tryz.vG Tryz.f91 [] Tryz.aT [.obj 0] Tryz.sU () d).holds:=by
 refine holds_of (p:=
  let za:=aJ (stepOf d).2
  let zb:=(stepOf d).1
  let zc:=ae zb.2.1
  let zd:=zb.2.2.1
  let ze:=min (ae zd) zc
  let zf:=(za,())=(aJ (bC d).2,())
  d.2.2.2.1=d.2.2.2.1/\(-1:Int)<=d.1.1/\(True->((aQ.isNil za)=true->(True/\0+zc<=zc)/\(@af (Int×List UInt8×Unit)=@af (Int×List UInt8×Unit)/\True/\(zb.1,ag 0 zb.2.1++ag ze zd++aj (0+ze) zb.2.1,zd,[],())=(bC d).1/\zf))/\((aQ.isNil za)=false->zb.2.2.2.1=zb.2.2.2.1/\True/\zb=(bC d).1/\zf))) (by kernel_rfl) ?_
 dsimp -iota -proj -eta only;refine⟨rfl,(by omega),fun h0=>⟨fun h1=>⟨(by simp_all),?a⟩,fun h1=>(by rw[ui (fun h=>by have:=bK.2 h;simp_all)];exact⟨rfl,ad,rfl,rfl⟩)⟩⟩
 case a=>
  have hlen:(stepOf d).fst.snd.snd.fst=d.snd.snd.fst:=congrArg (fun z=>z.2.1) (dF d);have hwt:(stepOf d).fst.snd.snd.snd.fst=d.snd.snd.snd.fst:=congrArg (fun z=>z.2.2.1) (dF d);have hkp:(stepOf d).fst.snd.fst=d.snd.fst:=congrArg (fun z=>z.1) (dF d);have h0:=bK.1 ‹(aJ (stepOf d).snd).isNil=true›;rw[yX h0,hlen,hkp,BR hp.2,h0];exact⟨rfl,ad,rfl,rfl⟩
def Tryz.np:cF Tryz.prog Tryz.B.eT Tryz.X 91 false (bF Tryz.aT [.obj 0] (fun _ x =>-1<=x.1.1/\x.2.1.length=x.2.2.1.length) Tryz.sU):=
 bN (X:=Tryz.X) Tryz.xl Tryz.func91 (by kernel_rfl) (fun(a:CD [.obj 0]) (x:PD Tryz.aT)=>[]) (fun(a:CD [.obj 0]) (x:PD Tryz.aT) hw hp=>IF x hw hp)
def Tryz.yd:List (Alt Tryz.aT [.obj 0,.d (.int .i64)]):=[{bH:=Tryz.aT,res:=[],out:=fun a x=>xU x a.1,ret:=fun _ _=>()}]
def Lw(n:Int)(d:Dk)(hw:gr [.obj 0,.d (.int .i64)] (n,())):(dW Tryz.B [] Tryz.f16 [] Tryz.aT [.obj 0,.d (.int .i64)] Tryz.yd (n,()) d).holds:=by
 refine holds_of (p:=
  d.2.2.2.1=d.2.2.2.1/\True/\((if(-1:Int) > n then(-1:Int)else n,d.1.2),d.2)=xU d n/\()=()) (by kernel_rfl) ?_
 exact⟨rfl,ad,rfl,rfl⟩
def Tryz.ye:cF Tryz.prog Tryz.B.eT Tryz.X 16 false (bF Tryz.aT [.obj 0,.d (.int .i64)] (fun _ _=>True) Tryz.yd):=
 bN (X:=Tryz.X) (cN Tryz.cL) Tryz.func16 (by kernel_rfl) (fun(a:CD [.obj 0,.d (.int .i64)]) (x:PD Tryz.aT)=>[]) (fun(a:CD [.obj 0,.d (.int .i64)]) (x:PD Tryz.aT) hw hp=>Lw a.1 x hw)
def Tryz.vJ:List (Alt Tryz.aT [.obj 0]):=[{bH:=Tryz.aT,res:=[.d .bool],out:=fun _ x=>x,ret:=fun _ x=>(x.1.2.1,())}]
def Kf(d:Dk)(hw:gr [.obj 0] ()):(dW Tryz.B [] Tryz.f63 [] Tryz.aT [.obj 0] Tryz.vJ () d).holds:=by
 refine holds_of (p:=
  d.2.2.2.1=d.2.2.2.1/\True/\d=d/\d.1.2=d.1.2) (by kernel_rfl) ?_
 exact(by trivial)
def Tryz.q8:cF Tryz.prog Tryz.B.eT Tryz.X 63 false (bF Tryz.aT [.obj 0] (fun _ _=>True) Tryz.vJ):=
 bN (X:=Tryz.X) (cN Tryz.cL) Tryz.func63 (by kernel_rfl) (fun(a:CD [.obj 0]) (x:PD Tryz.aT)=>[]) (fun(a:CD [.obj 0]) (x:PD Tryz.aT) hw hp=>Kf x hw)
def Tryz.pn:List (Alt Tryz.aT [.obj 0]):=[{bH:=Tryz.aT,res:=[.d (.int .i64)],out:=fun _ x=>x,ret:=fun _ x=>((x.2.2.1.length:Int),())}]
def DV(d:Dk)(hw:gr [.obj 0] ()):(dW Tryz.B [] Tryz.f64 [] Tryz.aT [.obj 0] Tryz.pn () d).holds:=by
 refine holds_of (p:=
  let za:=ae d.2.2.1
  let zb:=((↑za:Int),())
  za<=aN->d.2.2.2.1=d.2.2.2.1/\True/\d=d/\zb=zb) (by kernel_rfl) ?_
 dsimp -iota -proj -eta only;exact fun h0=>(by trivial)
def Tryz.kK:cF Tryz.prog Tryz.B.eT Tryz.X 64 false (bF Tryz.aT [.obj 0] (fun _ _=>True) Tryz.pn):=
 bN (X:=Tryz.X) (cN Tryz.cL) Tryz.func64 (by kernel_rfl) (fun(a:CD [.obj 0]) (x:PD Tryz.aT)=>[]) (fun(a:CD [.obj 0]) (x:PD Tryz.aT) hw hp=>DV x hw)
def Tryz.kL:List (Alt Tryz.aT [.obj 0,.d (.int .u64)]):=[{bH:=Tryz.aT,res:=[],out:=fun a x=>eM x a.1,ret:=fun _ _=>()}]
def xm(k:Int)(d:Dk):eo:=[(0,fun st=>{X:=Nat,inv:=fun i=>i<=d.2.2.2.1.length,dx:=fun i=>d.2.2.2.1.length-i,bX:=fun i=>[(11,sI i)],aC:=fun i=>[(1,.aM .str (ei k d.2.2.2.1 d.2.1 i))],keep:=[0,1,9,10],jq:=[1]})]
def DW(k:Int)(d:Dk)(hw:gr [.obj 0,.d (.int .u64)] (k,()))(hp:(fun _ x=>x.2.1.length=x.2.2.1.length/\∀i,i<x.2.2.2.1.length->0<=((nth du x.2.2.2.1 i).1:Int)/\((nth du x.2.2.2.1 i).1:Int)<x.2.2.1.length) (k,()) d):(dW Tryz.B [] Tryz.f22 (xm k d) Tryz.aT [.obj 0,.d (.int .u64)] Tryz.kL (k,()) d).holds:=by
 refine holds_of (p:=
  let za:=d.2.2.2.1
  let zb:=ae za
  let zc:=d.2.1
  let zd:=fun(F:Nat)=>(nth du za F).1
  let ze:=fun(F:Nat)=>ei k za zc F
  let zf:=fun(F:Nat)=>(↑F:Int)+(1:Int)
  let zg:=d.2.2.1
  let zh:=(C.aM 1=C.aM 1/\C.aM 2=C.aM 2/\za=za/\d.1.1=d.1.1/\d.1.2.1=d.1.2.1/\True)/\zg=zg/\za=za/\True
  let zi:=ae zg
  zb<=aN->(∃(x:Nat),x<=zb/\((0:Int)=(↑x:Int)/\True)/\zc=ei k za zc x/\True)/\∀F:Nat,F<=zb->((decide ((↑F:Int)<(↑zb:Int)))=true->((0:Int)<=(↑F:Int)/\(↑F:Int)<(↑zb:Int))/\(64:Int)≠(0:Int)/\∀G:Int,G=b4 (↑F:Int) (64:Int)->(0:Int)<=G/\∀I:Int,I=bf k ((2:Int)^min (ah G) (bk ao))->∀K:Int,K=ai ao (↑(bx (ba (bk ao) I&&&ba (bk ao) (1:Int))):Int)->((K == (1:Int))=true->((0:Int)<=zd F/\zd F<(↑(ae (ze F)):Int))/\ah (zd F)<ae (ze F)/\(aR (↑F:Int)->aR (1:Int)->aR (zf F)/\∃(x':Nat),x'<=zb/\zb-x'<zb-F/\(zf F=(↑x':Int)/\True)/\cc (ze F) (ah (zd F)) (nth du za F).2.1=ei k za zc x'/\zh))/\((K == (1:Int))=false->aR (↑F:Int)->aR (1:Int)->aR (zf F)/\∃(x':Nat),x'<=zb/\zb-x'<zb-F/\(zf F=(↑x':Int)/\True)/\ze F=ei k za zc x'/\zh))/\((decide ((↑F:Int)<(↑zb:Int)))=false->(True/\0+zi<=zi)/\(@af (Int×List UInt8×Unit)=@af (Int×List UInt8×Unit)/\True/\(((-1:Int),false,()),ze F,ag 0 zg++ag (min (ae (ze F)) zi) (ze F)++aj (0+min (ae (ze F)) zi) zg,[],())=eM d k/\()=()))) (by kernel_rfl) ?_
 dsimp -iota -proj -eta only;refine fun h0=>⟨?a,fun F q_0=>iL (fun h1=>⟨(by omega),(by trivial),fun G q_1=>⟨(by have:=KA F;rw[Int.tmod_eq_emod_of_nonneg (by omega)]at*;omega),fun I q_2 K q_3=>iQ (fun h2=>⟨?b,?c,fun h3 h4=>⟨?d,?e⟩⟩) (fun h2 h3 h4=>⟨?f,?g⟩)⟩⟩) (fun h1=>⟨(by simp_all),?h⟩)⟩
 case a=>refine⟨0,?_⟩;(repeat' (first|exact trivial|rfl|omega|assumption|apply And.intro))
 case b|c=>have:=hp.2 F (by omega);rw[ly];(try dsimp only[D]at*);omega
 case d|f=>simp only[aR,aN]at*;omega
 case e|g=>
  have hb:=JC (k:=k) (i:=F) (x:=I) (y:=K) ‹_› (by rw[‹G=_›];exact KA F) ‹_›
  first|exact⟨F+1,by omega,by omega,⟨by omega,ad⟩,JD (hb.1 ‹_›),(by trivial)⟩|exact⟨F+1,by omega,by omega,⟨by omega,ad⟩,Hs ((not_congr hb).1 ‹_›),(by trivial)⟩
 case h=>
  obtain rfl:F=d.2.2.2.1.length:=by omega
  rw[BR (by rw[ly];exact hp.1.symm)];exact⟨rfl,ad,rfl,rfl⟩
def Tryz.mN:cF Tryz.prog Tryz.B.eT Tryz.X 22 false (bF Tryz.aT [.obj 0,.d (.int .u64)] (fun _ x=>x.2.1.length=x.2.2.1.length/\∀i,i<x.2.2.2.1.length->0<=((nth du x.2.2.2.1 i).1:Int)/\((nth du x.2.2.2.1 i).1:Int)<x.2.2.1.length) Tryz.kL):=
 bN (X:=Tryz.X) (cN Tryz.cL) Tryz.func22 (by kernel_rfl) (fun(a:CD [.obj 0,.d (.int .u64)]) (x:PD Tryz.aT)=>xm a.1 x) (fun(a:CD [.obj 0,.d (.int .u64)]) (x:PD Tryz.aT) hw hp=>DW a.1 x hw hp)
def Tryz.vK:List (Alt [] [.d (.int .i64)]):=[
 {bH:=[],res:=[.eS,.d .err],ok:=fun a _=>a.1<1\/120<a.1,out:=fun _ _=>(),ret:=fun _ _=>(aQ.no 1,())},
 {bH:=Tryz.aT,res:=[.obj 0,.d .err],ok:=fun a _=>1<=a.1/\a.1<=120,out:=fun a _=>nw a.1,ret:=fun _ _=>(aQ.nil,())}]
def Lx(n:Int)(hw:gr [.d (.int .i64)] (n,())):(dW Tryz.B Tryz.CV Tryz.f54 [] [] [.d (.int .i64)] Tryz.vK (n,()) ()).holds:=by
 refine holds_of (p:=
  let za:=(aQ.no 1,())
  let zb:=(n<1\/120<n)/\()=()/\za=za
  let zc:=[cB (@af UInt8)]
  let zd:=bj (ah n) (nth Ty.str zc 0)
  let ze:=zd≠@af (List UInt8)
  ((decide (n<1))=true->zb)/\((decide (n<1))=false->((decide (n > 120))=true->zb)/\((decide (n > 120))=false->ae (@af UInt8)<=64/\(ae zc=1/\1<=n/\n<=1000000)/\(True->(ze/\ae zd<=1000000)/\(ze->(@af (Int×List UInt8×Unit)=@af (Int×List UInt8×Unit)/\(1<=n/\n<=120)/\(((-1:Int),false,()),zd,zd,[],())=nw n/\(aQ.nil,())=(aQ.nil,()))))))) (by kernel_rfl) ?_
 dsimp -iota -proj -eta only;refine iL (fun h0 =>?a) (fun h0=>iL (fun h1 =>?b) (fun h1=>⟨(by trivial),⟨rfl,by omega,by omega⟩,fun h2=>⟨?c,fun h3=>⟨rfl,by omega,rfl,rfl⟩⟩⟩))
 case a|b=>exact⟨by omega,rfl,rfl⟩
 case c=>
  refine⟨fun h =>?_,by simp only[bw];omega⟩;have:=congrArg ae h;simp only[bw,bp]at this;omega
def Tryz.yf:cF Tryz.prog Tryz.B.eT Tryz.X 54 false (bF [] [.d (.int .i64)] (fun _ _=>True) Tryz.vK):=
 bN (X:=Tryz.X) Tryz.Gw Tryz.func54 (by kernel_rfl) (fun(a:CD [.d (.int .i64)]) (x:PD [])=>[]) (fun(a:CD [.d (.int .i64)]) (x:PD []) hw hp=>Lx a.1 hw)
def Ly(n:Int)(hw:gq [.int .i64] n):(eC Tryz.B [] Tryz.f119 [] [.int .i64] [.str] (fun x y=>y=(fun n=>fU n) x) n).holds:=by
 refine holds_of (p:=
  (0:Int)<=(8:Int)/\∀F:Int,F=bf n ((2:Int)^min 8 (bk aq))->(0:Int)<=(16:Int)/\∀G:Int,G=bf n ((2:Int)^min 16 (bk aq))->(0:Int)<=(24:Int)/\∀I:Int,I=bf n ((2:Int)^min 24 (bk aq))->ae [ai bd n,ai bd F,ai bd G,ai bd I]<=aN/\bytesOf [ai bd n,ai bd F,ai bd G,ai bd I]=fU n) (by kernel_rfl) ?_
 refine⟨?a,fun F q_0=>⟨?b,fun G q_1=>⟨?c,fun I q_2=>⟨((by decide:4<=aN)),(by subst q_0;subst q_1;subst q_2;rfl)⟩⟩⟩⟩
 case a|b|c=>trivial
def Tryz.Lz:cG Tryz.prog Tryz.B.eT Tryz.X 119 [.int .i64] [.str] (fun _=>True) (fun x y=>y=(fun n=>fU n) x):=
 dk (X:=Tryz.X) (cN Tryz.cL) Tryz.func119 (by kernel_rfl) (fun _=>[]) (fun x hw hp=>Ly x hw)
def Tryz.EO:List (FuncId×(Bool×bA)):=[(119,(true,dj [.int .i64] [.str] (fun _=>True) (fun n=>fU n)))]
def Tryz.IG:bU Tryz.prog Tryz.B Tryz.X Tryz.EO:=
 aU (aK Tryz.Lz) (cN Tryz.cL)
def Kg(a:Int)(b:Int)(hw:gq [.int .i64,.int .i64] (a,b)):(eC Tryz.B Tryz.EO Tryz.f92 [] [.int .i64,.int .i64] [.str] (fun x y=>y=(fun x=>cV x.1 x.2) x) (a,b)).holds:=by
 refine holds_of (p:=
  let za:=[(83:UInt8)]++fU a
  True/\ae [(83:UInt8)]+ae (fU a)<=aN/\True/\ae za+ae (fU b)<=aN/\za++fU b=cV a b) (by kernel_rfl) ?_
 dsimp -iota -proj -eta only;exact⟨ad,(by rw[oS];exact(by decide:1+4<=aN)),ad,(by rw[bo,oS,oS];exact(by decide:1+4+4<=aN)),(by trivial)⟩
def Tryz.CW:cG Tryz.prog Tryz.B.eT Tryz.X 92 [.int .i64,.int .i64] [.str] (fun _=>True) (fun x y=>y=(fun x=>cV x.1 x.2) x):=
 dk (X:=Tryz.X) Tryz.IG Tryz.func92 (by kernel_rfl) (fun _=>[]) (fun x hw hp=>Kg x.1 x.2 hw)
def IH(s:List UInt8)(hw:gq [.str] s)(hp:(fun s=>4<=s.length) s):(eC Tryz.B [] Tryz.f66 [] [.str] [.int .i64] (fun s y=>(y:Int)=fl s) s).holds:=by
 refine holds_of (p:=
  let za:=(↑(ae s):Int)
  let zb:=bk aq
  let zc:=fun(K G I:Int)=>K=ai aq (↑(bx (ba zb G ||| ba zb I)):Int)
  ((0:Int)<=(0:Int)/\(0:Int)<za)/\((0:Int)<=(1:Int)/\(1:Int)<za)/\(0:Int)<=(8:Int)/\∀F:Int,F=ai aq ((↑(av (cM s 1)):Int)*(2:Int)^min 8 zb)->∀G:Int,G=ai aq (↑(bx (ba zb (↑(av (cM s 0)):Int) ||| ba zb F)):Int)->((0:Int)<=(2:Int)/\(2:Int)<za)/\(0:Int)<=(16:Int)/\∀I:Int,I=ai aq ((↑(av (cM s 2)):Int)*(2:Int)^min 16 zb)->∀K:Int,zc K G I->((0:Int)<=(3:Int)/\(3:Int)<za)/\(0:Int)<=(24:Int)/\∀M:Int,M=ai aq ((↑(av (cM s 3)):Int)*(2:Int)^min 24 zb)->∀Q:Int,zc Q K M->Q=fl s) (by kernel_rfl) ?_
 dsimp -iota -proj -eta only;refine⟨?a,?b,?c,fun F q_0 G q_1=>⟨?d,?e,fun I q_2 K q_3=>⟨?f,?g,fun M q_4 Q q_5=>(by subst_vars;rfl)⟩⟩⟩
 case a|b|d|f=>omega
 case c|e|g=>trivial
def Tryz.II:cG Tryz.prog Tryz.B.eT Tryz.X 66 [.str] [.int .i64] (fun s=>4<=s.length) (fun s y=>(y:Int)=fl s):=
 dk (X:=Tryz.X) (cN Tryz.cL) Tryz.func66 (by kernel_rfl) (fun _=>[]) (fun x hw hp=>IH x hw hp)
def Tryz.spZ7:Bool×bA:=(true,dj [aA] [.str,.err] (fun _=>True) (fun e=>cO e))
def Tryz.zZ:List (FuncId×(Bool×bA)):=[(72,(false,qI 144 5)),(75,(false,oQ 144 5)),(74,(true,wJ 144 5)),(105,Tryz.spZ7)]
def Tryz.DX:bU Tryz.prog Tryz.B Tryz.X Tryz.zZ:=
 aU (Tryz.DU) (aU (Tryz.CT) (aU (Tryz.Iy) (aU (aK Tryz.CS) (cN Tryz.cL))))
def z1(l:List (D aA)):eo:=[
 (0,fun st=>{X:=Nat,inv:=fun i=>i<=l.length/\∀j,j<i->aL (nth aA l j)=0,dx:=fun i=>l.length-i,bX:=fun i=>[(11,sI i)],keep:=[4,9,10],aC:=fun i=>[(dO st 4,.ext 2 ky (aZ (cI (l.take i)),(144:Int),(5:Int),()))],jq:=[dO st 4]})]
def Kh(l:List (D aA))(hw:gq [.slice aA] l)(hp:(fun l=>l.length<=100) l):(eC (iR Tryz.B [17]) Tryz.zZ Tryz.f97 (z1 l) [.slice aA] [.str,.err] (fun x y=>y=(fun l=>cW l) x) l).holds:=by
 refine holds_of (p:=
  let za:=ae l
  let zb:=(↑(144:Nat):Int)
  let zc:=fun(b:UInt8)=>(↑(av b):Int)
  let zd:=((144:Int),(5:Int),())
  let ze:=(↑(5:Nat):Int)
  let zf:=fun(F:Nat)=>bz zc (cI (ag F l))
  za<=aN->(∃(x:Nat),(x<=za/\∀(j:Nat),j<x->aL (nth aA l j)=(0:Int))/\((0:Int)=(↑x:Int)/\True)/\([],zb,(↑(5:TypeId):Int),())=(bz zc (cI (ag x l)),zd)/\True)/\∀F:Nat,(F<=za/\∀(j:Nat),j<F->aL (nth aA l j)=(0:Int))->((decide ((↑F:Int)<(↑za:Int)))=true->((0:Int)<=(↑F:Int)/\(↑F:Int)<(↑za:Int))/\True/\((!aQ.isNil (cO (nth aA l F)).2)=true->([],(cO (nth aA l F)).2)=cW l)/\((!aQ.isNil (cO (nth aA l F)).2)=false->((144:Int)=zb/\(5:Int)=ze/\ae (zf F)+ae (cO (nth aA l F)).1<=(140737488355328:Nat))/\(aR (↑F:Int)->aR (1:Int)->aR ((↑F:Int)+(1:Int))/\∃(x':Nat),(x'<=za/\∀(j:Nat),j<x'->aL (nth aA l j)=(0:Int))/\za-x'<za-F/\((↑F:Int)+(1:Int)=(↑x':Int)/\True)/\(zf F++bz zc (cO (nth aA l F)).1,zb,ze,())=(bz zc (cI (ag x' l)),zd)/\True)))/\((decide ((↑F:Int)<(↑za:Int)))=false->((144:Int)=zb/\(5:Int)=ze)/\(bytesOf (zf F),aQ.nil)=cW l)) (by kernel_rfl) ?_
 dsimp -iota -proj -eta only;refine fun h0=>⟨(⟨0,⟨au _,fun j hj=>absurd hj (bm _)⟩,⟨rfl,ad⟩,rfl,ad⟩),fun F q_0=>iL (fun h1=>⟨(by omega),ad,iB (fun h2=>(H2 q_0.2 (by omega) h2)) (fun h2=>⟨?a,fun h3 h4=>⟨(by simp only[aR,aN]at*;omega),(⟨F+1,⟨by omega,kg q_0.2 (qO h2).1⟩,by omega,⟨by omega,ad⟩,JH (H3 (by omega) h2),ad⟩)⟩⟩)⟩) (fun h1=>⟨(by trivial),(by rw[show bytesOf (bz _ (cI (ag F l)))=_ from wK _];exact JU q_0.2 (by omega))⟩)⟩
 case a=>refine⟨rfl,rfl,?_⟩;rw[bu];have h1:=H4 hp (i:=F) (by omega) q_0.2;have h2:=F9 h2;omega
def Tryz.Ki:cG Tryz.prog Tryz.B.eT Tryz.X 97 [.slice aA] [.str,.err] (fun l=>l.length<=100) (fun x y=>y=(fun l=>cW l) x):=
 dk (B:=(iR Tryz.B [17])) (X:=Tryz.X) (bU.hint (l:=[17]) Tryz.DX) Tryz.func97 (by kernel_rfl) (fun x=>z1 x) (fun x hw hp=>Kh x hw hp)
end Go.Proofs.YtgokjhhcfemnhacGreatDoor

namespace Go.Proofs.YtgokjhhcfemnhacGreatDoor
open Go.Vg Go.Shelf Go.RowKit
attribute [local go_sem] Oper.semAt_some
def xn(p j k:Nat):Prop:=p=j*k
def MA{n k m:Nat}(h:min k n=m):(if n<k then((n:Nat):Int)else(k:Int))=(m:Int):=by split <;> omega
def Tryz.Ng(b1 b2:Nat)(a:Option Addr)(len cap k:Nat)(w0:World)(h1k:1<=k)(hk9:k<=1000000000)(hl9:len<=1000000000)(hlc:len<=cap)(hsome:0<len->∃b o,a=some ⟨b,o,none⟩)
  (l:Nat)(J Jx:List Nat->World->Prop)(hJd:∀s W,J s W->J s W.drew)
  (hY:∀pre x W1,J pre W1->pre.length<dD len k->YieldAt Fence.wide 1 Tryz.prog l #[gy a len k x] W1 fun e W'=>
   (e=.returned (.bool true)/\J (pre++[x]) W'/\(W'.cell? ⟨b1,0,none⟩=W1.cell? ⟨b1,0,none⟩/\W'.cell? ⟨b2,0,none⟩=W1.cell? ⟨b2,0,none⟩))\/(e=.returned (.bool false)/\Jx (pre++[x]) W'))
  (W:World)(hc1:W.cell? ⟨b1,0,none⟩=some (.slice a len cap))(hc2:W.cell? ⟨b2,0,none⟩=some (.int .i64 k))(h0:J [] W) :
  CallsIn Fence.wide 2 Tryz.prog 120 #[.func (.yield l) #[] #[],.pointer (some ⟨b1,0,none⟩),.pointer (some ⟨b2,0,none⟩)] W fun e W'=>(∃v,e=.returned v)/\((∃xs,xs=b3 (dD len k)/\J xs W')\/(∃pre,(∃j,pre=b3 j)/\Jx pre W')):=by
 refine callsIn_of_wp Tryz.func120 rfl trivial ?_ rfl;have hn:Tryz.f120.ntmps=31:=rfl;simp only[hn,List.size_toArray,bh,bp,Nat.reduceAdd,Nat.reduceSub,Array.replicate_succ,Array.replicate_zero,List.push_toArray,List.append_toArray,List.nil_append,List.cons_append]
 gi_wp2
 gi_loopw [4] (fun i wr=>∃j p:Nat,xn p j k/\j<=dD len k/\i=.int .i64 (p:Int)/\J (b3 j) wr/\wr.cell? ⟨b1,0,none⟩=some (.slice a len cap)/\wr.cell? ⟨b2,0,none⟩=some (.int .i64 k))
  (fun i _=>len+k-(intOf i).toNat)
 case atStart=>exact⟨0,0,(Nat.zero_mul k).symm,au _,rfl,h0,hc1,hc2⟩
 case round=>
  obtain⟨j,p,hp,hj,rfl,hJs,hw1,hw2⟩:=hrel;by_cases hlt:p<len
  ·have hlt':(p:Int)<(len:Int):=Int.ofNat_lt.2 hlt
   obtain⟨b,o,rfl⟩:=hsome (by omega);obtain⟨m,hm⟩:∃m:Nat,m=min k (len-p):=⟨_,rfl⟩
   have hm0:0<m:=by omega
   have hm00:¬m=0:=by omega
   have hm2:p+m<=len:=by omega
   have hb1:(((p:Nat):Int)+(m:Int))<=1000000000:=by omega
   have hb0:(0:Int)<=((p:Nat):Int)+(m:Int):=by omega
   have hjN:j<dD len k:=by
    unfold dD;rw[e7 (by omega)];unfold xn at hp;omega
   obtain⟨fn,tmps,assign,body,hy,hR⟩:=hY (b3 j) j wr.drew (hJd _ _ hJs) (by rw[List.length_range];exact hjN);rw[show gy (some ⟨b,o,none⟩) len k j=.slice (some ⟨b,o+p,none⟩) m m by unfold xn at hp;subst hp;subst hm;rfl]at hy
   gi_wp2
   gi_region
   try rw[MA (show min k (len-p)=m from hm.symm)]
   try rw[show min ((k:Nat):Int) ((len-p:Nat):Int)=(m:Int) by omega]
   try rw[<-hm]
   clear hm
   gi_wp2
   refine hR.mono ?_;rintro e W3 (⟨rfl,hJ3,hk3⟩|⟨rfl,hJx3⟩)
   ·have hw3:=hk3.1.trans hw1
    have hw4:=hk3.2.trans hw2;have hs1:(0:Int)<=(p:Int)+(k:Int):=by omega
    have hs2:(p:Int)+(k:Int)<=2000000000:=by omega
    gi_wp2
    go_roundw
    case rel=>exact⟨j+1,p+k,by unfold xn at*;rw[hp,Nat.add_mul,Nat.one_mul],hjN,by simp,by rw[fr];exact hJ3,hw3,hw4⟩
    case measure=>simp[intOf];omega
   ·gi_wp2
    refine bodyPost_ret (results_none rfl _ _ _) rfl ?_;exact⟨⟨_,rfl⟩,.inr ⟨_,⟨j+1,fr.symm⟩,hJx3⟩⟩
  ·have hjN:j=dD len k:=by
    refine Nat.le_antisymm hj (Nat.le_of_not_lt fun hc=>hlt ?_);unfold dD at hc;rw[e7 (by omega)]at hc;unfold xn at hp;omega
   gi_wp2
   go_end0
   exact⟨⟨_,rfl⟩,.inl ⟨_,rfl,by rw[<-hjN];exact hJs⟩⟩
def Tryz.LA:pU Tryz.prog 120:=fun b1 b2 a len cap k w h1k hk9 hl9 hlc hsome hb1 hb2 hc1 hc2 l J Jx W hW hJ _ hY h0=>
 Tryz.Ng b1 b2 a len cap k w h1k hk9 hl9 hlc hsome l J Jx (fun s W hs=>hJ s W W.drew none hs ⟨rfl,rfl,rfl,az _,fun _ _ _=>rfl⟩ (fun r e=>by cases e)) hY W
  ((hW.cell (p:=⟨b1,0,none⟩) hb1).trans hc1) ((hW.cell (p:=⟨b2,0,none⟩) hb2).trans hc2) h0
end Go.Proofs.YtgokjhhcfemnhacGreatDoor

namespace Go.Proofs.YtgokjhhcfemnhacGreatDoor
open Go.Vg Go.Mrl
@[reducible] def Tryz.bE:List Ob:=[.box 126 [.obj 1,.d (.int .i64),.d (.slice aA)],.box 123 [.obj 2,.obj 3,.obj 4,.d (.int .i64),.d .bool],.row true .str,.row true .str,.tok du]
@[reducible] def Tryz.LB:List Ob:=[.box 26 [.obj 1],.box 126 [.obj 2,.d (.int .i64),.d (.slice aA)],.box 123 [.obj 3,.obj 4,.obj 5,.d (.int .i64),.d .bool],.row true .str,.row true .str,.tok du,.box 36 [.d .err],.box 36 [.d .err],.box 3 [.d (.int .i64)]]
def Tryz.spZ8:Bool×bA:=(true,dj [.int .i64,.int .i64] [.str] (fun _=>True) (fun x=>cV x.1 x.2))
def Tryz.spZ9:Bool×bA:=(false,bF Tryz.aT [.obj 0,.d (.int .i64),.d .str] (fun _ x =>-1<=x.1.1/\x.2.2.2.1.length<=900000000) Tryz.sR)
def Tryz.spZ10:Bool×bA:=(false,bF Tryz.aT [.obj 0] (fun _ x =>-1<=x.1.1/\x.2.1.length=x.2.2.1.length) Tryz.sU)
def Tryz.EP:List (FuncId×(Bool×bA)):=[(97,(true,dj [.slice aA] [.str,.err] (fun l=>l.length<=100) (fun l=>cW l))),(92,Tryz.spZ8),(98,(false,fS Tryz.B [] Tryz.f98 [])),(90,Tryz.spZ9),(91,Tryz.spZ10)]
def Tryz.IJ:bU Tryz.prog Tryz.B Tryz.X Tryz.EP:=
 aU (aK Tryz.Ki) (aU (aK Tryz.CW) (aU (fp (cN Tryz.cL) Tryz.func98 (by kernel_rfl) []) (aU (Tryz.nn) (aU (Tryz.np) (cN Tryz.cL)))))
def Tryz.CX(l:List (D aA))(r:Int)(o:List (D aA))(d:Dk):List (Nat×(St->iv)):=[
 (0,fun st=>{inv:=fun pre=>(eH l r d pre).2=0,keep:=[1,2,4,5,6,7,8,29],aG:=Tryz.LB,refs:=[(2,0),(4,6),(6,7),(8,8)],pd:=fun pre=>((),(r,o,()),(eH l r d pre).1.1,(eH l r d pre).1.2.1,(eH l r d pre).1.2.2.1,(eH l r d pre).1.2.2.2.1,(aQ.nil,()),(aQ.nil,()),((2+(r+1).tmod 2*55+(pre.length:Int):Int),()),())})]
def Tryz.vL:List (Alt Tryz.bE [.obj 0,.d (.slice aA)]):=[{bH:=Tryz.bE,res:=[.d .err],out:=fun a x=>(if(bV x.2 x.1.1 a.1).2=0 then(x.1.1+1,a.1,())else x.1,(bV x.2 x.1.1 a.1).1),ret:=fun a x=>(aJ (bV x.2 x.1.1 a.1).2,())}]
def LC(l:List (D aA))(r:Int)(o:List (D aA))(d:Dk)(hw:gr [.obj 0,.d (.slice aA)] (l,()))(hp:(fun a x=>a.1.length<=100/\0<=(x.1.1:Int)/\(x.1.1:Int)<=1000000000/\bO x.2 1000000) (l,()) ((r,o,()),d)):(x6 Tryz.B Tryz.EP 120 Tryz.f60 (Tryz.CX l r o d) Tryz.bE [.obj 0,.d (.slice aA)] Tryz.vL (l,()) ((r,o,()),d)).holds:=by
 refine holds_of (p:=
  let za:=d.2.2.2.1
  let zb:=(r,o,())
  let zc:=bV d r l
  let zd:=r+(1:Int)
  let ze:=(zd,l,())
  let zf:=(if zc.2=(0:Int)then ze else zb,zc.1)
  let zg:=((cW l).2,())
  let zh:=(aJ zc.2,())
  let zi:=(2:Int)≠(0:Int)
  let zj:=b4 zd (2:Int)
  let zk:=bz (fun(b:UInt8)=>(↑(av b):Int)) (cW l).1
  let zl:=(aQ.nil,())
  let zm:=(2:Int)+zj*(55:Int)
  let zn:=(ae zk+(64:Nat)-(1:Nat)) / (64:Nat)
  let zo:=fun(K:Nat)=>ag (64:Nat) (aj (K*(64:Nat)) zk)
  let zp:=fun(I:List Nat)=>(eH l r d I).1
  let zq:=(-1:Int)
  let zr:=fun(I:List Nat)=>zm+(↑(ae I):Int)
  let zs:=fun(I:List Nat) (K:Nat)=>aJ (bB (zp I) (zr I) (bytesOf (zo K))).2
  let zt:=fun(I:List Nat) (K:Nat)=>(bB (zp I) (zr I) (bytesOf (zo K))).1
  let zu:=fun(K:Nat) (I:List Nat)=>(ae (zo K)<=aN)/\((zp I).2.2.2.1=(zp I).2.2.2.1)/\(zq<=(zp I).1.1/\ae (zp I).2.2.2.1<=(900000000:Nat))/\((True)->(((!aQ.isNil (zs I K))=true->((I=b3 K)->((zt I K).2.2.2.1=(zt I K).2.2.2.1/\True/\(zb,zt I K)=zf/\(zs I K,())=zh)))/\((!aQ.isNil (zs I K))=false->((aR (zr I))->((aR (1:Int))->(aR (zr I+(1:Int)))/\((zt I K).2.2.2.1=(zt I K).2.2.2.1/\∃(x':List Nat),(eH l r d x').2=(0:Int)/\x'=I++[K]/\True/\True/\true=true/\((),zb,(zt I K).1,(zt I K).2.1,(zt I K).2.2.1,(zt I K).2.2.2.1,zl,(zs I K,()),(zr I+(1:Int),()),())=((),zb,(eH l r d x').1.1,(eH l r d x').1.2.1,(eH l r d x').1.2.2.1,(eH l r d x').1.2.2.2.1,zl,zl,(zm+(↑(ae x'):Int),()),())))))))
  let zv:=eH l r d (b3 zn)
  let zw:=zv.1.2.2.2.1
  let zx:=aJ (bC zv.1).2
  let zy:=aQ.isNil zx
  let zz:=ae (cW l).1
  let zaa:=(bC zv.1).1
  let zab:=zaa.2.2.2.1
  let zac:=zab=zab
  let zad:=zq<=zaa.1.1
  let zae:=fun(I:Int)=>bB zaa I (cV zd (↑zz:Int))
  let zaf:=fun(I:Int)=>(zae I).1.2.2.2.1=(zae I).1.2.2.2.1
  let zag:=fun(I:Int)=>(bC (zae I).1).1
  let zah:=fun(I:Int)=>(zag I).2.2.2.1=(zag I).2.2.2.1
  let zai:=fun(I:Int)=>(aJ (bC (zae I).1).2,())=zh
  let zaj:=fun(I:Int)=>(aJ (zae I).2,())=zh
  let zak:=aJ (bC zaa).2
  let zal:=(bC zaa).1
  let zam:=zal.2.2.2.1=zal.2.2.2.1
  let zan:=(zak,())=zh
  let zao:=(zx,())=zh
  (ae l<=(100:Nat))/\(((!aQ.isNil (cW l).2)=true->(za=za/\True/\(zb,d)=zf/\zg=zh))/\((!aQ.isNil (cW l).2)=false->((aR r)->((aR (1:Int))->(aR zd)/\(zi)/\(∀F:Int,((F=zj)->(∀G:Int,((G=F*(55:Int))->((aR F)->((aR (55:Int))->(aR G)/\((aR (2:Int))->((aR G)->(aR ((2:Int)+G))/\(((decide ((64:Int)<(1:Int)))=true->(False))/\((decide ((64:Int)<(1:Int)))=false->((((1:Int)<=(64:Int)/\(64:Int)<=(1000000000:Int)/\ae zk<=(1000000000:Nat)))/\((za=za/\∃(x':List Nat),(eH l r d x').2=(0:Int)/\x'=@af Nat/\True/\True/\true=true/\((),zb,d.1,d.2.1,d.2.2.1,za,zl,zg,((2:Int)+G,()),())=((),zb,(eH l r d x').1.1,(eH l r d x').1.2.1,(eH l r d x').1.2.2.1,(eH l r d x').1.2.2.2.1,zl,zl,(zm+(↑(ae x'):Int),()),())))/\((∀I:List Nat,(((eH l r d I).2=(0:Int))->(∀K:Nat,((ae I<zn)->((((fun a0 a1:Prop=>a0/\a0/\a1) (((fun a0:Prop=>a0/\a0) ((zu K I)))) ((zu K I))))/\(((((fun a0:Prop=>a0/\a0) ((zu K I))))/\((zu K I))))/\((zu K I))))))))/\(((zv.2=(0:Int))->(zw=zw)/\(zq<=zv.1.1.1/\ae zv.1.2.1=ae zv.1.2.2.1)/\((True)->(((zy)=true->(zi)/\(∀I:Int,((I=zj)->((zz<=aN)->(True)/\(zac)/\(zad/\ae zab<=(900000000:Nat))/\((True)->(((aQ.isNil (aJ (zae I).2))=true->(zaf I)/\(zq<=(zae I).1.1.1/\ae (zae I).1.2.1=ae (zae I).1.2.2.1)/\((True)->(((aQ.isNil (aJ (bC (zae I).1).2))=true->((fun a0:Prop=>a0/\a0) ((zah I/\True/\(ze,zag I)=zf/\zai I))))/\((aQ.isNil (aJ (bC (zae I).1).2))=false->(zah I/\True/\(zb,zag I)=zf/\zai I)))))/\((aQ.isNil (aJ (zae I).2))=false->(((aQ.isNil (aJ (zae I).2))=true->((fun a0:Prop=>a0/\a0) ((zaf I/\True/\(ze,(zae I).1)=zf/\zaj I))))/\((aQ.isNil (aJ (zae I).2))=false->(zaf I/\True/\(zb,(zae I).1)=zf/\zaj I))))))))))/\((zy)=false->(((zy)=true->(zac)/\(zad/\ae zaa.2.1=ae zaa.2.2.1)/\((True)->(((aQ.isNil zak)=true->((fun a0:Prop=>a0/\a0) ((zam/\True/\(ze,zal)=zf/\zan))))/\((aQ.isNil zak)=false->(zam/\True/\(zb,zal)=zf/\zan)))))/\((zy)=false->(((zy)=true->((fun a0:Prop=>a0/\a0) ((zac/\True/\(ze,zaa)=zf/\zao))))/\((zy)=false->(zac/\True/\(zb,zaa)=zf/\zao)))))))))))))))))))))))))) (by kernel_rfl) ?_
 dsimp -iota -proj -eta only;dsimp only at hp;refine⟨hp.1,iB (fun h0 =>?a) (fun h0 h1 h2=>⟨(by have hr:=hp.2.1;have hr2:=hp.2.2.1;simp only[aR]at*;dsimp only[D]at*;omega),?b,fun F q_0 G q_1 h3 h4=>⟨?c,fun h5 h6=>⟨?d,⟨fun h7=>absurd (show false=true from h7) (by decide),fun h7=>⟨?e,?f,fun I q_2 K q_3=>⟨(show ∀{a0 a1:Prop},a0->a1->a0/\a0/\a1 from fun g0 g1=>⟨g0,g0,g1⟩) ((show ∀{a0:Prop},a0->a0/\a0 from fun g0=>⟨g0,g0⟩) (⟨?g,rfl,?h,fun h8=>iB (fun h9 h10 =>?i) (fun h9 h10 h11=>⟨?j,?k⟩)⟩)) (⟨?l,rfl,?m,fun h8=>iB (fun h9 h10 =>?n) (fun h9 h10 h11=>⟨?o,?p⟩)⟩),⟨(show ∀{a0:Prop},a0->a0/\a0 from fun g0=>⟨g0,g0⟩) (⟨?q,rfl,?r,fun h8=>iB (fun h9 h10 =>?s) (fun h9 h10 h11=>⟨?t,?u⟩)⟩),⟨?v,rfl,?w,fun h8=>iB (fun h9 h10 =>?x) (fun h9 h10 h11=>⟨?y,?z⟩)⟩⟩,⟨?a0,rfl,?a1,fun h8=>iB (fun h9 h10 =>?a2) (fun h9 h10 h11=>⟨?a3,?a4⟩)⟩⟩,fun h8=>⟨rfl,(by have hf:=vt (r:=r) hp.1 hp.2.2.2;exact⟨hf.gB,hf.len⟩),fun h9=>⟨fun h10=>⟨?a5,fun I q_2 h11=>⟨ad,rfl,(by have hf:=nI (vt (r:=r) hp.1 hp.2.2.2);exact⟨hf.gB,aw hf.gT (by decide)⟩),fun h12=>⟨fun h13=>⟨rfl,(by have hf:=iX (nI (vt (r:=r) hp.1 hp.2.2.2)) I (cV (r+1) (cW l).1.length);exact⟨hf.gB,hf.len⟩),fun h14=>⟨fun h15=>(show ∀{a0:Prop},a0->a0/\a0 from fun g0=>⟨g0,g0⟩) ((by subst q_2;exact⟨rfl,ad,H6 (zN h0 h8 (bK.1 h10) (bK.1 h13)) (bK.1 h15)⟩)),fun h15=>(by subst q_2;exact⟨rfl,ad,ox (zN h0 h8 (bK.1 h10) (bK.1 h13)) (cJ h15)⟩)⟩⟩,fun h13=>⟨fun h14=>(show ∀{a0:Prop},a0->a0/\a0 from fun g0=>⟨g0,g0⟩) ((b7 (h13.symm.trans h14))),fun h14=>(by subst q_2;exact⟨rfl,ad,ox (Ll h0 h8 (bK.1 h10) (cJ h13)) (cJ h13)⟩)⟩⟩⟩⟩,fun h10=>⟨fun h11=>⟨rfl,?a6,fun h12=>⟨fun h13=>(show ∀{a0:Prop},a0->a0/\a0 from fun g0=>⟨g0,g0⟩) (?a7),fun h13 =>?a8⟩⟩,fun h11=>⟨fun h12=>(show ∀{a0:Prop},a0->a0/\a0 from fun g0=>⟨g0,g0⟩) ((b7 (h10.symm.trans h12))),fun h12=>⟨rfl,ad,ox (Lk h0 h8 (cJ h10)) (cJ h10)⟩⟩⟩⟩⟩⟩⟩⟩⟩⟩)⟩
 case a=>
  obtain⟨e1,e2,e3⟩:=H5 d r h0;rw[e3];exact⟨rfl,ad,ox (z:=(d,iw l)) e1 e2⟩
 case b|a5=>trivial
 case c|d=>have ht:=KM (r:=r) hp.2.1;simp only[aR]at*;dsimp only[D]at*;omega
 case e=>refine⟨by decide,by decide,?_⟩;rw[bu];have:=zM hp.1;omega
 case f=>
  refine⟨rfl,[],rfl,rfl,ad,ad,rfl,?_⟩;rw[(ni h0).1,q_1,q_0];simp[eH,gb]
 case g|l|q|v|a0=>rw[ax];exact aw (Nat.min_le_left _ _) (by decide)
 case h|m|r|w|a1=>
  have hf:=Cn (l:=l) (r:=r) hp.2.2.2 I;have h5000:=qT hp.1;exact⟨hf.gB,aw hf.gT (by have:I.length<dD (aZ (cW l).1).length 64:=q_3;omega)⟩
 case i|n|s|x|a2=>exact⟨rfl,ad,ox (Gf h0 q_2 h10 q_3 (cJ h9)) (cJ h9)⟩
 case j|o|t|y|a3=>
  have ht:=KM (r:=r) hp.2.1;have h5000:=qT hp.1;have:I.length<dD (aZ (cW l).1).length 64:=q_3;simp only[aR]at*;dsimp only[D]at*;omega
 case k|p|u|z|a4=>
  have hz:=bK.1 h9;refine⟨rfl,I++[K],?_,rfl,ad,ad,rfl,?_⟩
  ·rw[Cp K q_2];exact hz
  ·rw[Cp K q_2,bo]
   refine congrArg (fun z=>((),(r,o,()),z)) ?_;rw[show aJ _=aQ.nil from congrArg aJ hz];simp only[bb,Int.natCast_add,Int.natCast_one,Int.add_assoc];rfl
 case a6|a7|a8=>exact b7 (h10.symm.trans h11)
def Tryz.ER:cF Tryz.prog Tryz.B.eT Tryz.X 60 false (bF Tryz.bE [.obj 0,.d (.slice aA)] (fun a x=>a.1.length<=100/\0<=(x.1.1:Int)/\(x.1.1:Int)<=1000000000/\bO x.2 1000000) Tryz.vL):=
 x7 (X:=Tryz.X) Tryz.IJ Tryz.LA Tryz.func120 (by kernel_rfl) Tryz.func60 (by kernel_rfl) (fun(a:CD [.obj 0,.d (.slice aA)]) (x:PD Tryz.bE)=>Tryz.CX a.1 x.1.1 x.1.2.1 x.2) (fun(a:CD [.obj 0,.d (.slice aA)]) (x:PD Tryz.bE) hw hp=>LC a.1 x.1.1 x.1.2.1 x.2 hw hp)
def Tryz.xp:List (FuncId×(Bool×bA)):=[(94,(false,fS Tryz.B [] Tryz.f94 []))]
def Tryz.CY:bU Tryz.prog Tryz.B Tryz.X Tryz.xp:=
 aU (fp (cN Tryz.cL) Tryz.func94 (by kernel_rfl) []) (cN Tryz.cL)
def z6:eo:=[(0,fun st=>{X:=Nat,inv:=fun i=>i<=(lR (.slice aA) st 0).length/\∀j,j<i->(nth aA (lR (.slice aA) st 0) j).1≠M0 .str st (MK st 1 0),dx:=fun i=>(lR (.slice aA) st 0).length-i,bX:=fun i=>[(8,sI i)],keep:=[0,1,7]})]
def Tryz.yg:List (FuncId×(Bool×bA)):=[(93,(false,fS Tryz.B Tryz.xp Tryz.f93 z6))]
def Tryz.z7:bU Tryz.prog Tryz.B Tryz.X Tryz.yg:=
 aU (fp Tryz.CY Tryz.func93 (by kernel_rfl) z6) (cN Tryz.cL)
def Tryz.vM:List (Alt Tryz.bE [.obj 0,.d .str]):=[{bH:=Tryz.bE,res:=[.d (.int .i64)],out:=fun _ x=>x,ret:=fun a x=>(dm x.1.2.1 a.1,())}]
def LD(s:List UInt8)(r:Int)(o:List (D aA))(d:Dk)(hw:gr [.obj 0,.d .str] (s,())):(dW Tryz.B Tryz.yg Tryz.f58 [] Tryz.bE [.obj 0,.d .str] Tryz.vM (s,()) ((r,o,()),d)).holds:=by
 refine holds_of (p:=
  let za:=ae o
  let zb:=d.2.2.2.1=d.2.2.2.1
  let zc:=((r,o,()),d)
  let zd:=(dm o s,())
  let ze:=C.ref 1 0
  za<=aN->(∃(x:Nat),(x<=za/\∀(j:Nat),j<x->(nth aA o j).1≠s)/\(0=(↑x:Int)/\True)/\True)/\∀F:Nat,(F<=za/\∀(j:Nat),j<F->(nth aA o j).1≠s)->((decide ((↑F:Int)<(↑za:Int)))=true->(0<=(↑F:Int)/\(↑F:Int)<(↑za:Int))/\(((nth aA o F).1 == s)=true->zb/\True/\zc=zc/\((↑F:Int),())=zd)/\(((nth aA o F).1 == s)=false->aR (↑F:Int)->aR 1->aR ((↑F:Int)+1)/\∃(x':Nat),(x'<=za/\∀(j:Nat),j<x'->(nth aA o j).1≠s)/\za-x'<za-F/\((↑F:Int)+1=(↑x':Int)/\True)/\(s=s/\True)/\(ze=ze/\r=r/\o=o/\True)/\(C.aM 2=C.aM 2/\C.aM 3=C.aM 3/\zb/\d.1.1=d.1.1/\d.1.2.1=d.1.2.1/\True)/\d.2.1=d.2.1/\d.2.2.1=d.2.2.1/\zb/\True))/\((decide ((↑F:Int)<(↑za:Int)))=false->zb/\True/\zc=zc/\((-1:Int),())=zd)) (by kernel_rfl) ?_
 dsimp -iota -proj -eta only;exact fun h0=>⟨(⟨0,⟨au _,fun j hj=>absurd hj (bm _)⟩,⟨rfl,ad⟩,ad⟩),fun F q_0=>iL (fun h1=>⟨(by omega),iQ (fun h2=>⟨rfl,ad,rfl,by rw[qR (by omega) q_0.2 h2]⟩) (fun h2 h3 h4=>⟨(by simp only[aR,aN]at*;omega),(⟨F+1,⟨by omega,kg q_0.2 h2⟩,by omega,⟨by omega,ad⟩,(by trivial)⟩)⟩)⟩) (fun h1=>⟨rfl,ad,rfl,by rw[l7 fun j hj=>q_0.2 j (by omega)]⟩)⟩
def Tryz.yh:cF Tryz.prog Tryz.B.eT Tryz.X 58 false (bF Tryz.bE [.obj 0,.d .str] (fun _ _=>True) Tryz.vM):=
 bN (X:=Tryz.X) Tryz.z7 Tryz.func58 (by kernel_rfl) (fun(a:CD [.obj 0,.d .str]) (x:PD Tryz.bE)=>[]) (fun(a:CD [.obj 0,.d .str]) (x:PD Tryz.bE) hw hp=>LD a.1 x.1.1 x.1.2.1 x.2 hw)
def Gx(l:List (D aE))(hw:gq [.slice aE] l)(hp:(fun l=>l.length<=1000000) l):(eC Tryz.B [] Tryz.f95 [] [.slice aE] [.slice aE] (fun x y=>y=(fun l=>l) x) l).holds:=by
 refine holds_of (p:=
  ∀F:Bool,(0<ae l->F=false)->(F=true->(@af (List UInt8×Int×Int×Unit)=l))/\(F=false->ae l<=1000000000/\l=l)) (by kernel_rfl) ?_
 exact fun F q_0=>⟨fun h0=>(by simp_all),fun h0=>⟨(by omega),rfl⟩⟩
def Tryz.Gy:cG Tryz.prog Tryz.B.eT Tryz.X 95 [.slice aE] [.slice aE] (fun l=>l.length<=1000000) (fun x y=>y=(fun l=>l) x):=
 dk (X:=Tryz.X) (cN Tryz.cL) Tryz.func95 (by kernel_rfl) (fun _=>[]) (fun x hw hp=>Gx x hw hp)
def Gz(l:List (D aI))(hw:gq [.slice aI] l)(hp:(fun l=>l.length<=1000000) l):(eC Tryz.B [] Tryz.f96 [] [.slice aI] [.slice aI] (fun x y=>y=(fun l=>l) x) l).holds:=by
 refine holds_of (p:=
  ∀F:Bool,(0<ae l->F=false)->(F=true->(@af (Int×Int×Int×Unit)=l))/\(F=false->ae l<=1000000000/\l=l)) (by kernel_rfl) ?_
 exact fun F q_0=>⟨fun h0=>(by simp_all),fun h0=>⟨(by omega),rfl⟩⟩
def Tryz.GA:cG Tryz.prog Tryz.B.eT Tryz.X 96 [.slice aI] [.slice aI] (fun l=>l.length<=1000000) (fun x y=>y=(fun l=>l) x):=
 dk (X:=Tryz.X) (cN Tryz.cL) Tryz.func96 (by kernel_rfl) (fun _=>[]) (fun x hw hp=>Gz x hw hp)
def Tryz.z8:List (FuncId×(Bool×bA)):=[(95,(true,dj [.slice aE] [.slice aE] (fun l=>l.length<=1000000) (fun l=>l))),(96,(true,dj [.slice aI] [.slice aI] (fun l=>l.length<=1000000) (fun l=>l)))]
def Tryz.DY:bU Tryz.prog Tryz.B Tryz.X Tryz.z8:=
 aU (aK Tryz.Gy) (aU (aK Tryz.GA) (cN Tryz.cL))
def IK(e:D aA)(hw:gq [aA] e)(hp:(fun e=>e.2.1.length<=1000000/\e.2.2.1.length<=1000000) e):(eC Tryz.B Tryz.z8 Tryz.f59 [] [aA] [aA] (fun x y=>y=(fun e=>e) x) e).holds:=by
 refine holds_of (p:=
  ae e.2.1<=1000000/\ae e.2.2.1<=1000000/\e=e) (by kernel_rfl) ?_
 refine⟨?a,?b,rfl⟩
 case a|b=>omega
def Tryz.sV:cG Tryz.prog Tryz.B.eT Tryz.X 59 [aA] [aA] (fun e=>e.2.1.length<=1000000/\e.2.2.1.length<=1000000) (fun x y=>y=(fun e=>e) x):=
 dk (X:=Tryz.X) Tryz.DY Tryz.func59 (by kernel_rfl) (fun _=>[]) (fun x hw hp=>IK x hw hp)
def Tryz.spZ11:Bool×bA:=(false,fS Tryz.B [] Tryz.f57 [])
def Tryz.spZ12:Bool×bA:=(false,bF Tryz.bE [.obj 0,.d .str] (fun _ _=>True) Tryz.vM)
def Tryz.spZ13:Bool×bA:=(true,dj [aA] [aA] (fun e=>e.2.1.length<=1000000/\e.2.2.1.length<=1000000) (fun e=>e))
def Tryz.spZ14:Bool×bA:=(false,bF Tryz.bE [.obj 0,.d (.slice aA)] (fun a x=>a.1.length<=100/\0<=(x.1.1:Int)/\(x.1.1:Int)<=1000000000/\bO x.2 1000000) Tryz.vL)
def Tryz.CZ:List (FuncId×(Bool×bA)):=[(49,Tryz.spZ4),(57,Tryz.spZ11),(58,Tryz.spZ12),(59,Tryz.spZ13),(60,Tryz.spZ14)]
def Tryz.GB:bU Tryz.prog Tryz.B Tryz.X Tryz.CZ:=
 aU (aK Tryz.zX) (aU (fp (cN Tryz.cL) Tryz.func57 (by kernel_rfl) []) (aU (Tryz.yh) (aU (aK Tryz.sV) (aU (Tryz.ER) (cN Tryz.cL)))))
def Tryz.yi:List (Alt Tryz.bE [.obj 0,.d aA]):=[{bH:=Tryz.bE,res:=[.d .err],out:=fun a x=>(bY x a.1).1,ret:=fun a x=>(aJ (bY x a.1).2,())}]
def Kj(e:D aA)(r:Int)(o:List (D aA))(d:Dk)(hw:gr [.obj 0,.d aA] (e,()))(hp:(fun a x=>(a.1.2.1.length<=1000000/\a.1.2.2.1.length<=1000000)/\x.1.2.1.length<=99/\0<=(x.1.1:Int)/\(x.1.1:Int)<=1000000000/\bO x.2 1000000) (e,()) ((r,o,()),d)):(dW Tryz.B Tryz.CZ Tryz.f17 [] Tryz.bE [.obj 0,.d aA] Tryz.yi (e,()) ((r,o,()),d)).holds:=by
 refine holds_of (p:=
  let za:=aJ (aL e)
  let zb:=d.2.2.2.1=d.2.2.2.1
  let zc:=(r,o,())
  let zd:=bY (zc,d) e
  let ze:=(zc,d)=zd.1
  let zf:=(aJ zd.2,())
  let zg:=ae o
  let zh:=dm o e.1
  let zi:=decide (zh>=0)
  let zj:=ae e.2.1<=1000000/\ae e.2.2.1<=1000000
  let zk:=0<=zh
  let zl:=ae (@af (List UInt8×List (List UInt8×Int×Int×Unit)×List (Int×Int×Int×Unit)×Unit))
  let zm:=zb/\True/\ze/\(aQ.no 2,())=zf
  let zn:=@af (List UInt8×List (List UInt8×Int×Int×Unit)×List (Int×Int×Int×Unit)×Unit)++[e]
  let zo:=0<=r/\r<=1000000000/\bO d 1000000
  let zp:=bV d r zn
  let zq:=zp.1.2.2.2.1
  let zr:=r+1
  let zs:=cc o (ah zh) e
  let zt:=bV d r zs
  let zu:=zt.1.2.2.2.1
  let zv:=o++[e]
  let zw:=bV d r zv
  let zx:=zw.1.2.2.2.1
  True/\((!aQ.isNil za)=true->zb/\True/\ze/\(za,())=zf)/\((!aQ.isNil za)=false->∀F:Bool,(0<zg->F=false)->(F=true->zb/\True/\(True->(zi=true->zj/\(zk/\zh<(↑zl:Int))/\False)/\(zi=false->zl<=aN->(((↑zl:Int) == 3)=true->zm)/\(((↑zl:Int) == 3)=false->zj/\(@af (List UInt8×List (List UInt8×Int×Int×Unit)×List (Int×Int×Int×Unit)×Unit)=@af (List UInt8×List (List UInt8×Int×Int×Unit)×List (Int×Int×Int×Unit)×Unit)/\zl+ae [e]<=1000000000)/\zb/\(ae zn<=100/\zo)/\(True->zq=zq/\True/\(if zp.2=0 then(zr,zn,())else zc,zp.1)=zd.1/\(aJ zp.2,())=zf)))))/\(F=false->zg<=1000000000/\zb/\True/\(True->(zi=true->zj/\(zk/\zh<(↑zg:Int))/\ah zh<zg/\zb/\(ae zs<=100/\zo)/\(True->zu=zu/\True/\(if zt.2=0 then(zr,zs,())else zc,zt.1)=zd.1/\(aJ zt.2,())=zf))/\(zi=false->zg<=aN->(((↑zg:Int) == 3)=true->zm)/\(((↑zg:Int) == 3)=false->zj/\(o=o/\zg+ae [e]<=1000000000)/\zb/\(ae zv<=100/\zo)/\(True->zx=zx/\True/\(if zw.2=0 then(zr,zv,())else zc,zw.1)=zd.1/\(aJ zw.2,())=zf))))))) (by kernel_rfl) ?_
 dsimp -iota -proj -eta only;dsimp only at hp;refine⟨ad,iB (fun h0=>(by rw[sG (cJ h0)];exact⟨rfl,ad,rfl,rfl⟩)) (fun h0 F q_0=>⟨fun h1=>⟨rfl,ad,fun h2=>iE (fun h3=>⟨?a,(by exfalso;have:=sH q_0 h1;subst this;exact nj _ h3),(by have:=sH q_0 h1;subst this;exact nj _ h3)⟩) (fun h3 h4=>⟨fun h5=>absurd (show false=true from h5) (by decide),fun h5=>⟨?b,?c,rfl,?d,fun h6 =>?e⟩⟩)⟩,fun h1=>⟨?f,rfl,ad,fun h2=>iE (fun h3=>⟨?g,⟨by omega,(mw o e.1).1⟩,(by have:=(mw o e.1).1;omega),rfl,?h,fun h4=>(by rw[x8 (x:=((r,o,()),d)) (bK.1 h0) (by omega)];exact⟨rfl,ad,rfl,rfl⟩)⟩) (fun h3 h4=>iQ (fun h5=>(by rw[vu (x:=((r,o,()),d)) (bK.1 h0) (show ¬0<=dm o e.1 by omega) h5];exact⟨rfl,ad,rfl,rfl⟩)) (fun h5=>⟨?i,(by have h99:o.length<=99:=hp.2.1;exact⟨rfl,by rw[bb];omega⟩),rfl,?j,fun h6=>(by rw[tG (x:=((r,o,()),d)) (bK.1 h0) (show ¬0<=dm o e.1 by omega) h5];exact⟨rfl,ad,rfl,rfl⟩)⟩))⟩⟩)⟩
 case a|b|f|g|i=>omega
 case c|d|j=>simp_all
 case e=>
  have ho:=sH q_0 h1;subst ho;rw[tG (x:=((r,[],()),d)) (bK.1 h0) (nj _) (show ¬((([]:List (D aA)).length:Int)=3)from by decide)];exact⟨rfl,ad,rfl,rfl⟩
 case h=>refine⟨?_,hp.2.2.1,hp.2.2.2.1,hp.2.2.2.2⟩;rw[e5];exact aw hp.2.1 (by decide)
def Tryz.C0:cF Tryz.prog Tryz.B.eT Tryz.X 17 false (bF Tryz.bE [.obj 0,.d aA] (fun a x=>(a.1.2.1.length<=1000000/\a.1.2.2.1.length<=1000000)/\x.1.2.1.length<=99/\0<=(x.1.1:Int)/\(x.1.1:Int)<=1000000000/\bO x.2 1000000) Tryz.yi):=
 bN (X:=Tryz.X) Tryz.GB Tryz.func17 (by kernel_rfl) (fun(a:CD [.obj 0,.d aA]) (x:PD Tryz.bE)=>[]) (fun(a:CD [.obj 0,.d aA]) (x:PD Tryz.bE) hw hp=>Kj a.1 x.1.1 x.1.2.1 x.2 hw hp)
def Tryz.IL:List (FuncId×(Bool×bA)):=[(58,Tryz.spZ12),(59,Tryz.spZ13)]
def Tryz.Kk:bU Tryz.prog Tryz.B Tryz.X Tryz.IL:=
 aU (Tryz.yh) (aU (aK Tryz.sV) (cN Tryz.cL))
def Tryz.yj:List (Alt Tryz.bE [.obj 0,.d .str]):=[{bH:=Tryz.bE,res:=[.d aA,.d .bool],out:=fun _ x=>x,ret:=fun a x=>((gz x.1.2.1 a.1).1,(gz x.1.2.1 a.1).2,())}]
def MB(s:List UInt8)(r:Int)(o:List (D aA))(d:Dk)(hw:gr [.obj 0,.d .str] (s,()))(hp:(fun _ x=>∀i,i<x.1.2.1.length->(nth aA x.1.2.1 i).2.1.length<=1000000/\(nth aA x.1.2.1 i).2.2.1.length<=1000000) (s,()) ((r,o,()),d)):(dW Tryz.B Tryz.IL Tryz.f69 [] Tryz.bE [.obj 0,.d .str] Tryz.yj (s,()) ((r,o,()),d)).holds:=by
 refine holds_of (p:=
  let za:=d.2.2.2.1=d.2.2.2.1
  let zb:=dm o s
  let zc:=((r,o,()),d)
  let zd:=((gz o s).1,(gz o s).2,())
  let ze:=nth aA o (ah zb)
  za/\True/\(True->((decide (zb<0))=true->za/\True/\zc=zc/\(([],[],[],()),false,())=zd)/\((decide (zb<0))=false->(0<=zb/\zb<(↑(ae o):Int))/\(ae ze.2.1<=1000000/\ae ze.2.2.1<=1000000)/\za/\True/\zc=zc/\(ze,true,())=zd))) (by kernel_rfl) ?_
 dsimp -iota -proj -eta only;dsimp only at hp;exact⟨rfl,ad,fun h0=>iL (fun h1=>(by rw[H7 (by omega)];exact⟨rfl,ad,rfl,rfl⟩)) (fun h1=>⟨⟨by omega,(mw o s).1⟩,(hp _ (by have:=(mw o s).1;omega)),(by rw[x9 (by omega)];exact⟨rfl,ad,rfl,rfl⟩)⟩)⟩
def Tryz.MC:cF Tryz.prog Tryz.B.eT Tryz.X 69 false (bF Tryz.bE [.obj 0,.d .str] (fun _ x=>∀i,i<x.1.2.1.length->(nth aA x.1.2.1 i).2.1.length<=1000000/\(nth aA x.1.2.1 i).2.2.1.length<=1000000) Tryz.yj):=
 bN (X:=Tryz.X) Tryz.Kk Tryz.func69 (by kernel_rfl) (fun(a:CD [.obj 0,.d .str]) (x:PD Tryz.bE)=>[]) (fun(a:CD [.obj 0,.d .str]) (x:PD Tryz.bE) hw hp=>MB a.1 x.1.1 x.1.2.1 x.2 hw hp)
def Tryz.C1(o:List (D aA)):eo:=[
 (0,fun st=>{X:=Nat,inv:=fun i=>i<=o.length,dx:=fun i=>o.length-i,bX:=fun i=>[(11,sI i),(3,.s (.one (.app .str (dE (o.take i)) (dO st 3))))],aC:=fun i=>[(dO st 3,.tok .str (dE (o.take i)))],keep:=[2,9,10],jq:=[dO st 3]})]
def Tryz.sW:List (Alt Tryz.bE [.obj 0]):=[{bH:=Tryz.bE,res:=[.d (.slice .str)],out:=fun _ x=>x,ret:=fun _ x=>(dE x.1.2.1,())}]
def Kl(r:Int)(o:List (D aA))(d:Dk)(hw:gr [.obj 0] ())(hp:(fun _ x=>x.1.2.1.length<=1000000) () ((r,o,()),d)):(dW (iR Tryz.B [19]) [] Tryz.f53 ((fun(r:Int) (o:List (D aA)) (d:Dk)=>Tryz.C1 o) r o d) Tryz.bE [.obj 0] Tryz.sW () ((r,o,()),d)).holds:=by
 refine holds_of (p:=
  let za:=ae o
  let zb:=fun(F:Nat)=>dE (ag F o)
  let zc:=fun(F:Nat)=>zb F++[(nth aA o F).1]
  let zd:=C.ref 1 0
  let ze:=d.2.2.2.1=d.2.2.2.1
  let zf:=((r,o,()),d)
  za<=aN->(∃(x:Nat),x<=za/\(0=(↑x:Int)/\@af (List UInt8)=dE (ag x o)/\True)/\@af (List UInt8)=dE (ag x o)/\True)/\∀F:Nat,F<=za->((decide ((↑F:Int)<(↑za:Int)))=true->(0<=(↑F:Int)/\(↑F:Int)<(↑za:Int))/\(zb F=zb F/\ae (zb F)+ae [(nth aA o F).1]<=1000000000)/\(aR (↑F:Int)->aR 1->aR ((↑F:Int)+1)/\∃(x':Nat),x'<=za/\za-x'<za-F/\((↑F:Int)+1=(↑x':Int)/\zc F=dE (ag x' o)/\True)/\zc F=dE (ag x' o)/\@af (List UInt8)=@af (List UInt8)/\(zd=zd/\r=r/\o=o/\True)/\(C.aM 2=C.aM 2/\C.aM 3=C.aM 3/\ze/\d.1.1=d.1.1/\d.1.2.1=d.1.2.1/\True)/\d.2.1=d.2.1/\d.2.2.1=d.2.2.1/\ze/\True))/\((decide ((↑F:Int)<(↑za:Int)))=false->ze/\True/\zf=zf/\(zb F,())=(dE o,()))) (by kernel_rfl) ?_
 dsimp -iota -proj -eta only;dsimp only at hp;refine fun h0=>⟨(⟨0,au _,⟨rfl,rfl,ad⟩,rfl,ad⟩),fun F q_0=>iL (fun h1=>⟨(by omega),?a,fun h2 h3=>⟨(by simp only[aR,aN]at*;omega),(⟨F+1,by omega,by omega,⟨by omega,uB (by omega),ad⟩,uB (by omega),(by trivial)⟩)⟩⟩) (fun h1=>(by rw[cd (by omega)];exact⟨rfl,ad,rfl,rfl⟩))⟩
 case a=>refine⟨rfl,?_⟩;rw[w7,ax,bb];have:o.length<=1000000:=hp;omega
def Tryz.C2:cF Tryz.prog Tryz.B.eT Tryz.X 53 false (bF Tryz.bE [.obj 0] (fun _ x=>x.1.2.1.length<=1000000) Tryz.sW):=
 bN (B:=(iR Tryz.B [19])) (X:=Tryz.X) (bU.hint (l:=[19]) (cN Tryz.cL)) Tryz.func53 (by kernel_rfl) (fun(a:CD [.obj 0]) (x:PD Tryz.bE)=>(fun(r:Int) (o:List (D aA)) (d:Dk)=>Tryz.C1 o) x.1.1 x.1.2.1 x.2) (fun(a:CD [.obj 0]) (x:PD Tryz.bE) hw hp=>Kl x.1.1 x.1.2.1 x.2 hw hp)
def Tryz.spZ15:Bool×bA:=(true,dj [.str] [.int .i64,.err] (fun s=>s.length<=281474976710656) (fun s=>gx s))
def Tryz.spZ16:Bool×bA:=(true,dj [.str,.str] [.str,.bool] (fun _=>True) (fun x=>(br x.1 x.2,b8 x.1 x.2)))
def Tryz.spZ17:Bool×bA:=(true,dj [.str,.str] [.str] (fun _=>True) (fun x=>ar x.1 x.2))
def Tryz.spZ18:Bool×bA:=(true,dj [.str,.str] [.slice .str] (fun x=>x.1.length<4294967281/\x.2.length=1) (fun x=>parts (BS x.2) x.1))
def Tryz.xq:List (FuncId×(Bool×bA)):=[(71,Tryz.spZ3),(125,Tryz.spZ15),(130,Tryz.spZ16),(103,Tryz.spZ17),(102,Tryz.spZ18)]
def Tryz.C3:bU Tryz.prog Tryz.B Tryz.X Tryz.xq:=
 aU (aK Tryz.vE) (aU (aK Tryz.CN) (aU (aK Tryz.sP) (aU (aK Tryz.rm) (aU (aK Tryz.CO) (cN Tryz.cL)))))
def xr(l:List (List UInt8)):eo:=[
 (0,fun st=>{X:=Nat,inv:=fun i=>i<=l.length/\∀j,j<i->(dX (nth .str l j)).isNone=false,dx:=fun i=>l.length-i,bX:=fun i=>[(11,sI i),(4,.s (.one (.app (.int .i64) (iV (l.take i)) (dO st 4))))],aC:=fun i=>[(dO st 4,.tok (.int .i64) (iV (l.take i)))],keep:=[9,10],jq:=[dO st 4]})]
def DZ(l:List (List UInt8))(hw:gq [.slice .str] l)(hp:(fun l=>l.length<=1000000/\∀i,(nth .str l i).length<=1000000) l):(eC Tryz.B Tryz.xq Tryz.f104 (xr l) [.slice .str] [.slice (.int .i64),.bool] (fun x y=>y=(fun l=>bG l) x) l).holds:=by
 refine holds_of (p:=
  let za:=ae l
  let zb:=([],false)=bG l
  let zc:=fun(F:Nat)=>iV (ag F l)
  let zd:=fun(F:Nat)=>zc F++[(gx (nth Ty.str l F)).1]
  za<=aN->(∃(x:Nat),(x<=za/\∀(j:Nat),j<x->c6 (dX (nth Ty.str l j))=false)/\(0=(↑x:Int)/\@af Int=iV (ag x l)/\True)/\@af Int=iV (ag x l)/\True)/\∀F:Nat,(F<=za/\∀(j:Nat),j<F->c6 (dX (nth Ty.str l j))=false)->((decide ((↑F:Int)<(↑za:Int)))=true->(0<=(↑F:Int)/\(↑F:Int)<(↑za:Int))/\ae (nth Ty.str l F)<=281474976710656/\((!aQ.isNil (gx (nth Ty.str l F)).2)=true->zb)/\((!aQ.isNil (gx (nth Ty.str l F)).2)=false->True/\((!al (gx (nth Ty.str l F)).1 == nth Ty.str l F)=true->zb)/\((!al (gx (nth Ty.str l F)).1 == nth Ty.str l F)=false->(zc F=zc F/\ae (zc F)+ae [(gx (nth Ty.str l F)).1]<=1000000000)/\(aR (↑F:Int)->aR 1->aR ((↑F:Int)+1)/\∃(x':Nat),(x'<=za/\∀(j:Nat),j<x'->c6 (dX (nth Ty.str l j))=false)/\za-x'<za-F/\((↑F:Int)+1=(↑x':Int)/\zd F=iV (ag x' l)/\True)/\zd F=iV (ag x' l)/\@af Int=@af Int/\True))))/\((decide ((↑F:Int)<(↑za:Int)))=false->(zc F,true)=bG l)) (by kernel_rfl) ?_
 dsimp -iota -proj -eta only;refine fun h0=>⟨(⟨0,⟨au _,fun j hj=>absurd hj (bm _)⟩,⟨rfl,rfl,ad⟩,rfl,ad⟩),fun F q_0=>iL (fun h1=>⟨(by omega),(aw (hp.2 _) (by decide)),iB (fun h2=>(uw (i:=F) (by omega) (by rw[ss,h2];rfl))) (fun h2=>⟨ad,⟨fun h3 =>?a,fun h3=>⟨?b,fun h4 h5=>⟨?c,?d⟩⟩⟩⟩)⟩) (fun h1=>(F6 (i:=F) (by omega) (fun j hj _=>q_0.2 j hj)))⟩
 case a=>
  simp only[bl,reduceCtorEq]at h3;exact uw (i:=F) (by omega) (by rw[ss,decide_eq_false h3];simp)
 case b=>
  simp only[bl,reduceCtorEq]at h3;exact⟨rfl,by unfold iV;simp only[bu,ax,bb];omega⟩
 case c=>
  simp only[bl,reduceCtorEq]at h3;simp only[aR,aN]at*;omega
 case d=>
  simp only[bl,reduceCtorEq]at h3;exact⟨F+1,⟨by omega,kg q_0.2 (by rw[ss,h2,decide_eq_true h3];rfl)⟩,by omega,⟨by omega,(wW (by omega)).symm,ad⟩,(wW (by omega)).symm,(by trivial)⟩
def Tryz.D0:cG Tryz.prog Tryz.B.eT Tryz.X 104 [.slice .str] [.slice (.int .i64),.bool] (fun l=>l.length<=1000000/\∀i,(nth .str l i).length<=1000000) (fun x y=>y=(fun l=>bG l) x):=
 dk (X:=Tryz.X) Tryz.C3 Tryz.func104 (by kernel_rfl) (fun x=>xr x) (fun x hw hp=>DZ x hw hp)
def Tryz.Aa:List (FuncId×(Bool×bA)):=[(71,Tryz.spZ3),(125,Tryz.spZ15),(130,Tryz.spZ16),(103,Tryz.spZ17),(102,Tryz.spZ18),(104,(true,dj [.slice .str] [.slice (.int .i64),.bool] (fun l=>l.length<=1000000/\∀i,(nth .str l i).length<=1000000) (fun l=>bG l))),(105,Tryz.spZ7)]
def Tryz.D1:bU Tryz.prog Tryz.B Tryz.X Tryz.Aa:=
 aU (aK Tryz.vE) (aU (aK Tryz.CN) (aU (aK Tryz.sP) (aU (aK Tryz.rm) (aU (aK Tryz.CO) (aU (aK Tryz.D0) (aU (aK Tryz.CS) (cN Tryz.cL)))))))
def Tryz.Ab(s:List UInt8):eo:=[
 (300004,fun st=>{X:=List Int×Bool,inv:=fun y=>nB (parts 32 (ar s [10])) y,dx:=fun _=>0,bX:=fun y=>[(5,sD (.slice (.int .i64)) y.1),(6,sB y.2)],keep:=[0,2,3,4]}),
 (300005,fun st=>{X:=Bool,inv:=fun c=>c=false↔mu (parts 32 (ar s [10])),dx:=fun _=>0,bX:=fun c=>[(69,sB c)],keep:=[0,2,3,4,5]}),
 (300011,fun st=>{X:=List (List UInt8),inv:=fun x=>ic (parts 32 (ar s [10])) x (ah (lR (.int .i64) st 8)),dx:=fun _=>0,bX:=fun x=>[(9,sD (.slice .str) x)],keep:=[0,2,3,4,5,7,8,82,83,84,85]}),
 (0,fun st=>{X:=Nat,inv:=fun i=>i<=(ah (nth (.int .i64) (lR (.slice (.int .i64)) st 5) 0))+(ah (nth (.int .i64) (lR (.slice (.int .i64)) st 5) 1)),dx:=fun i=>(ah (nth (.int .i64) (lR (.slice (.int .i64)) st 5) 0))+(ah (nth (.int .i64) (lR (.slice (.int .i64)) st 5) 1))-i,bX:=fun i=>[(83,sI i)],aC:=fun i=>[(dO st 7,.cells 40 [.d .str (nth .str (parts 32 (ar s [10])) 0),.app aE (dh cH (parts 32 (ar s [10])) (bg i (ah (nth (.int .i64) (lR (.slice (.int .i64)) st 5) 0)))) (mG st (dO st 7) 1),.app aI (cA cH (parts 32 (ar s [10])) (ah (nth (.int .i64) (lR (.slice (.int .i64)) st 5) 0)) (i-(ah (nth (.int .i64) (lR (.slice (.int .i64)) st 5) 0)))) (mG st (dO st 7) 2)]),(mG st (dO st 7) 1,.tok aE (dh cH (parts 32 (ar s [10])) (bg i (ah (nth (.int .i64) (lR (.slice (.int .i64)) st 5) 0))))),(mG st (dO st 7) 2,.tok aI (cA cH (parts 32 (ar s [10])) (ah (nth (.int .i64) (lR (.slice (.int .i64)) st 5) 0)) (i-(ah (nth (.int .i64) (lR (.slice (.int .i64)) st 5) 0)))))],keep:=[0,2,4,5,7,82],jq:=[dO st 7,mG st (dO st 7) 1,mG st (dO st 7) 2]})]
def IM(s:List UInt8)(hw:gq [.str] s)(hp:(fun s=>s.length<=100000) s):(eC Tryz.B Tryz.Aa Tryz.f68 (Tryz.Ab s) [.str] [aA,.err] (fun x y=>y=(fun s=>eK s) x) s).holds:=by
 refine holds_of (p:=
  let za:=ar s [(10:UInt8)]
  let zb:=parts (32:UInt8) za
  let zc:=ae zb<=aN
  let zd:=(↑(ae zb):Int)
  let ze:=(([],[],[],()),aQ.no (4:Int))=eK s
  let zf:=(0:Int)<=(1:Int)
  let zg:=aj 1 (ag 3 zb)
  let zh:=@af (List UInt8×Int×Int×Unit)=@af (List UInt8×Int×Int×Unit)
  let zi:=@af (Int×Int×Int×Unit)=@af (Int×Int×Int×Unit)
  let zj:=(@af UInt8=@af UInt8/\zh/\zi/\True)/\zi/\zh/\True
  let zk:=mu zb
  let zl:=∃(x':Bool),(x'=false↔zk)/\(true=x'/\True)/\zj
  let zm:=(0:Int)<=(0:Int)
  let zn:=fun(F:List Int×Bool)=>zm/\(0:Int)<(↑(ae F.1):Int)
  let zo:=Ty.int aq
  let zp:=fun(F:List Int×Bool)=>nth zo F.1 0
  let zq:=fun(F:List Int×Bool)=>zf/\(1:Int)<(↑(ae F.1):Int)
  let zr:=fun(F:List Int×Bool)=>nth zo F.1 1
  let zs:=fun(F:List Int×Bool)=>aR (zp F+zr F)
  let zt:=aR (3:Int)
  let zu:=fun(G:Int)=>(3:Int)+G
  let zv:=fun(F:List Int×Bool)=>ah (zp F)
  let zw:=fun(F:List Int×Bool)=>zv F+ah (zr F)
  let zx:=nth Ty.str zb 0
  let zy:=zx=zx
  let zz:=fun(I:Nat)=>aR (↑I:Int)
  let zaa:=fun(I:Nat) (F:List Int×Bool)=>dh cH zb (bg I (zv F))
  let zab:=fun(F:List Int×Bool) (I:Nat)=>cA cH zb (zv F) (I-zv F)
  let zac:=zi/\zh/\zj
  let zad:=fun(K:List (List UInt8))=>(↑(ae K):Int)
  let zae:=fun(K:List (List UInt8))=>aj 1 (ag (ae K) K)
  let zaf:=fun(K:List (List UInt8))=>(bG (zae K)).1
  let zag:=fun(K:List (List UInt8))=>[(nth Ty.str K 0,nth zo (zaf K) 0,nth zo (zaf K) 1,())]
  let zah:=fun(I:Nat)=>(↑I:Int)+(1:Int)
  let zai:=fun(K:List (List UInt8))=>(bG K).1
  let zaj:=fun(K:List (List UInt8))=>(↑(ae (zai K)):Int)
  let zak:=fun(K:List (List UInt8))=>[(nth zo (zai K) 0,nth zo (zai K) 1,nth zo (zai K) 2,())]
  True/\(ae za<4294967281/\ae [(32:UInt8)]=1)/\(zc->((decide (zd<(3:Int)))=true->ze)/\((decide (zd<(3:Int)))=false->((zf/\(1:Int)<=(3:Int)/\(3:Int)<=zd)/\(ae zg<=1000000/\∀(i:Nat),ae (nth Ty.str zg i)<=1000000)/\∃(x':List Int×Bool),nB zb x'/\((bG zg).1=x'.1/\(bG zg).2=x'.2/\True)/\zj)/\∀F:List Int×Bool,nB zb F->(((!F.2)=true->zl)/\((!F.2)=false->zn F/\((decide (zp F<(0:Int)))=true->zl)/\((decide (zp F<(0:Int)))=false->zn F/\((decide (zp F > (6:Int)))=true->zl)/\((decide (zp F > (6:Int)))=false->zq F/\((decide (zr F<(0:Int)))=true->zl)/\((decide (zr F<(0:Int)))=false->zq F/\((decide (zr F > (36:Int)))=true->zl)/\((decide (zr F > (36:Int)))=false->zc->zn F/\zq F/\(aR (zp F)->aR (zr F)->zs F/\∀G:Int,G=(3:Int)*(zp F+zr F)->zt->zs F->aR G/\(zt->aR G->aR (zu G)/\∃(x':Bool),(x'=false↔zk)/\((zd != zu G)=x'/\True)/\zj))))))))/\∀G:Bool,(G=false↔zk)->(G=true->ze)/\(G=false->(zm/\(0:Int)<zd)/\zn F/\zq F/\(aR (zp F)->aR (zr F)->zs F/\(∃(x:Nat),x<=zw F/\((0:Int)=(↑x:Int)/\True)/\(zy/\@af (List UInt8×Int×Int×Unit)=dh cH zb (bg x (zv F))/\@af (Int×Int×Int×Unit)=cA cH zb (zv F) (x-zv F)/\True)/\@af (List UInt8×Int×Int×Unit)=dh cH zb (bg x (zv F))/\@af (Int×Int×Int×Unit)=cA cH zb (zv F) (x-zv F)/\True)/\∀I:Nat,I<=zw F->((decide ((↑I:Int)<zp F+zr F))=true->(∀K:Int,K=(3:Int)*(↑I:Int)->zt->zz I->aR K/\(zt->aR K->aR (zu K)/\∀M:Int,M=(3:Int)*(↑I:Int)->zt->zz I->aR M/\(aR (6:Int)->aR M->aR ((6:Int)+M)/\((0:Int)<=zu K/\zu K<=(6:Int)+M/\(6:Int)+M<=zd)/\∃(x':List (List UInt8)),ic zb x' I/\(aj (ah (zu K)) (ag (ah ((6:Int)+M)) zb)=x'/\True)/\(zy/\zaa I F=zaa I F/\zab F I=zab F I/\True)/\zaa I F=zaa I F/\zab F I=zab F I/\zac)))/\∀K:List (List UInt8),ic zb K I->zn F/\((decide ((↑I:Int)<zp F))=true->(zf/\(1:Int)<=zad K/\zad K<=zad K)/\(ae (zae K)<=1000000/\∀(i:Nat),ae (nth Ty.str (zae K) i)<=1000000)/\((!(bG (zae K)).2)=true->ze)/\((!(bG (zae K)).2)=false->(zm/\(0:Int)<zad K)/\(zm/\(0:Int)<(↑(ae (zaf K)):Int))/\(zf/\(1:Int)<(↑(ae (zaf K)):Int))/\(zaa I F=zaa I F/\ae (zaa I F)+ae (zag K)<=1000000000)/\(zz I->aR (1:Int)->aR (zah I)/\∃(x':Nat),x'<=zw F/\zw F-x'<zw F-I/\(zah I=(↑x':Int)/\True)/\(zy/\zaa I F++zag K=dh cH zb (bg x' (zv F))/\zab F I=cA cH zb (zv F) (x'-zv F)/\True)/\zaa I F++zag K=dh cH zb (bg x' (zv F))/\zab F I=cA cH zb (zv F) (x'-zv F)/\zac)))/\((decide ((↑I:Int)<zp F))=false->(ae K<=1000000/\∀(i:Nat),ae (nth Ty.str K i)<=1000000)/\((!(bG K).2)=true->ze)/\((!(bG K).2)=false->(zm/\(0:Int)<zaj K)/\(zf/\(1:Int)<zaj K)/\((0:Int)<=(2:Int)/\(2:Int)<zaj K)/\(zab F I=zab F I/\ae (zab F I)+ae (zak K)<=1000000000)/\(zz I->aR (1:Int)->aR (zah I)/\∃(x':Nat),x'<=zw F/\zw F-x'<zw F-I/\(zah I=(↑x':Int)/\True)/\(zy/\zaa I F=dh cH zb (bg x' (zv F))/\zab F I++zak K=cA cH zb (zv F) (x'-zv F)/\True)/\zaa I F=dh cH zb (bg x' (zv F))/\zab F I++zak K=cA cH zb (zv F) (x'-zv F)/\zac))))/\((decide ((↑I:Int)<zp F+zr F))=false->True/\((!aQ.isNil (cO (zx,zaa I F,zab F I,())).2)=true->ze)/\((!aQ.isNil (cO (zx,zaa I F,zab F I,())).2)=false->((!(cO (zx,zaa I F,zab F I,())).1 == s)=true->ze)/\((!(cO (zx,zaa I F,zab F I,())).1 == s)=false->((zx,zaa I F,zab F I,()),aQ.nil)=eK s)))))))) (by kernel_rfl) ?_
 dsimp -iota -proj -eta only;refine⟨ad,(by have:=xW s [10];exact⟨by omega,rfl⟩),fun h0=>iL (fun h1=>(B7 (by omega))) (fun h1=>⟨⟨(by trivial),(Lg hp 1 3),(⟨_,Li (by omega),⟨rfl,rfl,ad⟩,(by trivial)⟩)⟩,fun F q_0=>⟨iB (fun h2=>(⟨_,B6 (q_0.2 h2),⟨rfl,ad⟩,(by trivial)⟩)) (fun h2=>⟨?a,iL (fun h3=>(⟨_,B6 (fun hd=>by have k0:=q_0.k0 hd;have:=hd.a0;omega),⟨rfl,ad⟩,(by trivial)⟩)) (fun h3=>⟨?b,iL (fun h4=>(⟨_,B6 (fun hd=>by have k0:=q_0.k0 hd;have:=hd.a6;omega),⟨rfl,ad⟩,(by trivial)⟩)) (fun h4=>⟨?c,iL (fun h5=>(⟨_,B6 (fun hd=>by have k1:=q_0.k1 hd;have:=hd.b0;omega),⟨rfl,ad⟩,(by trivial)⟩)) (fun h5=>⟨?d,iL (fun h6=>(⟨_,B6 (fun hd=>by have k1:=q_0.k1 hd;have:=hd.dN;omega),⟨rfl,ad⟩,(by trivial)⟩)) (fun h6 h7=>⟨?e,?f,fun h8 h9=>⟨?g,fun G q_1 h10 h11=>⟨?h,fun h12 h13=>⟨?i,(⟨_,Mt (q_0.1 h2).2.1 (q_0.1 h2).2.2 (q_0.l0 h2) (q_0.l1 h2) (by omega) (by omega) (by omega) (by omega) q_1,⟨rfl,ad⟩,(by trivial)⟩)⟩⟩⟩⟩)⟩)⟩)⟩)⟩),fun G q_1=>⟨fun h2=>(DI (fun hd=>by rw[q_1.2 hd]at h2;cases h2)),fun h2=>⟨(by omega),?j,?k,fun h3 h4=>⟨?l,(⟨0,au _,⟨rfl,ad⟩,⟨rfl,HM _ _ _,KH _ _ _,ad⟩,HM _ _ _,KH _ _ _,(by trivial)⟩),fun I q_2=>iL (fun h5=>⟨fun K q_3 h6 h7=>⟨?m,fun h8 h9=>⟨?n,fun M q_4 h10 h11=>⟨?o,fun h12 h13=>⟨?p,(by have hd:=(q_1.1 h2);have k0:=q_0.k0 hd;have k1:=q_0.k1 hd;have a0:=hd.a0;have a6:=hd.a6;have b0:=hd.b0;have dN:=hd.dN;have hl:=hd.len;omega),(⟨_,HI q_3 q_4 (by have hd:=(q_1.1 h2);have k0:=q_0.k0 hd;have k1:=q_0.k1 hd;have a0:=hd.a0;have a6:=hd.a6;have b0:=hd.b0;have dN:=hd.dN;have hl:=hd.len;omega),⟨rfl,ad⟩,(by trivial)⟩)⟩⟩⟩⟩,fun K q_3=>⟨?q,iL (fun h6=>⟨?r,(F7 q_3 (pk hp)),iB (fun h7=>(DJ q_3 (by have hd:=(q_1.1 h2);have k0:=q_0.k0 hd;have k1:=q_0.k1 hd;have a0:=hd.a0;have a6:=hd.a6;have b0:=hd.b0;have dN:=hd.dN;have hl:=hd.len;omega) h7)) (fun h7=>⟨?s,?t,?u,⟨rfl,DK (by have hd:=(q_1.1 h2);have k0:=q_0.k0 hd;have k1:=q_0.k1 hd;have a0:=hd.a0;have a6:=hd.a6;have b0:=hd.b0;have dN:=hd.dN;have hl:=hd.len;omega)⟩,fun h8 h9=>⟨?v,(by exact⟨I+1,by have hd:=(q_1.1 h2);have k0:=q_0.k0 hd;have k1:=q_0.k1 hd;have a0:=hd.a0;have a6:=hd.a6;have b0:=hd.b0;have dN:=hd.dN;have hl:=hd.len;omega,by have hd:=(q_1.1 h2);have k0:=q_0.k0 hd;have k1:=q_0.k1 hd;have a0:=hd.a0;have a6:=hd.a6;have b0:=hd.b0;have dN:=hd.dN;have hl:=hd.len;omega,⟨by omega,ad⟩,⟨rfl,zG q_3 h7 (by have hd:=(q_1.1 h2);have k0:=q_0.k0 hd;have k1:=q_0.k1 hd;have a0:=hd.a0;have a6:=hd.a6;have b0:=hd.b0;have dN:=hd.dN;have hl:=hd.len;omega),zH (by have hd:=(q_1.1 h2);have k0:=q_0.k0 hd;have k1:=q_0.k1 hd;have a0:=hd.a0;have a6:=hd.a6;have b0:=hd.b0;have dN:=hd.dN;have hl:=hd.len;omega),ad⟩,zG q_3 h7 (by have hd:=(q_1.1 h2);have k0:=q_0.k0 hd;have k1:=q_0.k1 hd;have a0:=hd.a0;have a6:=hd.a6;have b0:=hd.b0;have dN:=hd.dN;have hl:=hd.len;omega),zH (by have hd:=(q_1.1 h2);have k0:=q_0.k0 hd;have k1:=q_0.k1 hd;have a0:=hd.a0;have a6:=hd.a6;have b0:=hd.b0;have dN:=hd.dN;have hl:=hd.len;omega),(by trivial)⟩)⟩⟩)⟩) (fun h6=>⟨(HJ q_3 (pk hp)),iB (fun h7=>(Ca q_3 (by have hd:=(q_1.1 h2);have k0:=q_0.k0 hd;have k1:=q_0.k1 hd;have a0:=hd.a0;have a6:=hd.a6;have b0:=hd.b0;have dN:=hd.dN;have hl:=hd.len;omega) (by have hd:=(q_1.1 h2);have k0:=q_0.k0 hd;have k1:=q_0.k1 hd;have a0:=hd.a0;have a6:=hd.a6;have b0:=hd.b0;have dN:=hd.dN;have hl:=hd.len;omega) h7)) (fun h7=>⟨?w,?x,?y,⟨rfl,HO (by have hd:=(q_1.1 h2);have k0:=q_0.k0 hd;have k1:=q_0.k1 hd;have a0:=hd.a0;have a6:=hd.a6;have b0:=hd.b0;have dN:=hd.dN;have hl:=hd.len;omega)⟩,fun h8 h9=>⟨?z,(by exact⟨I+1,by have hd:=(q_1.1 h2);have k0:=q_0.k0 hd;have k1:=q_0.k1 hd;have a0:=hd.a0;have a6:=hd.a6;have b0:=hd.b0;have dN:=hd.dN;have hl:=hd.len;omega,by have hd:=(q_1.1 h2);have k0:=q_0.k0 hd;have k1:=q_0.k1 hd;have a0:=hd.a0;have a6:=hd.a6;have b0:=hd.b0;have dN:=hd.dN;have hl:=hd.len;omega,⟨by omega,ad⟩,⟨rfl,wZ (by have hd:=(q_1.1 h2);have k0:=q_0.k0 hd;have k1:=q_0.k1 hd;have a0:=hd.a0;have a6:=hd.a6;have b0:=hd.b0;have dN:=hd.dN;have hl:=hd.len;omega),Cc q_3 h7 (by have hd:=(q_1.1 h2);have k0:=q_0.k0 hd;have k1:=q_0.k1 hd;have a0:=hd.a0;have a6:=hd.a6;have b0:=hd.b0;have dN:=hd.dN;have hl:=hd.len;omega),ad⟩,wZ (by have hd:=(q_1.1 h2);have k0:=q_0.k0 hd;have k1:=q_0.k1 hd;have a0:=hd.a0;have a6:=hd.a6;have b0:=hd.b0;have dN:=hd.dN;have hl:=hd.len;omega),Cc q_3 h7 (by have hd:=(q_1.1 h2);have k0:=q_0.k0 hd;have k1:=q_0.k1 hd;have a0:=hd.a0;have a6:=hd.a6;have b0:=hd.b0;have dN:=hd.dN;have hl:=hd.len;omega),(by trivial)⟩)⟩⟩)⟩)⟩⟩) (fun h5=>⟨ad,iB (fun h6 =>?a0) (fun h6=>⟨fun h7 =>?a1,fun h7 =>?a2⟩)⟩)⟩⟩⟩⟩⟩)⟩
 case a|b|c|d|e|f=>rw[(q_0.1 h2).1];simp
 case g|h|i|v=>simp only[aR,aN]at*;omega
 case j|k|q=>rw[q_0.get (q_1.1 h2)];simp
 case l|m|n|o|p|z=>have hd:=(q_1.1 h2);have k0:=q_0.k0 hd;have k1:=q_0.k1 hd;have a0:=hd.a0;have a6:=hd.a6;have b0:=hd.b0;have dN:=hd.dN;have hl:=hd.len;simp only[aR]at*;omega
 case r|s=>rw[q_3.len];simp
 case t|u=>rw[zF q_3 h7];simp
 case w|x|y=>rw[B9 q_3 h7];simp
 case a0=>
  rw[Cd (a:=ah (nth (.int .i64) F.1 0)) (b:=ah (nth (.int .i64) F.1 1)) (by have hd:=(q_1.1 h2);have k0:=q_0.k0 hd;have k1:=q_0.k1 hd;have a0:=hd.a0;have a6:=hd.a6;have b0:=hd.b0;have dN:=hd.dN;have hl:=hd.len;omega)]at h6;exact uz (by have hd:=(q_1.1 h2);have k0:=q_0.k0 hd;have k1:=q_0.k1 hd;have a0:=hd.a0;have a6:=hd.a6;have b0:=hd.b0;have dN:=hd.dN;have hl:=hd.len;omega) (by have hd:=(q_1.1 h2);have k0:=q_0.k0 hd;have k1:=q_0.k1 hd;have a0:=hd.a0;have a6:=hd.a6;have b0:=hd.b0;have dN:=hd.dN;have hl:=hd.len;omega) (.inl h6)
 case a1=>
  simp only[bl,reduceCtorEq]at h7;rw[Cd (a:=ah (nth (.int .i64) F.1 0)) (b:=ah (nth (.int .i64) F.1 1)) (by have hd:=(q_1.1 h2);have k0:=q_0.k0 hd;have k1:=q_0.k1 hd;have a0:=hd.a0;have a6:=hd.a6;have b0:=hd.b0;have dN:=hd.dN;have hl:=hd.len;omega)]at h7;exact uz (by have hd:=(q_1.1 h2);have k0:=q_0.k0 hd;have k1:=q_0.k1 hd;have a0:=hd.a0;have a6:=hd.a6;have b0:=hd.b0;have dN:=hd.dN;have hl:=hd.len;omega) (by have hd:=(q_1.1 h2);have k0:=q_0.k0 hd;have k1:=q_0.k1 hd;have a0:=hd.a0;have a6:=hd.a6;have b0:=hd.b0;have dN:=hd.dN;have hl:=hd.len;omega) (.inr h7)
 case a2=>
  simp only[bl,reduceCtorEq]at h7;exact HF h6 h7
def Tryz.IN:cG Tryz.prog Tryz.B.eT Tryz.X 68 [.str] [aA,.err] (fun s=>s.length<=100000) (fun x y=>y=(fun s=>eK s) x):=
 dk (X:=Tryz.X) Tryz.D1 Tryz.func68 (by kernel_rfl) (fun x=>Tryz.Ab x) (fun x hw hp=>IM x hw hp)
def Tryz.LF:cG Tryz.prog Tryz.B.eT Tryz.X 101 [.str,.str,.int .i64,.int .i64] [.slice .str] (fun x=>x.1.length<4294967281/\x.2.1.length=1/\x.2.2.1=(1:Int)/\x.2.2.2=(-1:Int)) (fun x y=>y=cU (BS x.2.1) x.1):=by
 refine⟨⟨Tryz.f101,Tryz.func101,by kernel_rfl,by kernel_rfl⟩,fun O w x vs hG hO ha hp =>?_⟩;obtain⟨s,p,sv,n⟩:=x;obtain⟨hs,hp,hsv,hn⟩:=hp;obtain⟨c,rfl⟩:∃c,p=[c]:=cp.1 hp
 obtain⟨v,vs',rfl,hv,u,vs2,rfl,hu,t,vs3,rfl,ht,z,hz⟩:=ha;obtain⟨rfl,hz⟩:=hz;obtain⟨rfl,hl⟩:=kv hv;obtain⟨rfl,_⟩:=kv hu;have et:t=.int .i64 1:=by obtain⟨e,_⟩:=ht.one rfl;simp at e;rw[e,show sv=(1:Int)from hsv]
 have ez:z=.int .i64 (-1):=by obtain⟨e,_⟩:=hz.one rfl;simp at e;rw[e,show n=(-1:Int)from hn]
 subst et;subst ez;obtain⟨m,hm⟩:=hG.max;have hsz:(⟨s.toArray⟩:ByteArray).size=s.length:=by simp[ca]
 have h1:1<=(⟨#[c]⟩:ByteArray).size:=az 1;have hlen:=ds ⟨#[c]⟩ h1 1 _ ⟨s.toArray⟩ rfl;have hdat:=dT ⟨#[c]⟩ 1 (ak ⟨s.toArray⟩ ⟨#[c]⟩) ⟨s.toArray⟩;have hcb:=Lib.countB_le ⟨#[c]⟩ h1 _ ⟨s.toArray⟩ (az _);have hcall:Calls Tryz.prog 101 #[.string ⟨s.toArray⟩,.string ⟨#[c]⟩,.int .i64 1,.int .i64 (-1)] w fun e w'=>
   e=.returned (.slice (some ⟨w.heap.size,0,none⟩) (ay ⟨#[c]⟩ 1 (ak ⟨s.toArray⟩ ⟨#[c]⟩ +1-1) ⟨s.toArray⟩).length (ak ⟨s.toArray⟩ ⟨#[c]⟩ +1))/\w'=w.alloc (.cells (Lib.cellsOf (ay ⟨#[c]⟩ 1 (ak ⟨s.toArray⟩ ⟨#[c]⟩ +1-1) ⟨s.toArray⟩) (ak ⟨s.toArray⟩ ⟨#[c]⟩ +1)) 9):=Any.strings_genSplit {Tryz.EM with} (by kernel_rfl) ⟨s.toArray⟩ ⟨#[c]⟩ 1 (-1) (ak ⟨s.toArray⟩ ⟨#[c]⟩ +1) m w (by rw[hsz];exact hs) hm h1 (az 1) (by decide) (by decide) (by rw[if_pos (by decide)];omega)
 rw[Nat.add_sub_cancel,hlen]at hcall;have e2:Lib.cellsOf (ay ⟨#[c]⟩ 1 (ak ⟨s.toArray⟩ ⟨#[c]⟩) ⟨s.toArray⟩) (ak ⟨s.toArray⟩ ⟨#[c]⟩ +1)=((ay ⟨#[c]⟩ 1 (ak ⟨s.toArray⟩ ⟨#[c]⟩) ⟨s.toArray⟩).map bt).toArray:=by rw[<-hlen];exact Lib.cellsOf_full _
 rw[e2]at hcall;refine hcall.mono ?_;rintro e w' ⟨rfl,rfl⟩;have hd:(ay ⟨#[c]⟩ 1 (ak ⟨s.toArray⟩ ⟨#[c]⟩) ⟨s.toArray⟩).map (·.data.toList)=cU c s:=hdat;have hlf:(cU c s).length=ak ⟨s.toArray⟩ ⟨#[c]⟩ +1:=by rw[<-hd,bu,hlen]
 refine⟨[_],cU c s,rfl,rfl,⟨_,rfl,VR.bQ rfl ⟨_,rfl,?_,.inr ⟨w.heap.size,0,ak ⟨s.toArray⟩ ⟨#[c]⟩ +1,by rw[hlf],by rw[hlf];exact az _,fun i y hy =>?_⟩⟩⟩,(Vg.Below.refl _ w).alloc (az _) _⟩
 ·rw[hlf];have hs:s.length<4294967281:=hs;rw[hsz]at hcb;unfold aN;omega
 ·have hyl:=zP c s y (ed hy)
  refine⟨[.string ⟨y.toArray⟩],⟨rfl,aw hyl hl⟩,fun j u hj=>⟨?_,fun hh =>?_⟩⟩
  ·have hj0:j=0:=by
    rcases j with _|j
    ·rfl
    ·simp at hj
   subst hj0;simp at hj;subst hj;rw[<-hd,List.getElem?_map,b6]at hy;obtain⟨q,hq,rfl⟩:=hy;have hh:(w.alloc (.cells ((ay ⟨#[c]⟩ 1 (ak ⟨s.toArray⟩ ⟨#[c]⟩) ⟨s.toArray⟩).map bt).toArray 9)).heap[w.heap.size]?=some (.cells ((ay ⟨#[c]⟩ 1 (ak ⟨s.toArray⟩ ⟨#[c]⟩) ⟨s.toArray⟩).map bt).toArray 9 (0,0)):=heap_alloc_new w _;rw[bc hh];simp only[Ty.size,Nat.mul_one,Nat.zero_add,cq,List.getElem?_toArray,List.getElem?_map,hq,ef]
  ·have:=hO _ _ hh
   simp at this
def Tryz.rn:List (FuncId×(Bool×bA)):=[(101,(true,dj [.str,.str,.int .i64,.int .i64] [.slice .str] (fun x=>x.1.length<4294967281/\x.2.1.length=1/\x.2.2.1=(1:Int)/\x.2.2.2=(-1:Int)) (fun x=>cU (BS x.2.1) x.1)))]
def Tryz.xu:bU Tryz.prog Tryz.B Tryz.X Tryz.rn:=
 aU (aK Tryz.LF) (cN Tryz.cL)
def yk(s:List UInt8)(p:List UInt8)(hw:gq [.str,.str] (s,p))(hp:(fun x=>x.1.length<4294967281/\x.2.length=1) (s,p)):(eC Tryz.B Tryz.rn Tryz.f67 [] [.str,.str] [.slice .str] (fun x y=>y=(fun x=>cU (BS x.2) x.1) x) (s,p)).holds:=by
 refine holds_of (p:=
  let za:=ae p
  let zb:=cU (List.rec 0 (fun(head:UInt8) (tail:List UInt8) (tail_ih:UInt8)=>head) p) s
  za<=aN->(ae s<4294967281/\za=1/\(↑za:Int)=1/\(-1:Int)=(-1:Int))/\zb=zb) (by kernel_rfl) ?_
 dsimp -iota -proj -eta only;dsimp only at hp;exact fun h0=>⟨(by omega),rfl⟩
def Tryz.yl:cG Tryz.prog Tryz.B.eT Tryz.X 67 [.str,.str] [.slice .str] (fun x=>x.1.length<4294967281/\x.2.length=1) (fun x y=>y=(fun x=>cU (BS x.2) x.1) x):=
 dk (X:=Tryz.X) Tryz.xu Tryz.func67 (by kernel_rfl) (fun _=>[]) (fun x hw hp=>yk x.1 x.2 hw hp)
def Tryz.spZ19:Bool×bA:=(false,bF Tryz.aT [.obj 0] (fun _ _=>True) Tryz.pn)
def Tryz.Ac:List (FuncId×(Bool×bA)):=[(64,Tryz.spZ19),(90,Tryz.spZ9),(91,Tryz.spZ10),(92,Tryz.spZ8)]
def Tryz.D2:bU Tryz.prog Tryz.B Tryz.X Tryz.Ac:=
 aU (Tryz.kK) (aU (Tryz.nn) (aU (Tryz.np) (aU (aK Tryz.CW) (cN Tryz.cL))))
def Tryz.q9:List (Alt Tryz.aT [.obj 0]):=[{bH:=Tryz.aT,res:=[.d .err],out:=fun _ x=>(fm x).1,ret:=fun _ x=>(aJ (fm x).2,())}]
def IP(d:Dk)(hw:gr [.obj 0] ())(hp:(fun _ x=>bO x 1000000) () d):(dW Tryz.B Tryz.Ac Tryz.f55 [] Tryz.aT [.obj 0] Tryz.q9 () d).holds:=by
 refine holds_of (p:=
  let za:=d.2.2.2.1
  let zb:=za=za
  let zc:=(fm d).1
  let zd:=(aJ (fm d).2,())
  let ze:=(-1:Int)
  let zf:=bB d 1 (@af UInt8)
  let zg:=aQ.isNil (aJ zf.2)
  let zh:=zf.1.2.2.2.1
  let zi:=zh=zh
  let zj:=ze<=zf.1.1.1
  let zk:=zj/\ae zf.1.2.1=ae zf.1.2.2.1
  let zl:=aJ (bC zf.1).2
  let zm:=(bC zf.1).1
  let zn:=zm.2.2.2.1
  let zo:=zn=zn
  let zp:=ze<=zm.1.1
  let zq:=cV 2 0
  let zr:=bB zm 0 zq
  let zs:=zr.1.2.2.2.1
  let zt:=(bC zr.1).1
  let zu:=(bC zm).1.2.2.2.1
  let zv:=zo/\True/\zm=zc/\(zl,())=zd
  let zw:=bB zf.1 0 zq
  let zx:=zw.1.2.2.2.1
  let zy:=(bC zw.1).1
  zb/\True/\(True->((decide ((↑(ae d.2.2.1):Int)<112))=true->zb/\True/\d=zc/\(aQ.no 8,())=zd)/\((decide ((↑(ae d.2.2.1):Int)<112))=false->zb/\(ze<=d.1.1/\ae za<=900000000)/\(True->(zg=true->zi/\zk/\(True->((aQ.isNil zl)=true->True/\zo/\(zp/\ae zn<=900000000)/\(True->((aQ.isNil (aJ zr.2))=true->zs=zs/\(ze<=zr.1.1.1/\ae zr.1.2.1=ae zr.1.2.2.1)/\(True->zt.2.2.2.1=zt.2.2.2.1/\True/\zt=zc/\(aJ (bC zr.1).2,())=zd))/\((aQ.isNil (aJ zr.2))=false->zs=zs/\True/\zr.1=zc/\(aJ zr.2,())=zd)))/\((aQ.isNil zl)=false->((aQ.isNil zl)=true->zo/\(zp/\ae zm.2.1=ae zm.2.2.1)/\(True->zu=zu/\True/\(bC zm).1=zc/\(aJ (bC zm).2,())=zd))/\((aQ.isNil zl)=false->zv))))/\(zg=false->(zg=true->True/\zi/\(zj/\ae zh<=900000000)/\(True->((aQ.isNil (aJ zw.2))=true->zx=zx/\(ze<=zw.1.1.1/\ae zw.1.2.1=ae zw.1.2.2.1)/\(True->zy.2.2.2.1=zy.2.2.2.1/\True/\zy=zc/\(aJ (bC zw.1).2,())=zd))/\((aQ.isNil (aJ zw.2))=false->zx=zx/\True/\zw.1=zc/\(aJ zw.2,())=zd)))/\(zg=false->(zg=true->zi/\zk/\(True->zv))/\(zg=false->zi/\True/\zf.1=zc/\(aJ zf.2,())=zd))))))) (by kernel_rfl) ?_
 dsimp -iota -proj -eta only;refine⟨rfl,ad,fun h0=>iL (fun h1=>(by rw[iY,Lm h1];exact⟨rfl,ad,rfl,rfl⟩)) (fun h1=>⟨rfl,⟨hp.gB,aw hp.gT (by decide)⟩,fun h2=>⟨fun h3=>⟨rfl,(by have f:=iX hp 1 [];exact⟨f.gB,f.len⟩),fun h4=>⟨fun h5=>⟨ad,rfl,(by have f:=nI (iX hp 1 []);exact⟨f.gB,aw f.gT (by decide)⟩),fun h6=>⟨fun h7=>⟨rfl,(by have f:=iX (nI (iX hp 1 [])) 0 (cV 2 0);exact⟨f.gB,f.len⟩),fun h8=>(by rw[iY,MQ (by omega) (bK.1 h3) (bK.1 h5) (bK.1 h7)];exact⟨rfl,ad,rfl,rfl⟩)⟩,fun h7=>(by rw[iY,MP (by omega) (bK.1 h3) (bK.1 h5) (cJ h7)];exact⟨rfl,ad,rfl,rfl⟩)⟩⟩,fun h5=>⟨fun h6=>⟨rfl,?a,fun h7 =>?b⟩,fun h6=>(by rw[iY,MO (by omega) (bK.1 h3) (cJ h5)];exact⟨rfl,ad,rfl,rfl⟩)⟩⟩⟩,fun h3=>⟨fun h4=>⟨ad,rfl,?c,fun h5=>⟨fun h6=>⟨rfl,?d,fun h7 =>?e⟩,fun h6 =>?f⟩⟩,fun h4=>⟨fun h5=>⟨rfl,?g,fun h6 =>?h⟩,fun h5=>(by rw[iY,MN (by omega) (cJ h3)];exact⟨rfl,ad,rfl,rfl⟩)⟩⟩⟩⟩)⟩
 case a|b|c|d|e|f|g|h=>simp_all
def Tryz.IQ:cF Tryz.prog Tryz.B.eT Tryz.X 55 false (bF Tryz.aT [.obj 0] (fun _ x=>bO x 1000000) Tryz.q9):=
 bN (X:=Tryz.X) Tryz.D2 Tryz.func55 (by kernel_rfl) (fun(a:CD [.obj 0]) (x:PD Tryz.aT)=>[]) (fun(a:CD [.obj 0]) (x:PD Tryz.aT) hw hp=>IP x hw hp)
def Tryz.spZ20:Bool×bA:=(false,bF Tryz.aT [.obj 0] (fun _ _=>True) Tryz.vJ)
def Tryz.ES:List (FuncId×(Bool×bA)):=[(63,Tryz.spZ20),(64,Tryz.spZ19),(65,(false,fS Tryz.B [] Tryz.f65 [])),(66,(true,mn [.str] [.int .i64] (fun s=>4<=s.length) (fun s y=>(y:Int)=fl s))),(67,(true,dj [.str,.str] [.slice .str] (fun x=>x.1.length<4294967281/\x.2.length=1) (fun x=>cU (BS x.2) x.1))),(68,(true,dj [.str] [aA,.err] (fun s=>s.length<=100000) (fun s=>eK s)))]
def Tryz.IS:bU Tryz.prog Tryz.B Tryz.X Tryz.ES:=
 aU (Tryz.q8) (aU (Tryz.kK) (aU (fp (cN Tryz.cL) Tryz.func65 (by kernel_rfl) []) (aU (gi Tryz.II) (aU (aK Tryz.yl) (aU (aK Tryz.IN) (cN Tryz.cL))))))
def Tryz.ET(d:Dk):eo:=[
 (0,fun st=>{X:=Nat,inv:=fun i=>i<=2,dx:=fun i=>2-i,bX:=fun i=>[(29,sI i),(5,sI (dt d i).2)],aC:=fun i=>[(dO st 4,.cells 126 [.ref 0 0,.d (.int .i64) (dt d i).1,.app aA [] (mG st (dO st 4) 2)])],keep:=[0,4],jq:=[dO st 4]}),
 (2,fun st=>{X:=Nat,inv:=fun i=>i<=55,dx:=fun i=>55-i,bX:=fun i=>[(74,sI i),(11,sS (fq d (gU d) i))],keep:=[0,4,5]}),
 (4,fun st=>{X:=Nat,inv:=fun i=>i<=ae (cS d)/\∀j,j<i->nth .str (cS d) j=[]\/(eK (nth .str (cS d) j)).2.isNil=true,dx:=fun i=>ae (cS d)-i,bX:=fun i=>[(103,sI i)],aC:=fun i=>[(dO st 4,.cells 126 [.ref 0 0,.d (.int .i64) (dt d 2).1,.app aA (gv ((cS d).take i)) (mG st (dO st 4) 2)]),(mG st (dO st 4) 2,.tok aA (gv ((cS d).take i)))],keep:=[4,101,102],jq:=[dO st 4,mG st (dO st 4) 2]})]
def Tryz.vN:List (Alt Tryz.aT [.obj 0]):=[
 {bH:=Tryz.aT,res:=[.eS,.d .err],ok:=fun _ x=>(aX x).2≠0,out:=fun _ x=>x,ret:=fun _ x=>(aJ (aX x).2,())},
 {bH:=Tryz.aT++[.box 126 [.obj 0,.d (.int .i64),.d (.slice aA)]],res:=[.obj 4,.d .err],ok:=fun _ x=>(aX x).2=0,out:=fun _ x=>(x.1,x.2.1,x.2.2.1,x.2.2.2.1,((aX x).1.1,(aX x).1.2,()),()),ret:=fun _ _=>(aQ.nil,())}]
def LG(d:Dk)(hw:gr [.obj 0] ())(hp:(fun _ x=>bO x 1000000/\∀i,i<x.2.2.1.length->(nth .str x.2.2.1 i).length=64) () d):(dW Tryz.B Tryz.ES Tryz.f23 (Tryz.ET d) Tryz.aT [.obj 0] Tryz.vN () d).holds:=by
 refine holds_of (p:=
  let za:=d.2.2.2.1
  let zb:=za=za
  let zc:=d.1.2.1
  let zd:=(aX d).2
  let ze:=zd≠(0:Int)
  let zf:=d=d
  let zg:=(aJ zd,())
  let zh:=zb/\ze/\zf/\(aQ.no (9:Int),())=zg
  let zi:=d.2.2.1
  let zj:=ae zi
  let zk:=(↑zj:Int)
  let zl:=zb/\ze/\zf/\(aQ.no (4:Int),())=zg
  let zm:=C.ref 0 0
  let zn:=zm=zm
  let zo:=@af (List UInt8×List (List UInt8×Int×Int×Unit)×List (Int×Int×Int×Unit)×Unit)=@af (List UInt8×List (List UInt8×Int×Int×Unit)×List (Int×Int×Int×Unit)×Unit)
  let zp:=zo/\True
  let zq:=fun(F:Nat)=>(↑F:Int)
  let zr:=!aQ.isNil (aQ.no (9:Int))
  let zs:=(0:Int)<=(1:Int)
  let zt:=(1:Int)<=(5:Int)
  let zu:=ae (@af UInt8)
  let zv:=(↑zu:Int)
  let zw:=(0:Int)<=(5:Int)
  let zx:=(5:Int)<=(9:Int)
  let zy:=aj 1 (ag 5 (@af UInt8))
  let zz:=aj 5 (ag 9 (@af UInt8))
  let zaa:=(0:Int)<=(0:Int)
  let zab:=fun(F:Nat)=>(dt d F).1
  let zac:=fun(F:Nat)=>aR (zq F)
  let zad:=aR (1:Int)
  let zae:=fun(F:Nat)=>zq F+(1:Int)
  let zaf:=fun(F:Nat)=>aR (zae F)
  let zag:=d.2.1
  let zah:=(C.aM 1=C.aM 1/\C.aM 2=C.aM 2/\zb/\d.1.1=d.1.1/\zc=zc/\True)/\zag=zag/\zi=zi/\zb/\True
  let zai:=zo/\zah
  let zaj:=fun(F:Nat)=>zac F->zad->zaf F/\∃(x':Nat),x'<=2/\2-x'<2-F/\(zae F=(↑x':Int)/\(dt d F).2=(dt d x').2/\True)/\(zn/\zab F=(dt d x').1/\zp)/\zai
  let zak:=fun(G:Int) (F:Nat) (I:Int)=>((decide (G > zab F))=true->((decide (I<=(3520:Int)))=true->zac F->zad->zaf F/\∃(x':Nat),x'<=2/\2-x'<2-F/\(zae F=(↑x':Int)/\I=(dt d x').2/\True)/\(zn/\G=(dt d x').1/\zp)/\zai)/\((decide (I<=(3520:Int)))=false->zaj F))/\((decide (G > zab F))=false->zaj F)
  let zal:=fun(F:Nat)=>(zs/\zt/\(5:Int)<=zv)/\(zw/\zx/\(9:Int)<=zv)/\4<=ae zy/\∀G:Int,G=fl zy->4<=ae zz/\∀I:Int,I=fl zz->(zaa/\(0:Int)<zv)/\(((↑(av (cM (@af UInt8) 0)):Int) == (83:Int))=true->zak G F I)/\(((↑(av (cM (@af UInt8) 0)):Int) == (83:Int))=false->zaj F)
  let zam:=!aQ.isNil (aQ.no (1:Int))
  let zan:=zb/\ze/\zf/\(aQ.no (1:Int),())=zg
  let zao:=fun(F:Nat)=>(zam=true->zan)/\(zam=false->zal F)
  let zap:=!aQ.isNil aQ.nil
  let zaq:=zb/\ze/\zf/\(aQ.nil,())=zg
  let zar:=fun(F:Nat)=>nth Ty.str zi F
  let zas:=fun(F:Nat)=>(↑(ae (zar F)):Int)
  let zat:=fun(F:Nat)=>aj 1 (ag 5 (zar F))
  let zau:=fun(F:Nat)=>aj 5 (ag 9 (zar F))
  let zav:=gU d
  let zaw:=fun(K:Int) (G:Nat)=>(2:Int)+K+zq G
  let zax:=fun(G:Nat)=>fq d zav G
  let zay:=fun(F:Nat)=>(zn/\zab F=zab F/\zp)/\zai
  let zaz:=fun(G:Nat) (F:Nat)=>ae (zax G)+zu<=aN/\(zac G->zad->zaf G/\∃(x':Nat),x'<=55/\55-x'<55-G/\(zae G=(↑x':Int)/\zax G++ @af UInt8=fq d zav x'/\True)/\zay F)
  let zba:=fun(G:Nat) (F:Nat)=>(zam=true->zan)/\(zam=false->zaz G F)
  let zbb:=fun(F G:Nat)=>aj 0 (ag (ah (dt d F).2) (zax G))
  let zbc:=cS d
  let zbd:=ae zbc
  let zbe:=(dt d 2).1
  let zbf:=fun(F G I:Nat)=>nth Ty.str (cU (10:UInt8) (zbb F G)) I
  let zbg:=fun(I:Nat)=>gv (ag I zbc)
  zb/\True/\(True->(zc=true->zh)/\(zc=false->zb/\True/\(True->((decide (zk<(112:Int)))=true->zl)/\((decide (zk<(112:Int)))=false->(∃(x:Nat),x<=2/\((0:Int)=(↑x:Int)/\(0:Int)=(dt d x).2/\True)/\(zn/\(0:Int)=(dt d x).1/\zp)/\True)/\∀F:Nat,F<=2->((decide (zq F<(2:Int)))=true->(zc=true->(zr=true->zh)/\(zr=false->zal F))/\(zc=false->((decide (zq F<(0:Int)))=true->zao F)/\((decide (zq F<(0:Int)))=false->zj<=aN->((decide (zq F>=zk))=true->zao F)/\((decide (zq F>=zk))=false->((0:Int)<=zq F/\zq F<zk)/\F<zj/\(zap=true->zaq)/\(zap=false->(zs/\zt/\(5:Int)<=zas F)/\(zw/\zx/\(9:Int)<=zas F)/\4<=ae (zat F)/\∀G:Int,G=fl (zat F)->4<=ae (zau F)/\∀I:Int,I=fl (zau F)->(zaa/\(0:Int)<zas F)/\(((↑(av (cM (zar F) 0)):Int) == (83:Int))=true->zak G F I)/\(((↑(av (cM (zar F) 0)):Int) == (83:Int))=false->zaj F))))))/\((decide (zq F<(2:Int)))=false->((zab F == (0:Int))=true->zl)/\((zab F == (0:Int))=false->(∃(x:Nat),x<=55/\((0:Int)=(↑x:Int)/\@af UInt8=fq d zav x/\True)/\True)/\∀G:Nat,G<=55->((decide (zq G<(55:Int)))=true->(2:Int)≠(0:Int)/\∀I:Int,I=b4 (zab F) (2:Int)->∀K:Int,K=I*(55:Int)->aR I->aR (55:Int)->aR K/\(aR (2:Int)->aR K->aR ((2:Int)+K)/\(aR ((2:Int)+K)->zac G->aR (zaw K G)/\(zc=true->(zr=true->zh)/\(zr=false->zaz G F))/\(zc=false->((decide (zaw K G<(0:Int)))=true->zba G F)/\((decide (zaw K G<(0:Int)))=false->zj<=aN->((decide (zaw K G>=zk))=true->zba G F)/\((decide (zaw K G>=zk))=false->((0:Int)<=zaw K G/\zaw K G<zk)/\ah (zaw K G)<zj/\(zap=true->zaq)/\(zap=false->ae (zax G)+ae (nth Ty.str zi (ah (zaw K G)))<=aN/\(zac G->zad->zaf G/\∃(x':Nat),x'<=55/\55-x'<55-G/\(zae G=(↑x':Int)/\zax G++nth Ty.str zi (ah (zaw K G))=fq d zav x'/\True)/\zay F))))))))/\((decide (zq G<(55:Int)))=false->(zaa/\(0:Int)<=(dt d F).2/\(dt d F).2<=(↑(ae (zax G)):Int))/\(ae (zbb F G)<4294967281/\ae [(10:UInt8)]=1)/\(ae (cU (10:UInt8) (zbb F G))<=aN->(∃(x:Nat),(x<=zbd/\∀(j:Nat),j<x->nth Ty.str zbc j=@af UInt8\/aQ.isNil (aJ (lk (nth Ty.str zbc j)).2)=true)/\((0:Int)=(↑x:Int)/\True)/\(zn/\zab F=zbe/\@af (List UInt8×List (List UInt8×Int×Int×Unit)×List (Int×Int×Int×Unit)×Unit)=gv (ag x zbc)/\True)/\@af (List UInt8×List (List UInt8×Int×Int×Unit)×List (Int×Int×Int×Unit)×Unit)=gv (ag x zbc)/\True)/\∀I:Nat,(I<=zbd/\∀(j:Nat),j<I->nth Ty.str zbc j=@af UInt8\/aQ.isNil (aJ (lk (nth Ty.str zbc j)).2)=true)->((decide (zq I<(↑(ae (cU (10:UInt8) (zbb F G))):Int)))=true->((0:Int)<=zq I/\zq I<(↑(ae (cU (10:UInt8) (zbb F G))):Int))/\((zbf F G I == @af UInt8)=true->zac I->zad->zaf I/\∃(x':Nat),(x'<=zbd/\∀(j:Nat),j<x'->nth Ty.str zbc j=@af UInt8\/aQ.isNil (aJ (lk (nth Ty.str zbc j)).2)=true)/\zbd-x'<zbd-I/\(zae I=(↑x':Int)/\True)/\(zn/\zbe=zbe/\zbg I=gv (ag x' zbc)/\True)/\zbg I=gv (ag x' zbc)/\zah)/\((zbf F G I == @af UInt8)=false->ae (zbf F G I)<=100000/\((!aQ.isNil (aJ (lk (zbf F G I)).2))=true->zl)/\((!aQ.isNil (aJ (lk (zbf F G I)).2))=false->(zbg I=zbg I/\ae (zbg I)+ae [(lk (zbf F G I)).1]<=1000000000)/\(zac I->zad->zaf I/\∃(x':Nat),(x'<=zbd/\∀(j:Nat),j<x'->nth Ty.str zbc j=@af UInt8\/aQ.isNil (aJ (lk (nth Ty.str zbc j)).2)=true)/\zbd-x'<zbd-I/\(zae I=(↑x':Int)/\True)/\(zn/\zbe=zbe/\zbg I++[(lk (zbf F G I)).1]=gv (ag x' zbc)/\True)/\zbg I++[(lk (zbf F G I)).1]=gv (ag x' zbc)/\zah))))/\((decide (zq I<(↑(ae (cU (10:UInt8) (zbb F G))):Int)))=false->zb/\zd=(0:Int)/\(d.1,zag,zi,za,(zbe,zbg I,()),())=(d.1,zag,zi,za,((aX d).1.1,(aX d).1.2,()),())/\(aQ.nil,())=(aQ.nil,()))))))))))) (by kernel_rfl) ?_
 dsimp -iota -proj -eta only;refine⟨rfl,ad,fun h0=>⟨fun h1=>(by rw[H9 h1];exact⟨rfl,by decide,rfl,rfl⟩),fun h1=>⟨rfl,ad,fun h2=>iL (fun h3=>(by rw[JW h1 h3];exact⟨rfl,by decide,rfl,rfl⟩)) (fun h3=>⟨(⟨0,au _,⟨rfl,by rw[xa],ad⟩,⟨rfl,by rw[xa],rfl,ad⟩,(by trivial)⟩),fun F q_0=>iL (fun h4=>⟨fun h5=>⟨fun h6=>(b7 (h1.symm.trans h5)),fun h6=>absurd (show true=false from h6) (by decide)⟩,fun h5=>⟨fun h6=>absurd (show false=true from h6) (by decide),fun h6 h7=>iE (fun h8=>⟨fun h9=>(by exfalso;omega),fun h9=>absurd (show true=false from h9) (by decide)⟩) (fun h8=>⟨?a,?b,⟨fun h9=>absurd (show false=true from h9) (by decide),fun h9=>⟨?c,?d,?e,fun G q_1=>⟨?f,fun I q_2=>⟨?g,iQ (fun h10=>iL (fun h11=>iE (fun h12 h13 h14=>⟨?h,?i⟩) (fun h12 h13 h14=>⟨?j,?k⟩)) (fun h11 h12 h13=>⟨?l,?m⟩)) (fun h10 h11 h12=>⟨?n,?o⟩)⟩⟩⟩⟩⟩)⟩⟩) (fun h4=>iQ (fun h5 =>?p) (fun h5=>⟨(⟨0,au _,⟨rfl,by rw[AS],ad⟩,(by trivial)⟩),fun G q_1=>iL (fun h6=>⟨(by trivial),fun I q_2 K q_3 h7 h8=>⟨?q,fun h9 h10=>⟨?r,fun h11 h12=>⟨?s,⟨fun h13=>⟨fun h14=>(b7 (h1.symm.trans h13)),fun h14=>absurd (show true=false from h14) (by decide)⟩,fun h13=>iL (fun h14=>⟨fun h15 =>?t,fun h15=>absurd (show true=false from h15) (by decide)⟩) (fun h14 h15=>iE (fun h16=>⟨fun h17 =>?u,fun h17=>absurd (show true=false from h17) (by decide)⟩) (fun h16=>⟨?v,?w,⟨fun h17=>absurd (show false=true from h17) (by decide),fun h17=>⟨?x,fun h18 h19=>⟨?y,?z⟩⟩⟩⟩))⟩⟩⟩⟩⟩) (fun h6=>⟨?a0,?a1,fun h7=>⟨?a2,fun I q_2=>iL (fun h8=>⟨?a3,iQ (fun h9 h10 h11=>⟨?a4,?a5⟩) (fun h9=>⟨?a6,iB (fun h10 =>?a7) (fun h10=>⟨?a8,fun h11 h12=>⟨?a9,?aa⟩⟩)⟩)⟩) (fun h8 =>?ab)⟩⟩)⟩))⟩)⟩⟩⟩
 case a|b|a3=>omega
 case c|d|g=>
  have h64:(nth .str d.2.2.1 F).length=64:=hp.2 _ (by omega);rw[h64];decide
 case e|f=>
  have h64:(nth .str d.2.2.1 F).length=64:=hp.2 _ (by omega);rw[c7,ax,h64];decide
 case h|j|l|n|y|a4|a9=>simp only[aR,aN]at*;omega
 case i=>
  have e1:G=mb d F:=q_1.trans (lz d F).symm;have e2:I=nf d F:=q_2.trans (nS d F).symm;subst e1;subst e2;exact⟨F+1,by omega,by omega,⟨by omega,by rw[pX h10 (by omega) h12],ad⟩,⟨rfl,by rw[pX h10 (by omega) h12],rfl,ad⟩,(by trivial)⟩
 case k=>
  have e1:G=mb d F:=q_1.trans (lz d F).symm;have e2:I=nf d F:=q_2.trans (nS d F).symm;subst e1;subst e2;have hn:dt d (F+1)=dt d F:=tH fun z=>by have:=z.2.2;omega
  exact⟨F+1,by omega,by omega,⟨by omega,by rw[hn],ad⟩,⟨rfl,by rw[hn],rfl,ad⟩,(by trivial)⟩
 case m=>
  have e1:G=mb d F:=q_1.trans (lz d F).symm;have e2:I=nf d F:=q_2.trans (nS d F).symm;subst e1;subst e2;have hn:dt d (F+1)=dt d F:=tH fun z=>by have:=z.2.1;omega
  exact⟨F+1,by omega,by omega,⟨by omega,by rw[hn],ad⟩,⟨rfl,by rw[hn],rfl,ad⟩,(by trivial)⟩
 case o=>
  have hn:dt d (F+1)=dt d F:=tH fun z=>h10 z.1
  exact⟨F+1,by omega,by omega,⟨by omega,by rw[hn],ad⟩,⟨rfl,by rw[hn],rfl,ad⟩,(by trivial)⟩
 case p=>
  have hx0:F=2:=by omega
  subst hx0;rw[Ia h1 (by omega) h5];exact⟨rfl,by decide,rfl,rfl⟩
 case q|r|s=>have hr:=eE d F;have ht:=oV hr.1.1;simp only[aR]at*;omega
 case t|u=>exfalso;have hr:=eE d F;have ht:=oV hr.1.1;omega
 case v|w=>have hr:=eE d F;have ht:=oV hr.1.1;omega
 case x=>
  have hx0:F=2:=(by omega);subst hx0;have hr:=eE d 2;have ht:=oV hr.1.1;have hb:gU d=2+K:=(by rw[gI,q_3,q_2]);have h64:(nth .str d.2.2.1 (ah (2+K+(G:Int)))).length=64:=hp.2 _ (by omega);have hl:=gJ hp.2 (b:=gU d) (by omega) G (by omega);rw[h64,hl];have:aN=9223372036854775807:=rfl;omega
 case z=>
  have hx0:F=2:=(by omega);subst hx0;have hr:=eE d 2;have ht:=oV hr.1.1;have hb:gU d=2+K:=(by rw[gI,q_3,q_2]);exact⟨G+1,by omega,by omega,⟨by omega,by rw[xb,hb];rfl,ad⟩,(by trivial)⟩
 case a0=>
  have hx0:F=2:=(by omega);subst hx0;have hx1:G=55:=(by omega);subst hx1;have hr:=eE d 2;have ht:=oV hr.1.1;have hbb:=gI d;have hll:(fq d (gU d) 55).length=64*55:=gJ hp.2 (by omega) 55 (by omega);have hLL:cU 10 (aj 0 (ag (ah (dt d 2).2) (fq d (gU d) 55)))=cS d:=(by rw[eG];rfl);rw[hll];exact⟨by decide,hr.2.1,by omega⟩
 case a1=>
  have hx0:F=2:=(by omega);subst hx0;have hx1:G=55:=(by omega);subst hx1;have hr:=eE d 2;have ht:=oV hr.1.1;have hbb:=gI d;have hll:(fq d (gU d) 55).length=64*55:=gJ hp.2 (by omega) 55 (by omega);have hLL:cU 10 (aj 0 (ag (ah (dt d 2).2) (fq d (gU d) 55)))=cS d:=(by rw[eG];rfl);refine⟨?_,rfl⟩;rw[cz,ax,hll];omega
 case a2=>
  have hx0:F=2:=(by omega);subst hx0;have hx1:G=55:=(by omega);subst hx1;have hr:=eE d 2;have ht:=oV hr.1.1;have hbb:=gI d;have hll:(fq d (gU d) 55).length=64*55:=gJ hp.2 (by omega) 55 (by omega);have hLL:cU 10 (aj 0 (ag (ah (dt d 2).2) (fq d (gU d) 55)))=cS d:=(by rw[eG];rfl);exact⟨0,⟨au _,fun j hj=>absurd hj (bm _)⟩,⟨rfl,ad⟩,⟨rfl,rfl,by rw[fs,Ie],ad⟩,by rw[fs,Ie],ad⟩
 case a5=>
  have hx0:F=2:=(by omega);subst hx0;have hx1:G=55:=(by omega);subst hx1;have hr:=eE d 2;have ht:=oV hr.1.1;have hbb:=gI d;have hll:(fq d (gU d) 55).length=64*55:=gJ hp.2 (by omega) 55 (by omega);have hLL:cU 10 (aj 0 (ag (ah (dt d 2).2) (fq d (gU d) 55)))=cS d:=(by rw[eG];rfl)
  (try rw[hLL]at h8);(try rw[hLL]at h9);(try rw[hLL]at h10);(try rw[hLL])
  have e:=Ib (L:=cS d) (i:=I) (by omega) h9;exact⟨I+1,⟨by omega,kg q_2.2 (.inl h9)⟩,by omega,⟨by omega,ad⟩,⟨rfl,rfl,e.symm,ad⟩,e.symm,(by trivial)⟩
 case a6=>
  have hx0:F=2:=(by omega);subst hx0;have hx1:G=55:=(by omega);subst hx1;have hr:=eE d 2;have ht:=oV hr.1.1;have hbb:=gI d;have hll:(fq d (gU d) 55).length=64*55:=gJ hp.2 (by omega) 55 (by omega);have hLL:cU 10 (aj 0 (ag (ah (dt d 2).2) (fq d (gU d) 55)))=cS d:=(by rw[eG];rfl)
  (try rw[hLL]at h8);(try rw[hLL]at h9);(try rw[hLL]at h10);(try rw[hLL])
  have hm:nth .str (cS d) I∈cS d:=gF (t:=.str) (by omega);have hm2:nth .str (cS d) I∈cU 10 (ag (dt d 2).2.toNat (fq d (gU d) 55)):=by rw[<-eG];exact hm
  refine aw (zP 10 _ _ hm2) ?_;rw[ax,hll];omega
 case a7=>
  have hx0:F=2:=(by omega);subst hx0;have hx1:G=55:=(by omega);subst hx1;have hr:=eE d 2;have ht:=oV hr.1.1;have hbb:=gI d;have hll:(fq d (gU d) 55).length=64*55:=gJ hp.2 (by omega) 55 (by omega);have hLL:cU 10 (aj 0 (ag (ah (dt d 2).2) (fq d (gU d) 55)))=cS d:=(by rw[eG];rfl)
  (try rw[hLL]at h8);(try rw[hLL]at h9);(try rw[hLL]at h10);(try rw[hLL])
  rw[JX h1 (by omega) h5 ⟨I,by omega,h9,h10⟩];exact⟨rfl,by decide,rfl,rfl⟩
 case a8=>
  have hx0:F=2:=(by omega);subst hx0;have hx1:G=55:=(by omega);subst hx1;have hr:=eE d 2;have ht:=oV hr.1.1;have hbb:=gI d;have hll:(fq d (gU d) 55).length=64*55:=gJ hp.2 (by omega) 55 (by omega);have hLL:cU 10 (aj 0 (ag (ah (dt d 2).2) (fq d (gU d) 55)))=cS d:=(by rw[eG];rfl);refine⟨rfl,?_⟩;have h1:=JY (ag I (cS d));have h2:=Gi 10 (ag (dt d 2).2.toNat (fq d (gU d) 55));rw[<-eG,ax,hll]at h2;rw[ax]at h1;rw[bb];omega
 case aa=>
  have hx0:F=2:=(by omega);subst hx0;have hx1:G=55:=(by omega);subst hx1;have hr:=eE d 2;have ht:=oV hr.1.1;have hbb:=gI d;have hll:(fq d (gU d) 55).length=64*55:=gJ hp.2 (by omega) 55 (by omega);have hLL:cU 10 (aj 0 (ag (ah (dt d 2).2) (fq d (gU d) 55)))=cS d:=(by rw[eG];rfl)
  (try rw[hLL]at h8);(try rw[hLL]at h9);(try rw[hLL]at h10);(try rw[hLL])
  have e:=Ic (L:=cS d) (i:=I) (by omega) h9;exact⟨I+1,⟨by omega,kg q_2.2 (.inr h10)⟩,by omega,⟨by omega,ad⟩,⟨rfl,rfl,e.symm,ad⟩,e.symm,(by trivial)⟩
 case ab=>
  have hx0:F=2:=(by omega);subst hx0;have hx1:G=55:=(by omega);subst hx1;have hr:=eE d 2;have ht:=oV hr.1.1;have hbb:=gI d;have hll:(fq d (gU d) 55).length=64*55:=gJ hp.2 (by omega) 55 (by omega);have hLL:cU 10 (aj 0 (ag (ah (dt d 2).2) (fq d (gU d) 55)))=cS d:=(by rw[eG];rfl)
  (try rw[hLL]at h8);(try rw[hLL]at h9);(try rw[hLL]at h10);(try rw[hLL])
  rw[EF h1 (by omega) h5 (Ln (i:=I) (by omega) q_2.2),cd (by omega)];exact⟨rfl,rfl,rfl,rfl⟩
def Tryz.ym:cF Tryz.prog Tryz.B.eT Tryz.X 23 false (bF Tryz.aT [.obj 0] (fun _ x=>bO x 1000000/\∀i,i<x.2.2.1.length->(nth .str x.2.2.1 i).length=64) Tryz.vN):=
 bN (X:=Tryz.X) Tryz.IS Tryz.func23 (by kernel_rfl) (fun(a:CD [.obj 0]) (x:PD Tryz.aT)=>Tryz.ET x) (fun(a:CD [.obj 0]) (x:PD Tryz.aT) hw hp=>LG x hw hp)
end Go.Proofs.YtgokjhhcfemnhacGreatDoor

namespace Go.Proofs.YtgokjhhcfemnhacGreatDoor
open Go.Vg Go.Shelf Go.RowKit
def xv{P:Program}(w:World)(t e ty:TypeId)(z:Value)(ht:P.underlying t=some (.slice e))(hv:∀w,(zeroValue e).run P w=.ok z w)(h1:∀u∈z.cells,u.oneCell'=true)(b o n c:Nat)(hn:0<n)
  (hc:∀j,j<n*z.cells.size->(w.cell? ⟨b,o+j,none⟩).isSome=true)(hf:∀j,j<n*z.cells.size->w.frozen? ⟨b,o+j,none⟩=false) :
  (c8 #[t] ty #[.slice (some ⟨b,o,none⟩) n c]).run P w=.ok (.tuple #[]) (w.setCells b o (bq z.cells n).toList):=by
 have hl:(bq z.cells n).toList.length=n*z.cells.size:=by rw[cf,size_zeroCells]
 have hst:=run_storeCells_cells (P:=P) b o (bq z.cells n).toList 0 w (by simpa[hl]using hc) (by simpa[hl]using hf) (by
  intro v hv';simp[bq]at hv';obtain⟨k,hk,rfl⟩:=hv';by_cases h:k % z.cells.size<z.cells.size
  ·rw[getElem!_pos z.cells _ h];exact h1 _ (Array.getElem_mem h)
  ·have:z.cells.size=0:=by
    by_cases h0:z.cells.size=0
    ·exact h0
    ·exact absurd (Nat.mod_lt _ (by omega)) h
   rw[this]at hk;omega)
 simp only[cq]at hst;obtain⟨m,rfl⟩:∃m,n=m+1:=⟨n-1,by omega⟩
 simp[c8,run_underlying ht,hv,hst]
def gj(b:Nat):∀(vs:List Value) (o:Nat) (w:World),(w.setCells b o vs).heap.size=w.heap.size
 |[],_,_=>rfl
 |v :: r,o,w=>(gj b r (o+1) _).trans (cu _ _ _)
def rp{b:Nat}{T:TypeId}:∀(news:List Value) (o:Nat) (w:World) (vs:Array Value),w.heap[b]?=some (.cells vs T (0,0))->o+news.length<=vs.size->
  ∃vs',(w.setCells b o news).heap[b]?=some (.cells vs' T (0,0))/\vs'.size=vs.size/\∀k,vs'[k]?=if k<o then vs[k]? else if k<o+news.length then news[k-o]? else vs[k]?:=by
 intro news;induction news with
 |nil=>intro o w vs hb _;exact⟨vs,hb,rfl,fun k=>by simp only[bp];split <;> (try rfl);rw[if_neg (by omega)]⟩
 |cons x r ih=>
  intro o w vs hb hle;simp only[bh]at hle;obtain⟨vs',h1,h2,h3⟩:=ih (o+1) (w.setCell ⟨b,o,none⟩ x) _ (Jw hb) (by simp;omega);refine⟨vs',h1,by simpa using h2,fun k =>?_⟩;rw[h3,bh];by_cases c1:k<o
  ·rw[if_pos (by omega),if_pos c1,Array.getElem?_setIfInBounds_ne (by omega)]
  ·by_cases c2:k=o
   ·subst c2
    rw[if_pos (by omega),if_neg c1,if_pos (by omega),Array.getElem?_setIfInBounds_self_of_lt (by omega)];simp
   ·rw[if_neg (by omega),if_neg c1]
    by_cases c3:k<o+1+r.length
    ·rw[if_pos c3,if_pos (by omega),show k-o=(k-(o+1))+1 by omega,List.getElem?_cons_succ]
    ·rw[if_neg c3,if_neg (by omega),Array.getElem?_setIfInBounds_ne (by omega)]
set_option maxHeartbeats 4000000 in
set_option maxRecDepth 1000000 in
def Tryz.MD:Ig Tryz.prog 62 3:=by
 intro b i j n cap vs T w hb hsz hij hj hcap hbig h1;obtain⟨te,ti,td,hu,hf⟩:=eO (t:=31) (e:=aA) Tryz.cL (by kernel_rfl);obtain⟨z,hz,hzr⟩:=hf.zero;have hu':=hu;rw[Tryz.underlying31]at hu';cases hu';obtain⟨news,hnews⟩:∃news,news=(vs.toList.drop (j*3)).take ((n-j)*3):=⟨_,rfl⟩
 have hle:n*3<=vs.size:=by omega
 have hlen:news.length=(n-j)*3:=by rw[hnews,ax,c7,cf];omega
 have hget:∀(t:Nat) u,news[t]?=some u->vs[j*3+t]?=some u:=by
  intro t u ht;rw[hnews,List.getElem?_take]at ht;split at ht
  ·rw[List.getElem?_drop,Array.getElem?_toList]at ht;exact ht
  ·cases ht
 obtain⟨A,hA,hsrc⟩:∃A:Addr,(if cap=j then some (⟨b,0,none⟩:Addr)else some ⟨b,j*3,none⟩)=some A/\Hid (∀(t:Nat) u,news[t]?=some u->w.drew.cell? (A.add t)=some u):=by
  by_cases h:cap=j
  ·refine⟨⟨b,0,none⟩,by simp[h],fun t u hu =>?_⟩
   have h0:news.length=0:=by rw[hlen];omega
   rw[cm.1 h0]at hu;simp at hu
  ·refine⟨⟨b,j*3,none⟩,by simp[h],fun t u hu =>?_⟩
   rw[Addr.add_lit,cell_of_row w.drew b _ vs T (0,0) hb];exact hget t u hu
 have mixed:Tryz.prog.follows .mixedOrders=true:=by kernel_rfl
 have hs3:ti.size=3:=hf.size;have s1:Hid (news.length=(n-j)*3):=hlen;have s2:Hid (∀u∈news,u.oneCell'=true):=by
  intro u hu;obtain⟨t,ht⟩:=List.getElem?_of_mem hu;have:=aW ht;exact h1 (j*3+t) u (by omega) (hget t u ht)
 have s3:Hid (∀t,t<news.length->(w.drew.cell? ⟨b,0+i*3+t,none⟩).isSome=true/\w.drew.frozen? ⟨b,0+i*3+t,none⟩=false):=by
  intro t ht;rw[hlen]at ht;refine⟨?_,cb (w:=w.drew) hb _⟩;rw[cell_of_row w.drew b _ vs T (0,0) hb,Array.getElem?_eq_getElem (by omega)];rfl
 obtain⟨W1,hW1⟩:∃W1,W1=w.drew.setCells b (0+i*3) news:=⟨_,rfl⟩
 have hW:Hid (W1=w.drew.setCells b (0+i*3) news):=hW1;have hic:i<=cap:=by omega
 have hjc:j<=cap:=by omega
 have hne:¬((i:Int)=(j:Int)):=by omega
 have hzv:∀w,(zeroValue 40).run Tryz.prog w=.ok z w:=fun w=>by simp[zeroValue,typeInfo,hf.info,hz]
 have hz0:=gX (S:=aB (fun _ _=>False) ⟨[],[],0⟩ (fun _=>⟨.nilIface,[]⟩) w) (cx:=Tryz.B) hzr;have hzs:z.cells.size=3:=by
  rw[<-cf];exact hz0.length.symm.trans (fo aA)
 obtain⟨vs1,v1,v2,v3⟩:=rp (b:=b) (T:=T) news (0+i*3) w.drew vs hb (by omega);rw[<-hW1]at v1;have dV:=xv (P:=Tryz.prog) W1 31 40 0 z Tryz.underlying31 hzv (fun u hu=>(wb (eT:=Tryz.B.eT) (A:=fun _ _=>False) (w:=w) hzr (by kernel_rfl)).ie u (by simpa using hu)) b ((i+(n-j))*3) (n-(i+(n-j))) (cap-(i+(n-j))) (by omega)
  (fun t ht=>by rw[hzs]at ht;rw[cell_of_row W1 b _ vs1 T (0,0) v1,Array.getElem?_eq_getElem (by omega)];rfl) (fun t ht=>cb v1 _)
 obtain⟨W2,hW2⟩:∃W2,W2=W1.setCells b ((i+(n-j))*3) (bq z.cells (n-(i+(n-j)))).toList:=⟨_,rfl⟩
 rw[<-hW2]at dV;have hzl:(bq z.cells (n-(i+(n-j)))).toList.length=(n-(i+(n-j)))*3:=by rw[cf,size_zeroCells,hzs]
 obtain⟨vs2,u1,u2,u3⟩:=rp (b:=b) (T:=T) (bq z.cells (n-(i+(n-j)))).toList ((i+(n-j))*3) W1 vs1 v1 (by omega);rw[<-hW2]at u1;have hfin:Hid (W2.os=w.os/\W2.output=w.output/\W2.heap.size=w.heap.size/\(∀k,k≠b->W2.heap[k]?=w.heap[k]?)/\
       ∃vs',W2.heap[b]?=some (Obj.cells vs' T (0,0))/\vs'.size=vs.size/\∀k,k<(i+(n-j))*3->vs'[k]?=vs[if k<i*3 then k else k+(j-i)*3]?):=by
  refine⟨by rw[hW2,hW1,fz,fz];rfl,by rw[hW2,hW1,gd,gd];rfl,by rw[hW2,hW1,gj,gj];rfl,fun k hk =>?_,vs2,u1,by omega,fun k hk =>?_⟩
  ·by_cases hlt:k<w.heap.size
   ·rw[hW2,gf _ _ _ _ (by rw[hW1,gj];exact hlt) hk,hW1,gf w.drew _ _ _ (show k<w.drew.heap.size from hlt) hk];rfl
   ·rw[Array.getElem?_eq_none (by rw[hW2,hW1,gj,gj];show w.heap.size<=k;omega),Array.getElem?_eq_none (by omega)]
  ·rw[u3,if_pos hk,v3]
   by_cases c:k<i*3
   ·rw[if_pos (by omega),if_pos c]
   ·rw[if_neg (by omega),if_pos (by omega),if_neg c,hnews,List.getElem?_take,if_pos (by omega),List.getElem?_drop,Array.getElem?_toList]
    congr 1;omega
 have dV:Hid ((c8 #[31] 0 #[.slice (some ⟨b,(i+(n-j))*3,none⟩) (n-(i+(n-j))) (cap-(i+(n-j)))]).run Tryz.prog W1=.ok (.tuple #[]) W2):=dV;have dV:=dV.out;clear hW1 hget hnews hlen h1 hW2 u1 u2 u3 v1 v2 v3 hzl
 go_enter Tryz.func62,Tryz.ntmps62
 go_wp2_with fail
 go_region_law_o (refine step_append_room rfl (.tmp 22) (.tmp 25) 31 rfl 40 ti 3 Tryz.underlying31 hf.info hs3 b 0 i cap (by simp[Act.eval,Act.put]) A (n-j) (cap-j) news (by simp[Act.eval,Act.put,hA]) s1.out hsrc.out s2.out (by omega) s3.out ?_;rw[<-hW.out])
 go_wp2
 go_ret
 exact⟨rfl,hfin.out⟩
end Go.Proofs.YtgokjhhcfemnhacGreatDoor

namespace Go.Proofs.YtgokjhhcfemnhacGreatDoor
open Go.Vg Go.Mrl
def Tryz.MR:∃fn,Tryz.prog.funcs[62]?=some fn/\fn.body.isNone=false/\(fn.name == "runtime.NumGoroutine")=false:=⟨_,Tryz.func62,by kernel_rfl,by kernel_rfl⟩
def Tryz.EU:List (FuncId×(Bool×bA)):=[(57,Tryz.spZ11),(62,(false,ya aA)),(58,Tryz.spZ12),(60,Tryz.spZ14)]
def Tryz.IT:bU Tryz.prog Tryz.B Tryz.X Tryz.EU:=
 aU (fp (cN Tryz.cL) Tryz.func57 (by kernel_rfl) []) (aU (Gj Tryz.MR Tryz.MD) (aU (Tryz.yh) (aU (Tryz.ER) (cN Tryz.cL))))
def LH{x:Sh}{s:aF}(h:¬0<=dm x.1.2.1 s):dY x s=(x,5):=by unfold dY;rw[if_neg h]
def Km{x:Sh}{s:aF}(h:0<=dm x.1.2.1 s):dY x s=jw x (x.1.2.1.take (dm x.1.2.1 s).toNat++x.1.2.1.drop (dm x.1.2.1 s+1).toNat):=by
 unfold dY;rw[if_pos h,List.eraseIdx_eq_take_drop_succ,show(dm x.1.2.1 s+1).toNat=(dm x.1.2.1 s).toNat+1 by omega]
def Tryz.vO:List (Alt Tryz.bE [.obj 0,.d .str]):=[{bH:=Tryz.bE,res:=[.d .err],out:=fun a x=>(dY x a.1).1,ret:=fun a x=>(aJ (dY x a.1).2,())}]
def LI(s:List UInt8)(r:Int)(o:List (D aA))(d:Dk)(hw:gr [.obj 0,.d .str] (s,()))(hp:(fun _ x=>x.1.2.1.length<=100/\0<=(x.1.1:Int)/\(x.1.1:Int)<=1000000000/\bO x.2 1000000) (s,()) ((r,o,()),d)):(dW Tryz.B Tryz.EU Tryz.f19 [] Tryz.bE [.obj 0,.d .str] Tryz.vO (s,()) ((r,o,()),d)).holds:=by
 refine holds_of (p:=
  let za:=d.2.2.2.1=d.2.2.2.1
  let zb:=dm o s
  let zc:=((r,o,()),d)
  let zd:=(dY zc s).1
  let ze:=(aJ (dY zc s).2,())
  let zf:=ae o
  let zg:=zb+1
  let zh:=ag (ah zb) o++aj (ah zg) o
  let zi:=bV d r zh
  let zj:=zi.1.2.2.2.1
  za/\True/\(True->((decide (zb<0))=true->za/\True/\zc=zd/\(aQ.no 5,())=ze)/\((decide (zb<0))=false->∀F:Bool,(0<zf->F=false)->(F=true->aR zb->aR 1->aR zg/\False)/\(F=false->zf<=1000000000/\(aR zb->aR 1->aR zg/\(0<=zb/\zb<zg/\zg<=(↑zf:Int))/\za/\(ae zh<=100/\0<=r/\r<=1000000000/\bO d 1000000)/\(True->zj=zj/\True/\(if zi.2=0 then(r+1,zh,())else(r,o,()),zi.1)=zd/\(aJ zi.2,())=ze)))))) (by kernel_rfl) ?_
 dsimp -iota -proj -eta only;dsimp only at hp;exact⟨rfl,ad,fun h0=>iL (fun h1=>(by rw[LH (x:=((r,o,()),d)) (show ¬0<=dm o s by omega)];exact⟨rfl,ad,rfl,rfl⟩)) (fun h1 F q_0=>⟨fun h2 h3 h4=>⟨(by exfalso;have:=sH q_0 h2;subst this;exact nj s (by omega)),(by have:=sH q_0 h2;subst this;exact nj s (by omega))⟩,fun h2=>⟨(by omega),fun h3 h4=>⟨(by have:=mw o s;have hh:o.length<=100:=hp.1;unfold aR;omega),(by have:=mw o s;exact⟨by omega,by omega,by omega⟩),rfl,(by have hh:o.length<=100:=hp.1;refine⟨?_,hp.2⟩;rw[bo,ax,c7];omega),fun h5=>(by rw[Km (x:=((r,o,()),d)) (show 0<=dm o s by omega)];exact⟨rfl,ad,rfl,rfl⟩)⟩⟩⟩)⟩
def Tryz.LJ:cF Tryz.prog Tryz.B.eT Tryz.X 19 false (bF Tryz.bE [.obj 0,.d .str] (fun _ x=>x.1.2.1.length<=100/\0<=(x.1.1:Int)/\(x.1.1:Int)<=1000000000/\bO x.2 1000000) Tryz.vO):=
 bN (X:=Tryz.X) Tryz.IT Tryz.func19 (by kernel_rfl) (fun(a:CD [.obj 0,.d .str]) (x:PD Tryz.bE)=>[]) (fun(a:CD [.obj 0,.d .str]) (x:PD Tryz.bE) hw hp=>LI a.1 x.1.1 x.1.2.1 x.2 hw hp)
def Tryz.spZ21:Bool×bA:=(false,bF Tryz.aT [.obj 0,.d (.int .i64)] (fun _ _=>True) Tryz.vH)
def Tryz.spZ22:Bool×bA:=(false,bF Tryz.aT [.obj 0,.d (.int .i64)] (fun _ _=>True) Tryz.yd)
def Tryz.spZ23:Bool×bA:=(false,bF Tryz.aT [.obj 0,.d (.int .u64)] (fun _ x=>x.2.1.length=x.2.2.1.length/\∀i,i<x.2.2.2.1.length->0<=((nth du x.2.2.2.1 i).1:Int)/\((nth du x.2.2.2.1 i).1:Int)<x.2.2.1.length) Tryz.kL)
def Tryz.spZ24:Bool×bA:=(false,bF [] [.d (.int .i64)] (fun _ _=>True) Tryz.vK)
def Tryz.spZ25:Bool×bA:=(false,bF Tryz.aT [.obj 0] (fun _ x=>bO x 1000000/\∀i,i<x.2.2.1.length->(nth .str x.2.2.1 i).length=64) Tryz.vN)
def Tryz.xw:List (FuncId×(Bool×bA)):=[(76,Tryz.spZ0),(99,Tryz.spZ1),(21,Tryz.spZ2),(90,Tryz.spZ9),(65,Tryz.spZ21),(91,Tryz.spZ10),(16,Tryz.spZ22),(63,Tryz.spZ20),(64,Tryz.spZ19),(22,Tryz.spZ23),(54,Tryz.spZ24),(23,Tryz.spZ25),(55,(false,bF Tryz.aT [.obj 0] (fun _ x=>bO x 1000000) Tryz.q9))]
def Tryz.C4:bU Tryz.prog Tryz.B Tryz.X Tryz.xw:=
 aU (aK Tryz.my) (aU (aK Tryz.iy) (aU (aK Tryz.lA) (aU (Tryz.nn) (aU (Tryz.vI) (aU (Tryz.np) (aU (Tryz.ye) (aU (Tryz.q8) (aU (Tryz.kK) (aU (Tryz.mN) (aU (Tryz.yf) (aU (Tryz.ym) (aU (Tryz.IQ) (cN Tryz.cL)))))))))))))
def Tryz.po:List (Alt [] []):=[{bH:=Tryz.bE,res:=[.obj 1,.obj 0,.d .bool],out:=fun _ _=>fN,ret:=fun _ _=>(true,())}]
def GC  (hw:gr [] ()):(dW Tryz.B Tryz.xw Tryz.f14 [] [] [] Tryz.po () ()).holds:=by
 refine holds_of (p:=
  let za:=bj 112 (cB (@af UInt8))
  let zb:=(((-1:Int),false,()),za,za,[],())
  let zc:=(fm zb).1
  let zd:=zc.2.2.2.1=zc.2.2.2.1
  let ze:=(aX zc).2
  let zf:=(((aX zc).1.1,(aX zc).1.2,()),zc)=fN
  let zg:=(true,())
  True/\(((112:Int)<(1:Int)\/(120:Int)<(112:Int))->((!aQ.isNil (aQ.no (1:Int)))=true->False)/\((!aQ.isNil (aQ.no (1:Int)))=false->False))/\((1:Int)<=(112:Int)/\(112:Int)<=(120:Int)->((!aQ.isNil aQ.nil)=true->False)/\((!aQ.isNil aQ.nil)=false->(@af (Int×List UInt8×Unit)=@af (Int×List UInt8×Unit))/\bO zb 1000000/\(True->((!aQ.isNil (aJ (fm zb).2))=true->False)/\((!aQ.isNil (aJ (fm zb).2))=false->zd/\(bO zc 1000000/\∀(i:Nat),i<ae zc.2.2.1->ae (nth Ty.str zc.2.2.1 i)=64)/\(ze≠(0:Int)->((aQ.isNil (aJ ze))=true->False)/\((aQ.isNil (aJ ze))=false->False))/\(ze=(0:Int)->((aQ.isNil aQ.nil)=true->zd/\True/\zf/\zg=zg)/\((aQ.isNil aQ.nil)=false->zd/\True/\zf/\(false,())=zg))))))) (by kernel_rfl) ?_
 dsimp -iota -proj -eta only;refine⟨ad,⟨fun h0=>⟨fun h1=>(by trivial),fun h1=>absurd (show true=false from h1) (by decide)⟩,fun h0=>⟨fun h1=>absurd (show false=true from h1) (by decide),fun h1=>⟨rfl,⟨cg _,au _,rfl⟩,fun h2=>iB (fun h3=>(cJ h3 ((nk (oz (cg _)))).1)) (fun h3=>⟨rfl,⟨((nk (oz (cg _)))).2.fJ,((nk (oz (cg _)))).2.fT.sec⟩,⟨fun h4=>⟨fun h5 =>?a,fun h5 =>?b⟩,fun h4=>⟨fun h5=>⟨rfl,ad,ch jU.again rfl,rfl⟩,fun h5=>absurd (show true=false from h5) (by decide)⟩⟩⟩)⟩⟩⟩⟩
 case a|b=>exact h4 jU.fA
def Tryz.xx:cF Tryz.prog Tryz.B.eT Tryz.X 14 false (bF [] [] (fun _ _=>True) Tryz.po):=
 bN (X:=Tryz.X) Tryz.C4 Tryz.func14 (by kernel_rfl) (fun(a:CD []) (x:PD [])=>[]) (fun(a:CD []) (x:PD []) hw hp=>GC  hw)
def D3(n:Int)(hw:gq [.int .i64] n):(eC Tryz.B [] Tryz.f100 [] [.int .i64] [.bool] (fun x y=>y=(fun n=>fg n) x) n).holds:=by
 refine holds_of (p:=
  ((decide (n>=(-2147483648:Int)))=true->decide (n<=2147483647)=fg n)/\((decide (n>=(-2147483648:Int)))=false->false=fg n)) (by kernel_rfl) ?_
 refine iE (fun h0 =>?a) (fun h0 =>?b)
 case a|b=>unfold fg;rw[Bool.eq_iff_iff];simp;omega
def Tryz.D4:cG Tryz.prog Tryz.B.eT Tryz.X 100 [.int .i64] [.bool] (fun _=>True) (fun x y=>y=(fun n=>fg n) x):=
 dk (X:=Tryz.X) (cN Tryz.cL) Tryz.func100 (by kernel_rfl) (fun _=>[]) (fun x hw hp=>D3 x hw)
def Tryz.xy:List (FuncId×(Bool×bA)):=[(76,Tryz.spZ0),(99,Tryz.spZ1),(21,Tryz.spZ2),(100,(true,dj [.int .i64] [.bool] (fun _=>True) (fun n=>fg n)))]
def Tryz.C5:bU Tryz.prog Tryz.B Tryz.X Tryz.xy:=
 aU (aK Tryz.my) (aU (aK Tryz.iy) (aU (aK Tryz.lA) (aU (aK Tryz.D4) (cN Tryz.cL))))
def xz(e:D aA):eo:=[
 (0,fun st=>{X:=Nat,inv:=fun i=>i<=ae e.2.1/\∀j,j<i->cP (nth aE e.2.1 j)=0,dx:=fun i=>ae e.2.1-i,bX:=fun i=>[(4,sI i)],keep:=[1]}),
 (2,fun st=>{X:=Nat,inv:=fun i=>i<=ae e.2.2.1/\∀j,j<i->cK e.2.1.length (nth aI e.2.2.1 j)=0,dx:=fun i=>ae e.2.2.1-i,bX:=fun i=>[(7,sI i)],keep:=[1]})]
def yn(e:D aA)(hw:gq [aA] e):(eC Tryz.B Tryz.xy Tryz.f61 (xz e) [aA] [.int .i64] (fun x y=>y=(fun e=>aL e) x) e).holds:=by
 refine holds_of (p:=
  let za:=aH e.1
  let zb:=aL e
  let zc:=e.2.1
  let zd:=ae zc
  let ze:=zd<=aN
  let zf:=(↑zd:Int)
  let zg:=(2:Int)=zb
  let zh:=e.2.2.1
  let zi:=ae zh
  let zj:=fun(F:Nat)=>aH (nth aE zc F).1
  let zk:=(1:Int)=zb
  let zl:=fun(F:Nat)=>(nth aE zc F).2.2.1
  let zm:=fun(F:Nat)=>(↑F:Int)+(1:Int)
  let zn:=(e.1=e.1/\zc=zc/\zh=zh/\True)/\True
  True/\((decide (za > (0:Int)))=true->za=zb)/\((decide (za > (0:Int)))=false->ze->((decide (zf<(1:Int)))=true->zg)/\((decide (zf<(1:Int)))=false->ze->((decide (zf > (6:Int)))=true->zg)/\((decide (zf > (6:Int)))=false->zi<=aN->((decide ((↑zi:Int) > (36:Int)))=true->zg)/\((decide ((↑zi:Int) > (36:Int)))=false->(∃(x:Nat),(x<=zd/\∀(j:Nat),j<x->cP (nth aE zc j)=(0:Int))/\((0:Int)=(↑x:Int)/\True)/\True)/\∀F:Nat,(F<=zd/\∀(j:Nat),j<F->cP (nth aE zc j)=(0:Int))->ze->((decide ((↑F:Int)<zf))=true->((0:Int)<=(↑F:Int)/\(↑F:Int)<zf)/\True/\((decide (zj F > (0:Int)))=true->zj F=zb)/\((decide (zj F > (0:Int)))=false->((decide ((nth aE zc F).2.1<(1:Int)))=true->zk)/\((decide ((nth aE zc F).2.1<(1:Int)))=false->((decide ((nth aE zc F).2.1 > (1000000:Int)))=true->zk)/\((decide ((nth aE zc F).2.1 > (1000000:Int)))=false->((decide (zl F<(0:Int)))=true->zk)/\((decide (zl F<(0:Int)))=false->((decide (zl F > (255:Int)))=true->zk)/\((decide (zl F > (255:Int)))=false->(16:Int)≠(0:Int)/\∀G:Int,G=b4 (zl F) (16:Int)->((decide (G > (0:Int)))=true->zk)/\((decide (G > (0:Int)))=false->aR (↑F:Int)->aR (1:Int)->aR (zm F)/\∃(x':Nat),(x'<=zd/\∀(j:Nat),j<x'->cP (nth aE zc j)=(0:Int))/\zd-x'<zd-F/\(zm F=(↑x':Int)/\True)/\zn)))))))/\((decide ((↑F:Int)<zf))=false->(∃(x:Nat),(x<=zi/\∀(j:Nat),j<x->cK zd (nth aI zh j)=(0:Int))/\((0:Int)=(↑x:Int)/\True)/\True)/\∀G:Nat,(G<=zi/\∀(j:Nat),j<G->cK zd (nth aI zh j)=(0:Int))->zi<=aN->((decide ((↑G:Int)<(↑zi:Int)))=true->((0:Int)<=(↑G:Int)/\(↑G:Int)<(↑zi:Int))/\True/\((decide ((nth aI zh G).1<(0:Int)))=true->zk)/\((decide ((nth aI zh G).1<(0:Int)))=false->ze->((decide ((nth aI zh G).1>=zf))=true->zk)/\((decide ((nth aI zh G).1>=zf))=false->((decide ((nth aI zh G).2.1<(0:Int)))=true->zk)/\((decide ((nth aI zh G).2.1<(0:Int)))=false->((decide ((nth aI zh G).2.1 > (39:Int)))=true->zk)/\((decide ((nth aI zh G).2.1 > (39:Int)))=false->((!fg (nth aI zh G).2.2.1)=true->zk)/\((!fg (nth aI zh G).2.2.1)=false->aR (↑G:Int)->aR (1:Int)->aR (zm G)/\∃(x':Nat),(x'<=zi/\∀(j:Nat),j<x'->cK zd (nth aI zh j)=(0:Int))/\zi-x'<zi-G/\(zm G=(↑x':Int)/\True)/\zn))))))/\((decide ((↑G:Int)<(↑zi:Int)))=false->(0:Int)=zb))))))) (by kernel_rfl) ?_
 dsimp -iota -proj -eta only;refine⟨ad,iL (fun h0=>((ph h0).symm)) (fun h0 h1=>iL (fun h2=>((hH (by assumption:aH e.1<=0) (.inl (by omega))).symm)) (fun h2 h3=>iL (fun h4=>((hH (by assumption:aH e.1<=0) (.inr (.inl (by omega)))).symm)) (fun h4 h5=>iL (fun h6=>((hH (by assumption:aH e.1<=0) (.inr (.inr (by omega)))).symm)) (fun h6=>⟨?a,fun F q_0 h7=>iL (fun h8=>⟨?b,ad,iL (fun h9=>(((dC (by assumption:aH e.1<=0) (cZ (by omega) (by omega) (by omega)) q_0.2 (by omega) (wT h9) (by omega))).symm)) (fun h9=>iL (fun h10=>(((dC (by assumption:aH e.1<=0) (cZ (by omega) (by omega) (by omega)) q_0.2 (by omega) (fZ h9 (.inl ‹_›)) (by decide))).symm)) (fun h10=>iL (fun h11=>(((dC (by assumption:aH e.1<=0) (cZ (by omega) (by omega) (by omega)) q_0.2 (by omega) (fZ h9 (.inr (.inl ‹_›))) (by decide))).symm)) (fun h11=>iL (fun h12=>(((dC (by assumption:aH e.1<=0) (cZ (by omega) (by omega) (by omega)) q_0.2 (by omega) (fZ h9 (.inr (.inr (.inl ‹_›)))) (by decide))).symm)) (fun h12=>iL (fun h13=>(((dC (by assumption:aH e.1<=0) (cZ (by omega) (by omega) (by omega)) q_0.2 (by omega) (fZ h9 (.inr (.inr (.inr (.inl ‹_›))))) (by decide))).symm)) (fun h13=>⟨(by trivial),fun G q_1=>iL (fun h14=>(by have hb:=qK h12 q_1;exact((dC (by assumption:aH e.1<=0) (cZ (by omega) (by omega) (by omega)) q_0.2 (by omega) (fZ h9 (.inr (.inr (.inr (.inr (by rw[hb]at h14;exact h14)))))) (by decide))).symm)) (fun h14 h15 h16=>⟨?c,(by have hb:=qK h12 q_1;exact⟨F+1,⟨by omega,kg q_0.2 (BZ h9 h10 h11 h12 h13 (by rw[hb]at h14;exact Int.le_antisymm h14 (dc _ (by decide))))⟩,by omega,⟨by omega,ad⟩,(by trivial)⟩)⟩)⟩)))))⟩) (fun h8=>⟨?d,fun G q_1 h9=>iL (fun h10=>⟨?e,ad,iL (fun h11=>(((dM (by assumption:aH e.1<=0) (cZ (by omega) (by omega) (by omega)) (fun j hj=>q_0.2 j (by omega)) q_1.2 (by omega) (ga (.inl ‹_›)))).symm)) (fun h11 h12=>iE (fun h13=>(((dM (by assumption:aH e.1<=0) (cZ (by omega) (by omega) (by omega)) (fun j hj=>q_0.2 j (by omega)) q_1.2 (by omega) (ga (.inr (.inl ‹_›))))).symm)) (fun h13=>iL (fun h14=>(((dM (by assumption:aH e.1<=0) (cZ (by omega) (by omega) (by omega)) (fun j hj=>q_0.2 j (by omega)) q_1.2 (by omega) (ga (.inr (.inr (.inl ‹_›)))))).symm)) (fun h14=>iL (fun h15=>(((dM (by assumption:aH e.1<=0) (cZ (by omega) (by omega) (by omega)) (fun j hj=>q_0.2 j (by omega)) q_1.2 (by omega) (ga (.inr (.inr (.inr (.inl ‹_›))))))).symm)) (fun h15=>iB (fun h16=>(((dM (by assumption:aH e.1<=0) (cZ (by omega) (by omega) (by omega)) (fun j hj=>q_0.2 j (by omega)) q_1.2 (by omega) (Ga h16))).symm)) (fun h16 h17 h18=>⟨?f,(⟨G+1,⟨by omega,kg q_1.2 (DL ‹_› ‹_› ‹_› ‹_› h16)⟩,by omega,⟨by omega,ad⟩,(by trivial)⟩)⟩)))))⟩) (fun h10=>((zD (by assumption:aH e.1<=0) (cZ (by omega) (by omega) (by omega)) (fun j hj=>q_0.2 j (by omega)) (fun j hj=>q_1.2 j (by omega))).symm))⟩)⟩))))⟩
 case a|d=>exact⟨0,⟨au _,fun j hj=>absurd hj (bm _)⟩,⟨rfl,ad⟩,ad⟩
 case b|e=>omega
 case c|f=>simp only[aR,aN]at*;omega
def Tryz.yp:cG Tryz.prog Tryz.B.eT Tryz.X 61 [aA] [.int .i64] (fun _=>True) (fun x y=>y=(fun e=>aL e) x):=
 dk (X:=Tryz.X) Tryz.C5 Tryz.func61 (by kernel_rfl) (fun x=>xz x) (fun x hw hp=>yn x hw)
@[reducible] def Tryz.gV:List Ob:=[.box 33 [.d (.slice aA)]]
def Tryz.EV:List (FuncId×(Bool×bA)):=[(61,(true,dj [aA] [.int .i64] (fun _=>True) (fun e=>aL e)))]
def Tryz.IU:bU Tryz.prog Tryz.B Tryz.X Tryz.EV:=
 aU (aK Tryz.yp) (cN Tryz.cL)
def Tryz.EW(e:D aA)(o:List (D aA)):eo:=[
 (0,fun st=>{X:=Nat,inv:=fun i=>i<=o.length/\∀j,j<i->(nth aA o j).1≠e.1,dx:=fun i=>o.length-i,bX:=fun i=>[(7,sI i)],keep:=[0,3,6]})]
def Tryz.vP:List (Alt Tryz.gV [.obj 0,.d aA]):=[{bH:=Tryz.gV,res:=[.d (.int .i64)],out:=fun a x=>(((eZ x.1.1 a.1).1,()),()),ret:=fun a x=>((eZ x.1.1 a.1).2,())}]
def LK(e:D aA)(o:List (D aA))(hw:gr [.obj 0,.d aA] (e,()))(hp:(fun _ x=>x.1.1.length<=1000000) (e,()) ((o,()),())):(dW (iR Tryz.B [5000000]) Tryz.EV Tryz.f18 (Tryz.EW e o) Tryz.gV [.obj 0,.d aA] Tryz.vP (e,()) ((o,()),())).holds:=by
 refine holds_of (p:=
  let za:=(((eZ o e).1,()),())
  let zb:=((o,()),())=za
  let zc:=((eZ o e).2,())
  let zd:=ae o
  let ze:=fun(F:Nat)=>0<=(↑F:Int)/\(↑F:Int)<(↑zd:Int)
  let zf:=(0,())=zc
  True/\((decide (aL e > 0))=true->True/\zb/\(aL e,())=zc)/\((decide (aL e > 0))=false->zd<=1000000000/\(∃(x:Nat),(x<=zd/\∀(j:Nat),j<x->(nth aA o j).1≠e.1)/\(0=(↑x:Int)/\True)/\True)/\∀F:Nat,(F<=zd/\∀(j:Nat),j<F->(nth aA o j).1≠e.1)->zd<=aN->((decide ((↑F:Int)<(↑zd:Int)))=true->ze F/\F<zd/\(((nth aA o F).1 == e.1)=true->ze F/\F<zd/\True/\((cc o F e,()),())=za/\zf)/\(((nth aA o F).1 == e.1)=false->aR (↑F:Int)->aR 1->aR ((↑F:Int)+1)/\∃(x':Nat),(x'<=zd/\∀(j:Nat),j<x'->(nth aA o j).1≠e.1)/\zd-x'<zd-F/\((↑F:Int)+1=(↑x':Int)/\True)/\o=o/\(e.1=e.1/\e.2.1=e.2.1/\e.2.2.1=e.2.2.1/\True)/\(o=o/\True)/\True))/\((decide ((↑F:Int)<(↑zd:Int)))=false->zd<=aN->(((↑zd:Int) == 3)=true->True/\zb/\(2,())=zc)/\(((↑zd:Int) == 3)=false->(o=o/\zd+ae [e]<=1000000000)/\True/\((o++[e],()),())=za/\zf)))) (by kernel_rfl) ?_
 dsimp -iota -proj -eta only;dsimp only at hp;refine⟨ad,iL (fun h0=>(by rw[qU h0];exact⟨ad,rfl,rfl⟩)) (fun h0=>⟨?a,(⟨0,⟨au _,fun j hj=>absurd hj (bm _)⟩,⟨rfl,ad⟩,ad⟩),fun F q_0 h1=>iL (fun h2=>⟨?b,?c,iQ (fun h3=>⟨?d,?e,(by rw[qV (by omega) (by omega) q_0.2 h3];exact⟨ad,rfl,rfl⟩)⟩) (fun h3 h4 h5=>⟨(by simp only[aR,aN]at*;omega),(⟨F+1,⟨by omega,kg q_0.2 h3⟩,by omega,⟨by omega,ad⟩,(by trivial)⟩)⟩)⟩) (fun h2 h3=>iQ (fun h4=>(by rw[sJ (by omega) (fun j hj=>q_0.2 j (by omega)) h4];exact⟨ad,rfl,rfl⟩)) (fun h4=>⟨(by have:o.length<=1000000:=hp;exact⟨rfl,by rw[bb];omega⟩),(by rw[oy (by omega) (fun j hj=>q_0.2 j (by omega)) h4];exact⟨ad,rfl,rfl⟩)⟩))⟩)⟩
 case a|b|c|d|e=>omega
def Tryz.LL:cF Tryz.prog Tryz.B.eT Tryz.X 18 false (bF Tryz.gV [.obj 0,.d aA] (fun _ x=>x.1.1.length<=1000000) Tryz.vP):=
 bN (B:=(iR Tryz.B [5000000])) (X:=Tryz.X) (bU.hint (l:=[5000000]) Tryz.IU) Tryz.func18 (by kernel_rfl) (fun(a:CD [.obj 0,.d aA]) (x:PD Tryz.gV)=>Tryz.EW a.1 x.1.1) (fun(a:CD [.obj 0,.d aA]) (x:PD Tryz.gV) hw hp=>LK a.1 x.1.1 hw hp)
def Tryz.C6(s:List UInt8)(o:List (D aA)):eo:=[
 (0,fun st=>{X:=Nat,inv:=fun i=>i<=o.length,dx:=fun i=>o.length-i,bX:=fun i=>[(6,sI i),(5,.s (.one (.app aA (eR (o.take i) s) (dO st 5))))],aC:=fun i=>[(dO st 5,.tok aA (eR (o.take i) s))],keep:=[0,1,4],jq:=[dO st 5]})]
def Tryz.sX:List (Alt Tryz.gV [.obj 0,.d .str]):=[{bH:=Tryz.gV,res:=[.d (.int .i64)],out:=fun a x=>(((fj x.1.1 a.1).1,()),()),ret:=fun a x=>((fj x.1.1 a.1).2,())}]
def Kn(s:List UInt8)(o:List (D aA))(hw:gr [.obj 0,.d .str] (s,()))(hp:(fun _ x=>x.1.1.length<=1000000) (s,()) ((o,()),())):(dW (iR Tryz.B [35]) [] Tryz.f20 (Tryz.C6 s o) Tryz.gV [.obj 0,.d .str] Tryz.sX (s,()) ((o,()),())).holds:=by
 refine holds_of (p:=
  let za:=ae o
  let zb:=fun(F:Nat)=>0<=(↑F:Int)/\(↑F:Int)<(↑za:Int)
  let zc:=fun(F:Nat)=>eR (ag F o) s
  let zd:=fun(F:Nat)=>(↑F:Int)+1
  let ze:=fun(F:Nat)=>zc F++[nth aA o F]
  let zf:=(o=o/\True)/\True
  let zg:=(((fj o s).1,()),())
  let zh:=((fj o s).2,())
  (∃(x:Nat),x<=za/\(0=(↑x:Int)/\@af (List UInt8×List (List UInt8×Int×Int×Unit)×List (Int×Int×Int×Unit)×Unit)=eR (ag x o) s/\True)/\@af (List UInt8×List (List UInt8×Int×Int×Unit)×List (Int×Int×Int×Unit)×Unit)=eR (ag x o) s/\True)/\∀F:Nat,F<=za->za<=aN->((decide ((↑F:Int)<(↑za:Int)))=true->zb F/\((!(nth aA o F).1 == s)=true->zb F/\(zc F=zc F/\ae (zc F)+ae [nth aA o F]<=1000000000)/\(aR (↑F:Int)->aR 1->aR (zd F)/\∃(x':Nat),x'<=za/\za-x'<za-F/\(zd F=(↑x':Int)/\ze F=eR (ag x' o) s/\True)/\ze F=eR (ag x' o) s/\zf))/\((!(nth aA o F).1 == s)=false->aR (↑F:Int)->aR 1->aR (zd F)/\∃(x':Nat),x'<=za/\za-x'<za-F/\(zd F=(↑x':Int)/\zc F=eR (ag x' o) s/\True)/\zc F=eR (ag x' o) s/\zf))/\((decide ((↑F:Int)<(↑za:Int)))=false->ae (zc F)<=aN->za<=aN->(((↑(ae (zc F)):Int) == (↑za:Int))=true->True/\((o,()),())=zg/\(5,())=zh)/\(((↑(ae (zc F)):Int) == (↑za:Int))=false->True/\((zc F,()),())=zg/\(0,())=zh))) (by kernel_rfl) ?_
 dsimp -iota -proj -eta only;dsimp only at hp;refine⟨(⟨0,au _,⟨rfl,rfl,ad⟩,rfl,ad⟩),fun F q_0 h0=>iL (fun h1=>⟨(by omega),⟨fun h2=>⟨?a,?b,fun h3 h4=>⟨?c,?d⟩⟩,fun h2 h3 h4=>⟨?e,?f⟩⟩⟩) (fun h1 h2 h3=>iQ (fun h4=>(by rw[cd (by omega)]at h4;rw[Gg h4];exact⟨ad,rfl,rfl⟩)) (fun h4=>(by rw[cd (by omega)]at*;rw[Gh h4];exact⟨ad,rfl,rfl⟩)))⟩
 case a=>
  simp only[bl,reduceCtorEq]at h2;omega
 case b=>
  simp only[bl,reduceCtorEq]at h2;refine⟨rfl,?_⟩;have h1:=H8 (o.take F) s;rw[ax]at h1;rw[bb];have:o.length<=1000000:=hp;omega
 case c|e=>
  simp only[bl,reduceCtorEq]at h2;simp only[aR,aN]at*;omega
 case d=>
  simp only[bl,reduceCtorEq]at h2;exact⟨F+1,by omega,by omega,⟨by omega,(w8 (by omega) h2).symm,ad⟩,(w8 (by omega) h2).symm,(by trivial)⟩
 case f=>
  simp only[bl,reduceCtorEq]at h2;exact⟨F+1,by omega,by omega,⟨by omega,(w9 (by omega) h2).symm,ad⟩,(w9 (by omega) h2).symm,(by trivial)⟩
def Tryz.Ko:cF Tryz.prog Tryz.B.eT Tryz.X 20 false (bF Tryz.gV [.obj 0,.d .str] (fun _ x=>x.1.1.length<=1000000) Tryz.sX):=
 bN (B:=(iR Tryz.B [35])) (X:=Tryz.X) (bU.hint (l:=[35]) (cN Tryz.cL)) Tryz.func20 (by kernel_rfl) (fun(a:CD [.obj 0,.d .str]) (x:PD Tryz.gV)=>Tryz.C6 a.1 x.1.1) (fun(a:CD [.obj 0,.d .str]) (x:PD Tryz.gV) hw hp=>Kn a.1 x.1.1 hw hp)
def C7(a:List (D aI))(b:List (D aI)):eo:=[(0,fun st=>{X:=Nat,inv:=fun i=>i<=a.length/\∀j,j<i->nth aI a j=nth aI b j,dx:=fun i=>a.length-i,bX:=fun i=>[(5,sI i)],keep:=[0,1]})]
def yq(a:List (D aI))(b:List (D aI))(hw:gq [.slice aI,.slice aI] (a,b)):(eC Tryz.B [] Tryz.f83 (C7 a b) [.slice aI,.slice aI] [.bool] (fun x y=>y=(fun x=>kV x.1 x.2) x) (a,b)).holds:=by
 refine holds_of (p:=
  let za:=ae a
  let zb:=(↑(ae b):Int)
  let zc:=false=kV a b
  za<=aN->ae b<=aN->(((↑za:Int) != zb)=true->zc)/\(((↑za:Int) != zb)=false->(∃(x:Nat),(x<=za/\∀(j:Nat),j<x->nth aI a j=nth aI b j)/\(0=(↑x:Int)/\True)/\True)/\∀F:Nat,(F<=za/\∀(j:Nat),j<F->nth aI a j=nth aI b j)->za<=aN->((decide ((↑F:Int)<(↑za:Int)))=true->(0<=(↑F:Int)/\(↑F:Int)<(↑za:Int))/\(0<=(↑F:Int)/\(↑F:Int)<zb)/\((!(decide ((nth aI a F).1=(nth aI b F).1)&&(decide ((nth aI a F).2.1=(nth aI b F).2.1)&&(decide ((nth aI a F).2.2.1=(nth aI b F).2.2.1)&&true))))=true->zc)/\((!(decide ((nth aI a F).1=(nth aI b F).1)&&(decide ((nth aI a F).2.1=(nth aI b F).2.1)&&(decide ((nth aI a F).2.2.1=(nth aI b F).2.2.1)&&true))))=false->aR (↑F:Int)->aR 1->aR ((↑F:Int)+1)/\∃(x':Nat),(x'<=za/\∀(j:Nat),j<x'->nth aI a j=nth aI b j)/\za-x'<za-F/\((↑F:Int)+1=(↑x':Int)/\True)/\True))/\((decide ((↑F:Int)<(↑za:Int)))=false->true=kV a b))) (by kernel_rfl) ?_
 dsimp -iota -proj -eta only;refine fun h0 h1=>iN (fun h2=>(Ho ‹_›)) (fun h2=>⟨(⟨0,⟨by omega,fun j hj=>by omega⟩,⟨rfl,ad⟩,ad⟩),fun F q_0 h3=>iL (fun h4=>⟨?a,?b,⟨fun h5 =>?c,fun h5 h6 h7=>⟨?d,?e⟩⟩⟩) (fun h4=>(FF ‹_› (fun i hi=>q_0.2 i (by omega))))⟩)
 case a|b=>omega
 case c=>
  simp only[bl,reduceCtorEq]at h5;exact JA (i:=F) (fun e=>by rw[e]at h5;simp at h5)
 case d=>
  simp only[bl,reduceCtorEq]at h5;simp only[aR,aN]at*;omega
 case e=>
  simp only[bl,reduceCtorEq]at h5;have h:=h5;simp at h;exact⟨F+1,⟨by omega,Hn q_0.2 (ch h.1 (ch h.2.1 (ch h.2.2 rfl)))⟩,by omega,⟨by omega,ad⟩,(by trivial)⟩
def Tryz.yr:cG Tryz.prog Tryz.B.eT Tryz.X 83 [.slice aI,.slice aI] [.bool] (fun _=>True) (fun x y=>y=(fun x=>kV x.1 x.2) x):=
 dk (X:=Tryz.X) (cN Tryz.cL) Tryz.func83 (by kernel_rfl) (fun x=>C7 x.1 x.2) (fun x hw hp=>yq x.1 x.2 hw)
def Tryz.Ad:List (FuncId×(Bool×bA)):=[(83,(true,dj [.slice aI,.slice aI] [.bool] (fun _=>True) (fun x=>kV x.1 x.2)))]
def Tryz.D5:bU Tryz.prog Tryz.B Tryz.X Tryz.Ad:=
 aU (aK Tryz.yr) (cN Tryz.cL)
def Ae(a:D aA)(b:D aA):eo:=[
 (0,fun st=>{X:=Nat,inv:=fun i=>i<=ae a.2.1,dx:=fun i=>ae a.2.1-i,bX:=fun i=>[(5,sI i)],keep:=[2,3]})]
def C8(a:D aA)(b:D aA)(hw:gq [aA,aA] (a,b)):(eC Tryz.B Tryz.Ad Tryz.f45 (Ae a b) [aA,aA] [.bool] (fun x y=>x.1=x.2->y=true) (a,b)).holds:=by
 refine holds_of (p:=
  let za:=a=b->false=true
  let zb:=a.2.1
  let zc:=ae zb
  let zd:=b.2.1
  let ze:=(↑(ae zd):Int)
  let zf:=b.2.2.1
  let zg:=a.2.2.1
  ((!a.1 == b.1)=true->za)/\((!a.1 == b.1)=false->zc<=aN->ae zd<=aN->(((↑zc:Int) != ze)=true->za)/\(((↑zc:Int) != ze)=false->(∃(x:Nat),x<=zc/\(0=(↑x:Int)/\True)/\True)/\∀F:Nat,F<=zc->zc<=aN->((decide ((↑F:Int)<(↑zc:Int)))=true->(0<=(↑F:Int)/\(↑F:Int)<(↑zc:Int))/\(0<=(↑F:Int)/\(↑F:Int)<ze)/\((!((nth aE zb F).1 == (nth aE zd F).1&&(decide ((nth aE zb F).2.1=(nth aE zd F).2.1)&&(decide ((nth aE zb F).2.2.1=(nth aE zd F).2.2.1)&&true))))=true->za)/\((!((nth aE zb F).1 == (nth aE zd F).1&&(decide ((nth aE zb F).2.1=(nth aE zd F).2.1)&&(decide ((nth aE zb F).2.2.1=(nth aE zd F).2.2.1)&&true))))=false->aR (↑F:Int)->aR 1->aR ((↑F:Int)+1)/\∃(x':Nat),x'<=zc/\zc-x'<zc-F/\((↑F:Int)+1=(↑x':Int)/\True)/\(b.1=b.1/\zd=zd/\zf=zf/\True)/\(a.1=a.1/\zb=zb/\zg=zg/\True)/\True))/\((decide ((↑F:Int)<(↑zc:Int)))=false->True/\(a=b->kV zg zf=true))))) (by kernel_rfl) ?_
 dsimp -iota -proj -eta only;refine⟨fun h0 =>?a,fun h0 h1 h2=>iN (fun h3 =>?b) (fun h3=>⟨?c,fun F q_0 h4=>iL (fun h5=>⟨?d,?e,⟨fun h6 =>?f,fun h6 h7 h8=>⟨?g,?h⟩⟩⟩) (fun h5=>⟨ad,?i⟩)⟩)⟩
 case a=>
  simp only[bl,reduceCtorEq]at h0;intro e;subst e;exact absurd rfl h0
 case b=>
  simp only[bl,reduceCtorEq]at h0;intro e;subst e;exact absurd rfl h3
 case c=>
  simp only[bl,reduceCtorEq]at h0;exact⟨0,by omega,⟨rfl,ad⟩,ad⟩
 case d|e=>
  simp only[bl,reduceCtorEq]at h0;omega
 case f=>
  simp only[bl,reduceCtorEq]at h0 h6;intro e;subst e;simp at h6
 case g=>
  simp only[bl,reduceCtorEq]at h0 h6;simp only[aR,aN]at*;omega
 case h=>
  simp only[bl,reduceCtorEq]at h0 h6;exact⟨F+1,by omega,by omega,⟨by omega,ad⟩,(by trivial)⟩
 case i=>
  simp only[bl,reduceCtorEq]at h0;intro e;subst e;exact decide_eq_true rfl
def Tryz.C9:cG Tryz.prog Tryz.B.eT Tryz.X 45 [aA,aA] [.bool] (fun _=>True) (fun x y=>x.1=x.2->y=true):=
 dk (X:=Tryz.X) Tryz.D5 Tryz.func45 (by kernel_rfl) (fun x=>Ae x.1 x.2) (fun x hw hp=>C8 x.1 x.2 hw)
def Af(e:D aA):eo:=[
 (0,fun st=>{X:=Nat,inv:=fun i=>i<=e.2.1.length/\∀j,j<i->(nth aE e.2.1 j).1.length<=20,dx:=fun i=>e.2.1.length-i,bX:=fun i=>[(3,sI i)],keep:=[1]})]
def Aw(e:D aA)(hw:gq [aA] e):(eC Tryz.B [] Tryz.f56 (Af e) [aA] [.bool] (fun e y=>y=true->oh e) e).holds:=by
 refine holds_of (p:=
  let za:=false=true->oh e
  let zb:=e.2.1
  let zc:=ae zb
  let zd:=e.2.2.1
  let ze:=fun(F:Nat)=>ae (nth aE zb F).1
  ae e.1<=aN->((decide ((↑(ae e.1):Int) > 20))=true->za)/\((decide ((↑(ae e.1):Int) > 20))=false->zc<=aN->((decide ((↑zc:Int) > 8))=true->za)/\((decide ((↑zc:Int) > 8))=false->ae zd<=aN->((decide ((↑(ae zd):Int) > 40))=true->za)/\((decide ((↑(ae zd):Int) > 40))=false->(∃(x:Nat),(x<=zc/\∀(j:Nat),j<x->ae (nth aE zb j).1<=20)/\(0=(↑x:Int)/\True)/\True)/\∀F:Nat,(F<=zc/\∀(j:Nat),j<F->ae (nth aE zb j).1<=20)->zc<=aN->((decide ((↑F:Int)<(↑zc:Int)))=true->(0<=(↑F:Int)/\(↑F:Int)<(↑zc:Int))/\(ze F<=aN->((decide ((↑(ze F):Int) > 20))=true->za)/\((decide ((↑(ze F):Int) > 20))=false->aR (↑F:Int)->aR 1->aR ((↑F:Int)+1)/\∃(x':Nat),(x'<=zc/\∀(j:Nat),j<x'->ae (nth aE zb j).1<=20)/\zc-x'<zc-F/\((↑F:Int)+1=(↑x':Int)/\True)/\(e.1=e.1/\zb=zb/\zd=zd/\True)/\True)))/\((decide ((↑F:Int)<(↑zc:Int)))=false->true=true->oh e))))) (by kernel_rfl) ?_
 dsimp -iota -proj -eta only;refine fun h0=>iL (fun h1 =>?a) (fun h1 h2=>iL (fun h3 =>?b) (fun h3 h4=>iL (fun h5 =>?c) (fun h5=>⟨?d,fun F q_0 h6=>iL (fun h7=>⟨(by omega),fun h8=>iL (fun h9 =>?e) (fun h9 h10 h11=>⟨(by simp only[aR,aN]at*;omega),(⟨F+1,⟨by omega,kg q_0.2 (by omega)⟩,by omega,⟨by omega,ad⟩,(by trivial)⟩)⟩)⟩) (fun h7=>(fun _=>⟨by omega,by omega,by omega,fun i hi=>q_0.2 i (by omega)⟩))⟩)))
 case a|b|c|e=>simp_all
 case d=>refine⟨0,?_⟩;(repeat' (first|exact trivial|rfl|omega|assumption|apply And.intro))
def Tryz.rq:cG Tryz.prog Tryz.B.eT Tryz.X 56 [aA] [.bool] (fun _=>True) (fun e y=>y=true->oh e):=
 dk (X:=Tryz.X) (cN Tryz.cL) Tryz.func56 (by kernel_rfl) (fun x=>Af x) (fun x hw hp=>Aw x hw)
def Tryz.spZ26:Bool×bA:=(true,mn [aA] [.bool] (fun _=>True) (fun e y=>y=true->oh e))
def Tryz.Da:List (FuncId×(Bool×bA)):=[(56,Tryz.spZ26)]
def Tryz.GD:bU Tryz.prog Tryz.B Tryz.X Tryz.Da:=
 aU (gi Tryz.rq) (cN Tryz.cL)
def Ag(l:List (D eX))(m:Int):eo:=[
 (0,fun st=>{X:=Nat×Int,inv:=fun x=>x.1<=l.length/\(0<=x.2/\x.2<=20000)/\∀j,j<x.1->sh (nth eX l j),dx:=fun x=>l.length-x.1,bX:=fun x=>[(6,sI x.1),(5,sI x.2)],keep:=[0]})]
def Db(l:List (D eX))(m:Int)(hw:gq [.slice eX,.int .i64] (l,m)):(eC (Fz Tryz.B) Tryz.Da Tryz.f15 (Ag l m) [.slice eX,.int .i64] [.bool] (fun x y=>y=true->nN x.1 x.2) (l,m)).holds:=by
 refine holds_of (p:=
  let za:=ae l
  let zb:=false=true->nN l m
  let zc:=fun(F:Nat×Int)=>(↑F.1:Int)<(↑za:Int)
  let zd:=fun(F:Nat×Int)=>0<=(↑F.1:Int)/\zc F
  let ze:=fun(F:Nat×Int)=>ae (nth eX l F.1).2.2.1
  let zf:=fun(F:Nat×Int)=>ae (nth eX l F.1).2.1
  za<=aN->((decide ((↑za:Int) > m))=true->zb)/\((decide ((↑za:Int) > m))=false->(∃(x:Nat×Int),(x.1<=za/\(0<=x.2/\x.2<=20000)/\∀(j:Nat),j<x.1->sh (nth eX l j))/\(0=(↑x.1:Int)/\0=x.2/\True)/\True)/\∀F:Nat×Int,(F.1<=za/\(0<=F.2/\F.2<=20000)/\∀(j:Nat),j<F.1->sh (nth eX l j))->za<=aN->((decide (zc F))=true->zd F/\(ze F<=aN->∀G:Int,G=ai aq (F.2+(↑(ze F):Int))->zd F/\(zf F<=aN->((decide ((↑(zf F):Int) > 100))=true->zb)/\((decide ((↑(zf F):Int) > 100))=false->zd F/\(ze F<=aN->((decide ((↑(ze F):Int) > 1300))=true->zb)/\((decide ((↑(ze F):Int) > 1300))=false->((decide (G > 20000))=true->zb)/\((decide (G > 20000))=false->zd F/\True/\∀I:Bool,(I=true->oh (nth eX l F.1).2.2.2.2.2.1)->((!I)=true->zb)/\((!I)=false->∀K:Int,K=ai aq ((↑F.1:Int)+1)->∃(x':Nat×Int),(x'.1<=za/\(0<=x'.2/\x'.2<=20000)/\∀(j:Nat),j<x'.1->sh (nth eX l j))/\za-x'.1<za-F.1/\(K=(↑x'.1:Int)/\G=x'.2/\True)/\True))))))))/\((decide (zc F))=false->true=true->nN l m))) (by kernel_rfl) ?_
 dsimp -iota -proj -eta only;refine fun h0=>iL (fun h1 =>?a) (fun h1=>⟨(by exact⟨(0,0),⟨by omega,by simp,fun j hj=>by simp only at hj;omega⟩,⟨rfl,rfl,ad⟩,ad⟩),fun F q_0 h2=>iL (fun h3=>⟨?b,fun h4 G q_1=>⟨?c,fun h5=>iL (fun h6 =>?d) (fun h6=>⟨?e,fun h7=>iL (fun h8 =>?f) (fun h8=>iL (fun h9 =>?g) (fun h9=>⟨?h,ad,fun I q_2=>iB (fun h10 =>?i) (fun h10 K q_3 =>?j)⟩))⟩)⟩⟩) (fun h3=>(fun _=>⟨by omega,fun i hi=>q_0.2.2 i (by omega)⟩))⟩)
 case a|d|f|g|i=>simp_all
 case b|c|e|h=>omega
 case j=>
  have hw2:ai aq (F.2+(ae (nth eX l F.1).2.2.1:Int))=F.2+(ae (nth eX l F.1).2.2.1:Int):=iu (by omega) (by omega);have hw3:ai aq ((F.1:Int)+1)=(F.1:Int)+1:=iu (by omega) (by have:(aN:Int)=9223372036854775807:=rfl;omega);exact⟨(F.1+1,_),⟨by omega,by simp only;omega,kg q_0.2.2 ⟨by omega,by omega,by simp_all⟩⟩,by simp only;omega,⟨by simp only;omega,rfl,ad⟩,(by trivial)⟩
def Tryz.Dc:cG Tryz.prog Tryz.B.eT Tryz.X 15 [.slice eX,.int .i64] [.bool] (fun _=>True) (fun x y=>y=true->nN x.1 x.2):=
 dk (B:=(Fz Tryz.B)) (X:=Tryz.X) (bU.wrap Tryz.GD) Tryz.func15 (by kernel_rfl) (fun x=>Ag x.1 x.2) (fun x hw hp=>Db x.1 x.2 hw)
end Go.Proofs.YtgokjhhcfemnhacGreatDoor

