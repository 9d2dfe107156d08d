/- A part of the proof that the law ConsoleSaysCard holds of the given program: facts that are used there. -/
import Derived.Test.YtgokjhhcfemnhabGreatDoorPart3
import Derived.Test.YtgokjhhcfemnhabGreatDoorChecked
import Derived.Lib.LaidTab
import Derived.Lib.ItoaNum
import Derived.Shelf.Strconv.Itoa3
import Derived.Shelf.Strconv.AtoiAll
import Derived.Shelf.Strings.Split
import Derived.Shelf.Small.Wraps
import Derived.Shelf.Strings.Prefix
import Derived.Shelf.LaysM
import Derived.Shelf.LaysC
import Derived.Sort.Grow
import Derived.Lib.SplitLaws
import Derived.Lib.Builder
import Derived.Lib.UnsafeStr
import Derived.Lib.Strings
import Derived.Lib.Slices
import Derived.Lib.Walk
import Derived.Laws.Externs
import Derived.Deep.Heap
import Derived.Shelf.RegionOpenPlain
import Derived.RangeFuncLeaves
import Derived.Shelf.Abstract
import Derived.WalkKit
import Derived.OwnWalkIn
import Derived.TacticsInMore
import Derived.LoopNIn
import Derived.LoopIn
import Derived.BigRegionIn
import Derived.Deep.LoopGhost
import Derived.Deep.RegionLaw
import Derived.Lib.SliceRun
import Derived.Shelf.SlicesG.Delete
import Derived.Deep.Upon
set_option linter.unusedSimpArgs false
set_option linter.unusedVariables false
set_option maxRecDepth 100000
set_option maxHeartbeats 4000000
set_option linter.defProp false
noncomputable section
open True renaming intro->ba
open List renaming length->bb,nil->bc,take->bf,map->bk,drop->bm,length_map->bw,length_append->bz,length_cons->b3,length_nil->b5,length_singleton->b9,length_take->cd,Perm->cm,replicate->cn,length_replicate->cu,range->cw,drop_zero->da,set->db,any->dd,take_of_length_le->de,length_eq_zero_iff->dr,length_eq_one_iff->dt,length_set->dT,length_drop->ed,append->ef,map_append->eg,mem_of_getElem?->eo,range_succ->e5,take_zero->e7,mem_filter->fb
open Int renaming toNat->bd,fdiv->bx,tmod->cr,not_lt->dm,not_le->dn,one_mul->dz,le_of_lt_add_one->eh
open Prod renaming snd->bg,fst->bh
open Go.IntKind renaming wrap->bj,i64->bo,u64->br,bits->b4,u8->b7,u32->cq
open Go.Lib renaming itoa->bp,countB->bq,trimSuffix->bu,splitB->cb,trimPrefix->cg,cell_of_heap->ch,hasPrefix->c7,atoiAll->df,frozen_of_heap->di,TabIs->dp,pow10Tab->dq,atoiSat->ds,nDigits_small->ei,decDigits_length->ej,splitB_all->ek,splitB_data->en,run_unsafeSliceData_row->ew
open UInt8 renaming toNat->bt
open BitVec renaming ofInt->b6,toNat->cf
open Nat renaming le_trans->b8,zero_le->ca,le_refl->cc,min->cj,not_lt_zero->cz,add_zero->du,lt_div_iff_mul_lt->e0
open Option renaming isNone->ck,map_eq_some_iff->c8,map_some->ep
open Go.Builtin renaming zeroCells->cp,clear_->ee,unsafeSliceData_->eu,unsafeString_->ey
open Go.Value renaming string->ct
open Bool renaming noConfusion->cy,eq_iff_iff->dk
open Go.Shelf renaming Ren->c6
open Go.Op renaming bytesLess->dc
open ByteArray renaming size->dh
open Array renaming length_toList->dj
open Go.Result renaming andThen->dv
open Go.Oper renaming upon_value->dw
open Go.Deep renaming nblk_setCell->dx,blk_setCell_other->dy
open And renaming intro->ec
open Go.World renaming shape?->er,os_setCells->e8,output_setCells->e9,heap_setCells_other->fa
open Go.Proofs.Lays renaming n103->fc,n102->fh,n146->fj
open Go.Proofs.LaysM renaming n171->fe
open Go.Proofs.LaysC renaming n172->fg
open Go.Extern.AbiNoEscape renaming same->fk
open Bool renaming false->ψ,true->φ
open Option renaming some->ξ,none->χ
open Decidable renaming decide->ρ
namespace Go.Proofs.YtgokjhhcfemnhabGreatDoor
open Go.Proofs.Tryz
open Go.Vg
def aE:Cx:={eT:=110,τ:=[(2,(.int .i64)),(3,(.int .i64)),(4,.bool),(5,(.int .u8)),(7,(.prod (.int .i64) (.prod (.int .i64) (.prod .bool (.prod (.int .u8) .unit))))),(9,.str),(12,(.int .u64)),(13,(.prod .str (.prod (.int .u64) .unit))),(18,(.prod .gu .unit)),(21,(.int .i32)),(22,(.slice ad2)),(25,.gu),(26,.gu),(29,.gu),(31,.gu),(32,.err),(33,.err),(36,.gu),(37,(.slice dD)),(38,Ur),(39,Ur),(40,.gu),(41,(.slice aC)),(42,(.prod (.slice aC) .unit)),(43,(.prod (.slice aC) .unit)),(44,(.int .u64)),(45,(.slice aJ)),(46,(.slice aQ)),(47,aC),(48,aC),(49,ad2),(50,ad2),(57,(.slice bS)),(64,(.slice .str)),(92,(.prod .gu (.prod .gu (.prod .str .unit)))),(93,(.prod .gu (.prod .gu (.prod .str .unit)))),(97,(.slice (.int .i64))),(98,bS),(99,bS),(105,.gu),(106,(.prod .gu (.prod (.int .i64) .unit))),(107,(.prod .gu (.prod (.int .i64) .unit))),(108,(.prod .gu (.prod .gu .unit))),(109,(.prod .gu (.prod .gu .unit))),(110,(.int .i64)),(112,(.prod .str (.prod (.int .i64) .unit))),(113,(.prod .str (.prod (.int .i64) .unit))),(117,dD),(118,dD),(124,aQ),(125,aQ),(126,aJ),(127,aJ),(142,(.slice aB)),(145,(.slice aT)),(146,(.slice aV)),(147,aB),(148,aB),(155,(.prod .gu (.prod .gu (.prod .gu (.prod .str .unit))))),(156,(.prod .gu (.prod .gu (.prod .gu (.prod .str .unit))))),(162,(.slice iJ)),(163,agC),(164,agC),(168,(.prod .gu (.prod (.int .i64) (.prod (.slice aC) .unit)))),(169,(.prod .gu (.prod (.int .i64) (.prod (.slice aC) .unit)))),(181,(.slice (.int .u8))),(197,(.slice (.slice (.int .i64)))),(201,aT),(202,aT),(203,aV),(204,aV),(212,(.int .u64)),(215,iJ),(216,iJ),(224,(.slice bE)),(225,bE),(226,bE),(243,(.prod .gu (.prod (.slice (.int .u8)) .unit))),(244,(.prod .gu (.prod (.slice (.int .u8)) .unit))),(248,(.int .u32)),(263,(.int .i64)),(270,(.int .i64)),(290,(.prod .str (.prod .str (.prod .err .unit)))),(291,(.prod .str (.prod .str (.prod .err .unit)))),(292,(.int .u64)),(305,(.prod (.int .u8) (.prod (.int .u8) .unit))),(306,(.prod (.int .u8) (.prod (.int .u8) .unit))),(311,(.prod .str .unit)),(312,(.prod .str .unit))],EI:=[(227,(600,4)),(255,(24,5)),(286,(20,44)),(287,(65,5)),(304,(256,5)),(307,(16,306)),(316,(32,5)),(317,(64,5)),(321,(0,16))],Γ:=[],N:=0,eqs:=[125,127],sE:=[25,26,29,31,242],vo:=[(105,(9,113))],AB:=[(244,5)]}
def bJ:TyOK prog aE:=ahh (n:=16) κ
structure aju (w:World):Prop where
 pow:dp prog w "internal/strconv.uint64pow10" .u64 dq
 max:∃m,w.cell? ⟨1,0,χ⟩=ξ (.int .i64 m)
 syn:∃ev,w.cell? ⟨2,0,χ⟩=ξ ev/\(ev=.nilIface\/∃te pe,ev=.iface te pe)
 rng:∃ev,w.cell? ⟨3,0,χ⟩=ξ ev/\(ev=.nilIface\/∃te pe,ev=.iface te pe)
def ajv:prog.globalNamed "internal/strconv.uint64pow10" =ξ 0:=by kernel_rfl
def Dq{w:World}{b o:Nat}{v:Value}(h:w.cell? ⟨b,o,χ⟩=ξ v):b<w.heap.size:=by
 unfold World.cell? at h;by_cases hb:b<w.heap.size
 ·exact hb
 ·have h0:w.heap[b]?=χ:=Array.getElem?_eq_none ω
  simp[h0]at h
def Ar{w w':World}{b o:Nat}(h:w'.heap[b]?=w.heap[b]?):w'.cell? ⟨b,o,χ⟩=w.cell? ⟨b,o,χ⟩:=by
 unfold World.cell?;rw[h]
def abz{P:Program}{w w':World}{nm:String}{g:Nat}(hg:P.globalNamed nm=ξ g)(h:w'.heap[g]?=w.heap[g]?):w'.var? P nm=w.var? P nm:=by
 unfold World.var?;rw[hg];simp[h]
def aH:Ext:=
 {ajU with
  AX:=aju
  JA:=[0,1,2,3]
  NC:=fun{w} h b hb=>by
   obtain⟨h1,⟨m,h2⟩,⟨e3,h3,_⟩,⟨e4,h4,_⟩⟩:=h;simp only[List.mem_cons,List.not_mem_nil,or_false]at hb;rcases hb with rfl|rfl|rfl|rfl
   ·have h1':=World.var?_cell ajv h1 0
    exact Dq (v:=.int .u64 1) (by simpa[dq]using h1')
   ·exact Dq h2
   ·exact Dq h3
   ·exact Dq h4
  FY:=fun{w w'} h hb=>by
   obtain⟨h1,⟨m,h2⟩,⟨e3,h3,h5⟩,⟨e4,h4,h6⟩⟩:=h;refine⟨?_,⟨m,?_⟩,⟨e3,?_,h5⟩,⟨e4,?_,h6⟩⟩
   ·unfold dp at h1 ⊢
    rw[abz ajv (hb 0 ς)];exact h1
   ·rw[Ar (hb 1 ς)];exact h2
   ·rw[Ar (hb 2 ς)];exact h3
   ·rw[Ar (hb 3 ς)];exact h4}
end Go.Proofs.YtgokjhhcfemnhabGreatDoor

namespace Go.Proofs.YtgokjhhcfemnhabGreatDoor
open Go.Proofs.Tryz
open Go.Vg Go.Mrl
def Qp(s:aA):cP:=[(0,fun st=>{X:=Nat,inv:=fun i=>i<=s.length/\∀j,j<i->kR j (bV s j)=ψ,bG:=fun i=>s.length-i,bB:=fun i=>[(15,.s (.one (.d (.int .i64) i)))],aK:=fun _=>[],keep:=[0,14],gZ:=[]})]
def Qq(s:aA):cP:=[(0,fun st=>{X:=Nat,inv:=fun i=>i<=s.length/\∀j,j<i->kR j (bV s j)=ψ,bG:=fun i=>s.length-i,bB:=fun i=>[(3,.s (.one (.d (.int .i64) i)))],aK:=fun _=>[],keep:=[0],gZ:=[]})]
def U1(s:aA):cP:=[(0,fun st=>{X:=Nat,inv:=fun i=>i<=s.length,bG:=fun i=>s.length-i,bB:=fun i=>[(8,.s (.one (.d (.int .i64) i))),(3,.s (.one (.d (.int .u32) (jt (s.take i)))))],aK:=fun _=>[],keep:=[0,7],gZ:=[]})]
def Qr(s:aA):cP:=[(0,fun st=>{X:=Nat,inv:=fun i=>i<=s.length,bG:=fun i=>s.length-i,bB:=fun i=>[(4,.s (.one (.d (.int .i64) i))),(3,.s (.one (.d (.int .i64) (jt (s.take i)))))],aK:=fun _=>[],keep:=[0],gZ:=[]})]
def afo(s:aA):(cH aE [] f49 (Qp s) [.str] [.err] (fun x y=>y=(fun s=>aP (aN s)) x) s).holds:=by
 refine ζ (p:=let za:=aP (aN s);let zb:=aR.no 1=za;let zc:=bb s;let zd:=fun(E:Nat)=>(↑(bt (bV s E)):Int);let ze:=aR.no 3=za;let zf:=fun(E:Nat)=>aF (↑E:Int)->aF 1->aF ((↑E:Int)+1)/\∃(x':Nat),(x'<=zc/\∀(j:Nat),j<x'->kR j (bV s j)=ψ)/\zc-x'<zc-E/\((↑E:Int)+1=(↑x':Int)/\True)/\True;let zg:=fun(E:Nat)=>((zd E != 95)=φ->ze)/\((zd E != 95)=ψ->zf E);let zh:=fun(E:Nat)=>(((↑E:Int) == 0)=φ->ze)/\(((↑E:Int) == 0)=ψ->((ρ (zd E<48))=φ->zg E)/\((ρ (zd E<48))=ψ->((ρ (zd E > 57))=φ->zg E)/\((ρ (zd E > 57))=ψ->zf E)));((s == @bc UInt8)=φ->zb)/\((s == @bc UInt8)=ψ->zc<=aG->((ρ ((↑zc:Int) > 8))=φ->zb)/\((ρ ((↑zc:Int) > 8))=ψ->zc<=aG->(∃(x:Nat),(x<=zc/\∀(j:Nat),j<x->kR j (bV s j)=ψ)/\(0=(↑x:Int)/\True)/\True)/\∀E:Nat,(E<=zc/\∀(j:Nat),j<E->kR j (bV s j)=ψ)->((ρ ((↑E:Int)<(↑zc:Int)))=φ->(0<=(↑E:Int)/\(↑E:Int)<(↑zc:Int))/\((ρ (zd E<97))=φ->zh E)/\((ρ (zd E<97))=ψ->((ρ (zd E > 122))=φ->zh E)/\((ρ (zd E > 122))=ψ->zf E)))/\((ρ ((↑E:Int)<(↑zc:Int)))=ψ->aR.nil=za)))) κ ?_
 dsimp -iota -proj -eta only;refine iQ (fun h0 =>?a) (fun h0 h1=>iL (fun h2 =>?b) (fun h2 h3=>⟨(⟨0,⟨ω,fun j hj=>by omega⟩,⟨rfl,ba⟩,ba⟩),fun E q_0=>iL (fun h4=>⟨?c,iL (fun h5=>iQ (fun h6 =>?d) (fun h6=>iL (fun h7=>iN (fun h8 =>?e) (fun h8 h9 h10=>⟨?f,?g⟩)) (fun h7=>iL (fun h8=>iN (fun h9 =>?h) (fun h9 h10 h11=>⟨?i,?j⟩)) (fun h8 h9 h10=>⟨?k,?l⟩)))) (fun h5=>iL (fun h6=>iQ (fun h7 =>?m) (fun h7=>iL (fun h8=>iN (fun h9 =>?n) (fun h9 h10 h11=>⟨?o,?p⟩)) (fun h8=>iL (fun h9=>iN (fun h10 =>?q) (fun h10 h11 h12=>⟨?r,?s⟩)) (fun h9 h10 h11=>⟨?t,?u⟩)))) (fun h6 h7 h8=>⟨?v,?w⟩))⟩) (fun h4 =>?x)⟩))
 case a|b=>rw[AI (by first|omega|simp[h0])];rfl
 case c|f|o|r|t=>omega
 case d|e|h|m|n|q=>
  have hl:s.length≠0:=fun e=>h0 (dr.1 e)
  rw[ke (i:=E) ω ω (ou.2 ω)];rfl
 case g|j|l|p|s|u|w=>exact⟨E+1,⟨ω,rh q_0.2 (nA.2 ω)⟩,ω,⟨ω,ba⟩,ba⟩
 case i|k|v=>simp only[aF,aG]at*;omega
 case x=>
  have hl:s.length≠0:=fun e=>h0 (dr.1 e)
  rw[xZ ω (fun i hi=>q_0.2 i ω)];rfl
def jD:aL:=bP [.str] [.err] (fun _=>True) (fun s=>aP (aN s))
def kx:aW prog aE.eT aH 49 φ jD:=
 aI (bO (X:=aH) (bK bJ) func49 κ (fun x=>Qp x) (fun x hw hp=>afo x))
def Qs(s:aA):(cH aE [] f50 (Qq s) [.str] [.int .i64] (fun x y=>y=(fun s=>aN s) x) s).holds:=by
 refine ζ (p:=let za:=bb s;let zb:=za<=aG;let zc:=(↑za:Int);let zd:=aN s;let ze:=fun(E:Nat)=>0<=(↑E:Int)/\(↑E:Int)<zc;let zf:=fun(E:Nat)=>(↑(bt (bV s E)):Int);let zg:=fun(E:Nat) =>!ρ (zf E<=122);let zh:=3=zd;let zi:=fun(E:Nat)=>aF (↑E:Int)->aF 1->aF ((↑E:Int)+1)/\∃(x':Nat),(x'<=za/\∀(j:Nat),j<x'->kR j (bV s j)=ψ)/\za-x'<za-E/\((↑E:Int)+1=(↑x':Int)/\True)/\True;let zj:=fun(E:Nat)=>(((↑E:Int) == 0)=φ->zh)/\(((↑E:Int) == 0)=ψ->zi E);let zk:=fun(E:Nat)=>(((↑E:Int) == 0)=φ->zh)/\(((↑E:Int) == 0)=ψ->((!zf E == 95)=φ->zh)/\((!zf E == 95)=ψ->zi E));let zl:=fun(E:Nat)=>ze E/\((zg E)=φ->zk E)/\((zg E)=ψ->zi E);zb->((ρ (zc<1))=φ->1=zd)/\((ρ (zc<1))=ψ->zb->((ρ (zc > 8))=φ->1=zd)/\((ρ (zc > 8))=ψ->(∃(x:Nat),(x<=za/\∀(j:Nat),j<x->kR j (bV s j)=ψ)/\(0=(↑x:Int)/\True)/\True)/\∀E:Nat,(E<=za/\∀(j:Nat),j<E->kR j (bV s j)=ψ)->zb->((ρ ((↑E:Int)<zc))=φ->ze E/\((ρ (zf E>=97))=φ->ze E/\ze E/\((ρ (zf E>=48))=φ->ze E/\((ρ (zf E<=57))=φ->((zg E)=φ->zj E)/\((zg E)=ψ->zi E))/\((ρ (zf E<=57))=ψ->zl E))/\((ρ (zf E>=48))=ψ->zl E))/\((ρ (zf E>=97))=ψ->ze E/\((ρ (zf E>=48))=φ->ze E/\((ρ (zf E<=57))=φ->zj E)/\((ρ (zf E<=57))=ψ->ze E/\zk E))/\((ρ (zf E>=48))=ψ->ze E/\zk E)))/\((ρ ((↑E:Int)<zc))=ψ->0=zd)))) κ ?_
 dsimp -iota -proj -eta only;refine fun h0=>iL (fun h1 =>?a) (fun h1 h2=>iL (fun h3 =>?b) (fun h3=>⟨(⟨0,⟨ω,fun j hj=>by omega⟩,⟨rfl,ba⟩,ba⟩),fun E q_0 h4=>iL (fun h5=>⟨?c,iE (fun h6=>⟨?d,?e,iE (fun h7=>⟨?f,iE (fun h8=>⟨fun h9=>iQ (fun h10 =>?g) (fun h10 h11 h12=>⟨?h,?i⟩),fun h9 h10 h11=>⟨?j,?k⟩⟩) (fun h8=>⟨?l,⟨fun h9=>iQ (fun h10 =>?m) (fun h10=>⟨fun h11 =>?n,fun h11 h12 h13=>⟨?o,?p⟩⟩),fun h9 h10 h11=>⟨?q,?r⟩⟩⟩)⟩) (fun h7=>⟨?s,⟨fun h8=>iQ (fun h9 =>?t) (fun h9=>⟨fun h10 =>?u,fun h10 h11 h12=>⟨?v,?w⟩⟩),fun h8 h9 h10=>⟨?x,?y⟩⟩⟩)⟩) (fun h6=>⟨?z,iE (fun h7=>⟨?a0,iE (fun h8=>iQ (fun h9 =>?a1) (fun h9 h10 h11=>⟨(by simp only[aF,aG]at*;omega),(⟨E+1,⟨ω,rh q_0.2 (nA.2 ω)⟩,ω,⟨ω,ba⟩,ba⟩)⟩)) (fun h8=>⟨?a2,iQ (fun h9 =>?a3) (fun h9=>⟨fun h10 =>?a4,fun h10 h11 h12=>⟨?a5,?a6⟩⟩)⟩)⟩) (fun h7=>⟨?a7,iQ (fun h8 =>?a8) (fun h8=>⟨fun h9 =>?a9,fun h9 h10 h11=>⟨?aa,?ab⟩⟩)⟩)⟩)⟩) (fun h5=>(by rw[xZ ω (fun i hi=>q_0.2 i ω)]))⟩))
 case a|b=>rw[AI ω]
 case c|d|e|f|l|s|z|a0|a2|a7=>omega
 case g|m|a9=>
  simp only[bl,reduceCtorEq]at h9;rw[ke (i:=E) ω ω (ou.2 ω)]
 case h|j|aa=>
  simp only[bl,reduceCtorEq]at h9;omega
 case i|k|r|ab=>
  simp only[bl,reduceCtorEq]at h9;exact⟨E+1,⟨ω,rh q_0.2 (nA.2 ω)⟩,ω,⟨ω,ba⟩,ba⟩
 case n=>
  simp only[bl,reduceCtorEq]at h9 h11;rw[ke (i:=E) ω ω (ou.2 ω)]
 case o=>
  simp only[bl,reduceCtorEq]at h9 h11;omega
 case p=>
  simp only[bl,reduceCtorEq]at h9 h11;exact⟨E+1,⟨ω,rh q_0.2 (nA.2 ω)⟩,ω,⟨ω,ba⟩,ba⟩
 case q=>
  simp only[bl,reduceCtorEq]at h9;simp only[aF,aG]at*;omega
 case t=>
  simp only[bl,reduceCtorEq]at h8;rw[ke (i:=E) ω ω (ou.2 ω)]
 case u=>
  simp only[bl,reduceCtorEq]at h8 h10;rw[ke (i:=E) ω ω (ou.2 ω)]
 case v=>
  simp only[bl,reduceCtorEq]at h8 h10;omega
 case w=>
  simp only[bl,reduceCtorEq]at h8 h10;exact⟨E+1,⟨ω,rh q_0.2 (nA.2 ω)⟩,ω,⟨ω,ba⟩,ba⟩
 case x=>
  simp only[bl,reduceCtorEq]at h8;omega
 case y=>
  simp only[bl,reduceCtorEq]at h8;exact⟨E+1,⟨ω,rh q_0.2 (nA.2 ω)⟩,ω,⟨ω,ba⟩,ba⟩
 case a1|a3|a8=>rw[ke (i:=E) ω ω (ou.2 ω)]
 case a4=>
  simp only[bl,reduceCtorEq]at h10;rw[ke (i:=E) ω ω (ou.2 ω)]
 case a5=>
  simp only[bl,reduceCtorEq]at h10;simp only[aF,aG]at*;omega
 case a6=>
  simp only[bl,reduceCtorEq]at h10;exact⟨E+1,⟨ω,rh q_0.2 (nA.2 ω)⟩,ω,⟨ω,ba⟩,ba⟩
def fO:aL:=bP [.str] [.int .i64] (fun _=>True) (fun s=>aN s)
def gA:aW prog aE.eT aH 50 φ fO:=
 aI (bO (X:=aH) (bK bJ) func50 κ (fun x=>Qq x) (fun x hw hp=>Qs x))
def ahO(s:aA):(cH aE [] Tryz.f156 (U1 s) [.str] [.int .u32] (fun x y=>y=(fun s=>(jt s:Int)) x) s).holds:=by
 refine ζ (p:=let za:=bb s;let zb:=b4 cq;let zc:=fun(G:Int)=>b6 zb G;za<=aG->(∃(x:Nat),x<=za/\((0:Int)=(↑x:Int)/\(0:Int)=(↑(jt (bf x s)):Int)/\True)/\True)/\∀E:Nat,E<=za->((ρ ((↑E:Int)<(↑za:Int)))=φ->(0:Int)<=(4:Int)/\∀F:Int,F=bj cq ((↑(jt (bf E s)):Int)*(2:Int)^min 4 zb)->((0:Int)<=(↑E:Int)/\(↑E:Int)<(↑za:Int))/\∀G:Int,G=bj cq (F+(↑(bt (bV s E)):Int))->∀I:Int,I=bj cq (↑(cf (zc G&&&b6 zb (4026531840:Int))):Int)->(0:Int)<=(24:Int)/\∀K:Int,K=bx I ((2:Int)^min 24 zb)->∀M:Int,M=bj cq (↑(cf (zc G^^^zc K)):Int)->∀Q:Int,Q=bj cq (↑(cf (zc M&&&~~~zc I)):Int)->aF (↑E:Int)->aF (1:Int)->aF ((↑E:Int)+(1:Int))/\∃(x':Nat),x'<=za/\za-x'<za-E/\((↑E:Int)+(1:Int)=(↑x':Int)/\Q=(↑(jt (bf x' s)):Int)/\True)/\True)/\((ρ ((↑E:Int)<(↑za:Int)))=ψ->(↑(jt (bf E s)):Int)=(↑(jt s):Int))) κ ?_
 dsimp -iota -proj -eta only;refine fun h0=>⟨(⟨0,ω,⟨rfl,rfl,ba⟩,ba⟩),fun E q_0=>iL (fun h1=>⟨?a,fun F q_1=>⟨ω,fun G q_2 I q_3=>⟨?b,fun K q_4 M q_5 Q q_6 h2 h3=>⟨(by simp only[aF,aG]at*;omega),(by exact⟨E+1,ω,ω,⟨ω,by rw[GC ω];exact ZH (E7 _) q_1 q_2 q_3 q_4 q_5 q_6,ba⟩,ba⟩)⟩⟩⟩⟩) (fun h1=>(by rw[de ω]))⟩
 case a|b=>trivial
def kG:aL:=bP [.str] [.int .u32] (fun _=>True) (fun s=>(jt s:Int))
def lj:aW prog aE.eT aH 156 φ kG:=
 aI (bO (X:=aH) (bK bJ) func156 κ (fun x=>U1 x) (fun x hw hp=>ahO x))
def afp(s:aA):(cH aE [] f83 (Qr s) [.str] [.int .i64] (fun x y=>y=(fun s=>(jt s:Int)) x) s).holds:=by
 refine ζ (p:=let za:=bb s;let zb:=fun(E:Nat)=>(↑(jt (bf E s)):Int);let zc:=(268435456:Int)≠(0:Int);(∃(x:Nat),x<=za/\((0:Int)=(↑x:Int)/\(0:Int)=(↑(jt (bf x s)):Int)/\True)/\True)/\∀E:Nat,E<=za->za<=aG->((ρ ((↑E:Int)<(↑za:Int)))=φ->∀F:Int,F=(16:Int)*zb E->aF (16:Int)->aF (zb E)->aF F/\((0:Int)<=(↑E:Int)/\(↑E:Int)<(↑za:Int))/\(aF F->aF (↑(bt (bV s E)):Int)->aF (F+(↑(bt (bV s E)):Int))/\(4294967296:Int)≠(0:Int)/\∀G:Int,G=cr (F+(↑(bt (bV s E)):Int)) (4294967296:Int)->zc/\∀I:Int,I=Int.tdiv G (268435456:Int)->aF G->aF (268435456:Int)->aF I/\zc/\∀K:Int,K=cr G (268435456:Int)->∀M:Int,M=(16:Int)*I->aF (16:Int)->aF I->aF M/\∀Q:Int,Q=bj bo (↑(cf (b6 (b4 bo) K^^^b6 (b4 bo) M)):Int)->aF (↑E:Int)->aF (1:Int)->aF ((↑E:Int)+(1:Int))/\∃(x':Nat),x'<=za/\za-x'<za-E/\((↑E:Int)+(1:Int)=(↑x':Int)/\Q=(↑(jt (bf x' s)):Int)/\True)/\True))/\((ρ ((↑E:Int)<(↑za:Int)))=ψ->zb E=(↑(jt s):Int))) κ ?_
 dsimp -iota -proj -eta only;refine⟨(⟨0,ω,⟨rfl,rfl,ba⟩,ba⟩),fun E q_0 h0=>iL (fun h1 F q_1 h2 h3=>⟨(by have:=E7 (s.take E);simp only[aF];omega),ω,fun h4 h5=>⟨(by have:=E7 (s.take E);have:=(bV s E).toNat_lt;simp only[aF];omega),?a,fun G q_2=>⟨?b,fun I q_3 h6 h7=>⟨?c,?d,fun K q_4 M q_5 h8 h9=>⟨?e,fun Q q_6 h10 h11=>⟨(by simp only[aF,aG]at*;omega),(by exact⟨E+1,ω,ω,⟨ω,by rw[GC ω];exact WH q_1 q_2 q_3 q_4 q_5 q_6,ba⟩,ba⟩)⟩⟩⟩⟩⟩⟩) (fun h1=>(by rw[de ω]))⟩
 case a|b|d=>trivial
 case c|e=>have q:=rh4 (rh3 q_1 q_2) q_3;simp only[aF];omega
def jq:aL:=bP [.str] [.int .i64] (fun _=>True) (fun s=>(jt s:Int))
def jE:aW prog aE.eT aH 83 φ jq:=
 aI (bO (X:=aH) (bK bJ) func83 κ (fun x=>Qr x) (fun x hw hp=>afp x))
def ahP(e:aR)(n:Int):(cH aE [] f11 [] [.err,.int .i64] [.bool] (fun x y=>y=(fun x=>nf x.1 x.2) x) (e,n)).holds:=by
 refine ζ (p:=let za:=nf e n;((aR.isNil e)=φ->(n == 0)=za)/\((aR.isNil e)=ψ->((aR.V0 e)=φ->((ρ (n > 0))=φ->(aR.num e == n)=za)/\((ρ (n > 0))=ψ->ψ=za))/\((aR.V0 e)=ψ->ψ=za))) κ ?_
 dsimp -iota -proj -eta only;refine⟨fun h0 =>?a,fun h0=>⟨fun h1=>iL (fun h2 =>?b) (fun h2 =>?c),fun h1 =>?d⟩⟩
 case a|b|c|d=>cases e <;> simp_all [aR.isNil,aR.V0,aR.num,nf] <;> omega
def lk:aL:=bP [.err,.int .i64] [.bool] (fun _=>True) (fun x=>nf x.1 x.2)
def lO:aW prog aE.eT aH 11 φ lk:=
 aI (bO (X:=aH) (bK bJ) func11 κ (fun _=>[]) (fun x hw hp=>ahP x.1 x.2))
def U2:List (FuncId×(Bool×aL)):=[(49,(φ,jD)),(50,(φ,fO)),(156,(φ,kG)),(83,(φ,jq)),(11,(φ,lk))]
def abA:bH prog aE aH U2:=
 aM kx (aM gA (aM lj (aM jE (aM lO (bK bJ)))))
def U3(e:D aC):cP:=[
 (0,fun st=>{X:=Nat,inv:=fun i=>i<=bb e.2.1/\∀j,j<i->eO (nth aJ e.2.1 j)=0,bG:=fun i=>bb e.2.1-i,bB:=fun i=>[(34,sI i)],keep:=[1,32,33]}),
 (2,fun st=>{X:=Nat,inv:=fun i=>i<=bb e.2.2.1/\∀j,j<i->dY e.2.1.length (nth aQ e.2.2.1 j)=0,bG:=fun i=>bb e.2.2.1-i,bB:=fun i=>[(73,sI i)],keep:=[1,71,72]})]
def abB(e:D aC):(cH aE U2 f30 (U3 e) [aC] [.err] (fun x y=>y=(fun e=>aP (bF e)) x) e).holds:=by
 refine ζ (p:=let za:=aP (aN e.1);let zb:=aP (bF e);let zc:=e.2.1;let zd:=bb zc;let ze:=zd<=aG;let zf:=(↑zd:Int);let zg:=aR.no (2:Int)=zb;let zh:=e.2.2.1;let zi:=bb zh;let zj:=fun(E:Nat)=>aP (aN (nth aJ zc E).1);let zk:=aR.no (1:Int)=zb;let zl:=fun(E:Nat)=>(nth aJ zc E).2.2.1;let zm:=fun(E:Nat)=>(↑E:Int)+(1:Int);let zn:=(e.1=e.1/\zc=zc/\zh=zh/\True)/\True;True/\((!aR.isNil za)=φ->za=zb)/\((!aR.isNil za)=ψ->ze->((ρ (zf<(1:Int)))=φ->zg)/\((ρ (zf<(1:Int)))=ψ->ze->((ρ (zf > (6:Int)))=φ->zg)/\((ρ (zf > (6:Int)))=ψ->zi<=aG->((ρ ((↑zi:Int) > (36:Int)))=φ->zg)/\((ρ ((↑zi:Int) > (36:Int)))=ψ->ze->(∃(x:Nat),(x<=zd/\∀(j:Nat),j<x->eO (nth aJ zc j)=(0:Int))/\((0:Int)=(↑x:Int)/\True)/\True)/\∀E:Nat,(E<=zd/\∀(j:Nat),j<E->eO (nth aJ zc j)=(0:Int))->((ρ ((↑E:Int)<zf))=φ->((0:Int)<=(↑E:Int)/\(↑E:Int)<zf)/\True/\((!aR.isNil (zj E))=φ->zj E=zb)/\((!aR.isNil (zj E))=ψ->((ρ ((nth aJ zc E).2.1<(1:Int)))=φ->zk)/\((ρ ((nth aJ zc E).2.1<(1:Int)))=ψ->((ρ ((nth aJ zc E).2.1 > (1000000:Int)))=φ->zk)/\((ρ ((nth aJ zc E).2.1 > (1000000:Int)))=ψ->((ρ (zl E<(0:Int)))=φ->zk)/\((ρ (zl E<(0:Int)))=ψ->((ρ (zl E>=(256:Int)))=φ->zk)/\((ρ (zl E>=(256:Int)))=ψ->(16:Int)≠(0:Int)/\∀F:Int,F=cr (zl E) (16:Int)->((F != (0:Int))=φ->zk)/\((F != (0:Int))=ψ->aF (↑E:Int)->aF (1:Int)->aF (zm E)/\∃(x':Nat),(x'<=zd/\∀(j:Nat),j<x'->eO (nth aJ zc j)=(0:Int))/\zd-x'<zd-E/\(zm E=(↑x':Int)/\True)/\zn)))))))/\((ρ ((↑E:Int)<zf))=ψ->zi<=aG->(∃(x:Nat),(x<=zi/\∀(j:Nat),j<x->dY zd (nth aQ zh j)=(0:Int))/\((0:Int)=(↑x:Int)/\True)/\True)/\∀F:Nat,(F<=zi/\∀(j:Nat),j<F->dY zd (nth aQ zh j)=(0:Int))->((ρ ((↑F:Int)<(↑zi:Int)))=φ->((0:Int)<=(↑F:Int)/\(↑F:Int)<(↑zi:Int))/\((ρ ((nth aQ zh F).1<(0:Int)))=φ->zk)/\((ρ ((nth aQ zh F).1<(0:Int)))=ψ->ze->((ρ ((nth aQ zh F).1>=zf))=φ->zk)/\((ρ ((nth aQ zh F).1>=zf))=ψ->((ρ ((nth aQ zh F).2.1<(0:Int)))=φ->zk)/\((ρ ((nth aQ zh F).2.1<(0:Int)))=ψ->((ρ ((nth aQ zh F).2.1>=(40:Int)))=φ->zk)/\((ρ ((nth aQ zh F).2.1>=(40:Int)))=ψ->((ρ ((nth aQ zh F).2.2.1<(-2147483648:Int)))=φ->zk)/\((ρ ((nth aQ zh F).2.2.1<(-2147483648:Int)))=ψ->((ρ ((nth aQ zh F).2.2.1 > (2147483647:Int)))=φ->zk)/\((ρ ((nth aQ zh F).2.2.1 > (2147483647:Int)))=ψ->aF (↑F:Int)->aF (1:Int)->aF (zm F)/\∃(x':Nat),(x'<=zi/\∀(j:Nat),j<x'->dY zd (nth aQ zh j)=(0:Int))/\zi-x'<zi-F/\(zm F=(↑x':Int)/\True)/\zn)))))))/\((ρ ((↑F:Int)<(↑zi:Int)))=ψ->aR.nil=zb))))))) κ ?_
 dsimp -iota -proj -eta only;refine⟨ba,iB (fun h0=>(by rw[xA (pS (cO _) h0)])) (fun h0 h1=>iL (fun h2=>(by rw[nF (eA (by assumption:(aP (aN e.1)).isNil=φ)) (.inl ω)];rfl)) (fun h2 h3=>iL (fun h4=>(by rw[nF (eA (by assumption:(aP (aN e.1)).isNil=φ)) (.inr (.inl ω))];rfl)) (fun h4 h5=>iL (fun h6=>(by rw[nF (eA (by assumption:(aP (aN e.1)).isNil=φ)) (.inr (.inr ω))];rfl)) (fun h6 h7=>⟨?a,fun E q_0=>iL (fun h8=>⟨?b,ba,iB (fun h9=>(by have hp:=pS (cO _) h9;rw[(gz (eA (by assumption:(aP (aN e.1)).isNil=φ)) (eP ω ω ω) q_0.2 ω (Hg hp) ω)])) (fun h9=>iL (fun h10=>(by rw[(gz (eA (by assumption:(aP (aN e.1)).isNil=φ)) (eP ω ω ω) q_0.2 ω (mi (eA h9) (.inl η)) δ)];rfl)) (fun h10=>iL (fun h11=>(by rw[(gz (eA (by assumption:(aP (aN e.1)).isNil=φ)) (eP ω ω ω) q_0.2 ω (mi (eA h9) (.inr (.inl η))) δ)];rfl)) (fun h11=>iL (fun h12=>(by rw[(gz (eA (by assumption:(aP (aN e.1)).isNil=φ)) (eP ω ω ω) q_0.2 ω (mi (eA h9) (.inr (.inr (.inl η)))) δ)];rfl)) (fun h12=>iE (fun h13=>(by rw[(gz (eA (by assumption:(aP (aN e.1)).isNil=φ)) (eP ω ω ω) q_0.2 ω (mi (eA h9) (.inr (.inr (.inr (.inl η))))) δ)];rfl)) (fun h13=>⟨θ,fun F q_1=>iN (fun h14=>(by have hb:=Aa h12 q_1;rw[(gz (eA (by assumption:(aP (aN e.1)).isNil=φ)) (eP ω ω ω) q_0.2 ω (mi (eA h9) (.inr (.inr (.inr (.inr (by rw[hb]at h14;exact(Int.lt_iff_le_and_ne.2 ⟨Int.emod_nonneg _ δ,fun e'=>h14 e'.symm⟩))))))) δ)];rfl)) (fun h14 h15 h16=>⟨?c,(by have hb:=Aa h12 q_1;exact⟨E+1,⟨ω,jM q_0.2 (Fv (eA h9) h10 h11 h12 (eh (show _<(255:Int)+1 from h13)) (hb.symm.trans h14))⟩,ω,⟨ω,ba⟩,θ⟩)⟩)⟩)))))⟩) (fun h8 h9=>⟨?d,fun F q_1=>iL (fun h10=>⟨?e,iL (fun h11=>(by rw[(gP (eA (by assumption:(aP (aN e.1)).isNil=φ)) (eP ω ω ω) (fun j hj=>q_0.2 j ω) q_1.2 ω (mj (.inl η)))];rfl)) (fun h11 h12=>iE (fun h13=>(by rw[(gP (eA (by assumption:(aP (aN e.1)).isNil=φ)) (eP ω ω ω) (fun j hj=>q_0.2 j ω) q_1.2 ω (mj (.inr (.inl η))))];rfl)) (fun h13=>iL (fun h14=>(by rw[(gP (eA (by assumption:(aP (aN e.1)).isNil=φ)) (eP ω ω ω) (fun j hj=>q_0.2 j ω) q_1.2 ω (mj (.inr (.inr (.inl η)))))];rfl)) (fun h14=>iE (fun h15=>(by rw[(gP (eA (by assumption:(aP (aN e.1)).isNil=φ)) (eP ω ω ω) (fun j hj=>q_0.2 j ω) q_1.2 ω (mj (.inr (.inr (.inr (.inl η))))))];rfl)) (fun h15=>iL (fun h16=>(by rw[(gP (eA (by assumption:(aP (aN e.1)).isNil=φ)) (eP ω ω ω) (fun j hj=>q_0.2 j ω) q_1.2 ω (mj (.inr (.inr (.inr (.inr (.inl η)))))))];rfl)) (fun h16=>iL (fun h17=>(by rw[(gP (eA (by assumption:(aP (aN e.1)).isNil=φ)) (eP ω ω ω) (fun j hj=>q_0.2 j ω) q_1.2 ω (mj (.inr (.inr (.inr (.inr (.inr η)))))))];rfl)) (fun h17 h18 h19=>⟨?f,(⟨F+1,⟨ω,jM q_1.2 (Hh η η η (eh (show _<(39:Int)+1 from h15)) η η)⟩,ω,⟨ω,ba⟩,θ⟩)⟩))))))⟩) (fun h10=>(by rw[Ci (eA (by assumption:(aP (aN e.1)).isNil=φ)) (eP ω ω ω) (fun j hj=>q_0.2 j ω) (fun j hj=>q_1.2 j ω)];rfl))⟩)⟩))))⟩
 case a|d=>exact⟨0,⟨ca _,fun j hj=>absurd hj (cz _)⟩,⟨rfl,ba⟩,ba⟩
 case b|e=>omega
 case c|f=>simp only[aF,aG]at*;omega
def CB:aL:=bP [aC] [.err] (fun _=>True) (fun e=>aP (bF e))
def Lo:aW prog aE.eT aH 30 φ CB:=
 aI (bO (X:=aH) abA func30 κ (fun x=>U3 x) (fun x hw hp=>abB x))
end Go.Proofs.YtgokjhhcfemnhabGreatDoor

namespace Go.Proofs.YtgokjhhcfemnhabGreatDoor
open Go.Proofs.Tryz
open Go.Shelf
def S9:c6:=⟨fun|103=>145|210=>190|206=>219|n=>n,fun|9=>9|4=>4|24=>208|3=>3|n=>n,fun|n=>n⟩
def ahQ:fc prog S9:={
 mixed:=by kernel_rfl
 f103:=func145.trans (congrArg ξ κ)
 f206:=func219.trans (congrArg ξ κ)
 f210:=func190.trans (congrArg ξ κ)
 t3:=underlying3
 a3:=isAgg3
 z3:=sizeOf3
 v3:=zeroValue3
 t4:=underlying4
 a4:=isAgg4
 z4:=sizeOf4
 v4:=zeroValue4
 t9:=underlying9
 a9:=isAgg9
 z9:=sizeOf9
 v9:=zeroValue9
 t24:=underlying208
 a24:=isAgg208
 z24:=sizeOf208
 v24:=zeroValue208}
open Go.RowKit in
def strings_CutPrefix(s p:ByteArray)(w:World) :
  Calls prog 145 #[.string s,.string p] w fun e w'=>e=.returned (.tuple #[.string ⟨(cg s.data.toList p.data.toList).toArray⟩,.bool (c7 s.data.toList p.data.toList)])/\w'=w:=Any.strings_CutPrefix ahQ s p w
def Qt:c6:=⟨fun|171=>61|243=>103|246=>132|283=>161|284=>162|285=>163|286=>164|129=>184|317=>199|318=>200|319=>201|320=>202|337=>224|338=>225|n=>n,fun|3=>3|9=>9|2=>2|4=>4|171=>255|0=>0|53=>44|37=>181|5=>5|173=>258|212=>286|51=>248|20=>20|213=>287|46=>212|232=>316|233=>317|n=>n,fun|17=>0|18=>6|19=>7|n=>n⟩
def afq:fe prog Qt:={
 mixed:=by kernel_rfl
 f129:=func184.trans (congrArg ξ κ)
 f171:=func61.trans (congrArg ξ κ)
 f243:=func103.trans (congrArg ξ κ)
 f246:=func132.trans (congrArg ξ κ)
 f283:=func161.trans (congrArg ξ κ)
 f284:=func162.trans (congrArg ξ κ)
 f285:=func163.trans (congrArg ξ κ)
 f286:=func164.trans (congrArg ξ κ)
 f317:=func199.trans (congrArg ξ κ)
 f318:=func200.trans (congrArg ξ κ)
 f319:=func201.trans (congrArg ξ κ)
 f320:=func202.trans (congrArg ξ κ)
 f337:=func224.trans (congrArg ξ κ)
 f338:=func225.trans (congrArg ξ κ)
 t0:=underlying0
 a0:=isAgg0
 z0:=sizeOf0
 v0:=zeroValue0
 t2:=underlying2
 a2:=isAgg2
 z2:=sizeOf2
 v2:=zeroValue2
 t3:=underlying3
 a3:=isAgg3
 z3:=sizeOf3
 v3:=zeroValue3
 t4:=underlying4
 a4:=isAgg4
 z4:=sizeOf4
 v4:=zeroValue4
 t5:=underlying5
 a5:=isAgg5
 z5:=sizeOf5
 v5:=zeroValue5
 t9:=underlying9
 a9:=isAgg9
 z9:=sizeOf9
 v9:=zeroValue9
 t20:=underlying20
 a20:=isAgg20
 z20:=sizeOf20
 v20:=zeroValue20
 t37:=underlying181
 a37:=isAgg181
 z37:=sizeOf181
 v37:=zeroValue181
 t46:=underlying212
 a46:=isAgg212
 z46:=sizeOf212
 v46:=zeroValue212
 t51:=underlying248
 a51:=isAgg248
 z51:=sizeOf248
 v51:=zeroValue248
 t53:=underlying44
 a53:=isAgg44
 z53:=sizeOf44
 v53:=zeroValue44
 t171:=underlying255
 a171:=isAgg255
 z171:=sizeOf255
 v171:=zeroValue255
 t173:=underlying258
 a173:=isAgg258
 z173:=sizeOf258
 v173:=zeroValue258
 t212:=underlying286
 a212:=isAgg286
 z212:=sizeOf286
 v212:=zeroValue286
 t213:=underlying287
 a213:=isAgg287
 z213:=sizeOf287
 t232:=underlying316
 a232:=isAgg316
 z232:=sizeOf316
 v232:=zeroValue316
 t233:=underlying317
 a233:=isAgg317
 z233:=sizeOf317
 v233:=zeroValue317
 g17:=by kernel_rfl
 g18:=by kernel_rfl
 g19:=by kernel_rfl
 i0:=by kernel_rfl
 i2:=by kernel_rfl
 i3:=by kernel_rfl
 i4:=by kernel_rfl
 i5:=by kernel_rfl
 i9:=by kernel_rfl
 i20:=by kernel_rfl
 i37:=by kernel_rfl
 i46:=by kernel_rfl
 i51:=by kernel_rfl
 i53:=by kernel_rfl
 i171:=by kernel_rfl
 i173:=by kernel_rfl
 i212:=by kernel_rfl
 i232:=by kernel_rfl
 i233:=by kernel_rfl
 m17:=by kernel_rfl
 m18:=by kernel_rfl
 m19:=by kernel_rfl}
open Go.RowKit Go.Sort Go.Lib in
def strconv_Itoa(n:Int)(h0 : -9223372036854775808<=n)(h1:n<=9223372036854775807)(w:World)(htab:dp prog w "internal/strconv.uint64pow10" .u64 dq) :
  Calls prog 61 #[.int .i64 n] w fun e w'=>e=.returned (.string ⟨(bp n).toArray⟩)/\∃k os,w'=grow (w.drewN k) os:=Any.strconv_Itoa afq n h0 h1 w htab
def Qu:c6:=⟨fun|172=>106|244=>137|245=>138|247=>169|279=>170|280=>171|281=>172|282=>173|287=>208|316=>209|171=>61|205=>210|321=>228|322=>229|243=>103|246=>132|283=>161|284=>162|285=>163|286=>164|129=>184|317=>199|318=>200|319=>201|320=>202|337=>224|338=>225|n=>n,fun|9=>9|3=>3|75=>33|76=>183|4=>4|5=>5|167=>263|37=>181|0=>0|85=>264|2=>2|168=>266|53=>44|175=>288|46=>212|210=>291|127=>282|145=>312|143=>310|21=>21|171=>255|173=>258|212=>286|51=>248|20=>20|213=>287|232=>316|233=>317|80=>246|n=>n,fun|15=>2|16=>3|17=>0|18=>6|19=>7|n=>n⟩
def FM:fg prog Qu:={
 mixed:=by kernel_rfl
 f129:=func184.trans (congrArg ξ κ)
 f171:=func61.trans (congrArg ξ κ)
 f172:=func106.trans (congrArg ξ κ)
 f205:=func210.trans (congrArg ξ κ)
 f243:=func103.trans (congrArg ξ κ)
 f244:=func137.trans (congrArg ξ κ)
 f245:=func138.trans (congrArg ξ κ)
 f246:=func132.trans (congrArg ξ κ)
 f247:=func169.trans (congrArg ξ κ)
 f279:=func170.trans (congrArg ξ κ)
 f280:=func171.trans (congrArg ξ κ)
 f281:=func172.trans (congrArg ξ κ)
 f282:=func173.trans (congrArg ξ κ)
 f283:=func161.trans (congrArg ξ κ)
 f284:=func162.trans (congrArg ξ κ)
 f285:=func163.trans (congrArg ξ κ)
 f286:=func164.trans (congrArg ξ κ)
 f287:=func208.trans (congrArg ξ κ)
 f316:=func209.trans (congrArg ξ κ)
 f317:=func199.trans (congrArg ξ κ)
 f318:=func200.trans (congrArg ξ κ)
 f319:=func201.trans (congrArg ξ κ)
 f320:=func202.trans (congrArg ξ κ)
 f321:=func228.trans (congrArg ξ κ)
 f322:=func229.trans (congrArg ξ κ)
 f337:=func224.trans (congrArg ξ κ)
 f338:=func225.trans (congrArg ξ κ)
 t0:=underlying0
 a0:=isAgg0
 z0:=sizeOf0
 v0:=zeroValue0
 t2:=underlying2
 a2:=isAgg2
 z2:=sizeOf2
 v2:=zeroValue2
 t3:=underlying3
 a3:=isAgg3
 z3:=sizeOf3
 v3:=zeroValue3
 t4:=underlying4
 a4:=isAgg4
 z4:=sizeOf4
 v4:=zeroValue4
 t5:=underlying5
 a5:=isAgg5
 z5:=sizeOf5
 v5:=zeroValue5
 t9:=underlying9
 a9:=isAgg9
 z9:=sizeOf9
 v9:=zeroValue9
 t20:=underlying20
 a20:=isAgg20
 z20:=sizeOf20
 v20:=zeroValue20
 t21:=underlying21
 a21:=isAgg21
 z21:=sizeOf21
 v21:=zeroValue21
 t37:=underlying181
 a37:=isAgg181
 z37:=sizeOf181
 v37:=zeroValue181
 t46:=underlying212
 a46:=isAgg212
 z46:=sizeOf212
 v46:=zeroValue212
 t51:=underlying248
 a51:=isAgg248
 z51:=sizeOf248
 v51:=zeroValue248
 t53:=underlying44
 a53:=isAgg44
 z53:=sizeOf44
 v53:=zeroValue44
 t75:=underlying33
 a75:=isAgg33
 z75:=sizeOf33
 v75:=zeroValue33
 t76:=underlying183
 a76:=isAgg183
 z76:=sizeOf183
 v76:=zeroValue183
 t85:=underlying264
 a85:=isAgg264
 z85:=sizeOf264
 v85:=zeroValue264
 t127:=underlying282
 a127:=isAgg282
 z127:=sizeOf282
 v127:=zeroValue282
 t143:=underlying310
 a143:=isAgg310
 z143:=sizeOf310
 v143:=zeroValue310
 t145:=underlying312
 a145:=isAgg312
 z145:=sizeOf312
 v145:=zeroValue312
 t167:=underlying263
 a167:=isAgg263
 z167:=sizeOf263
 v167:=zeroValue263
 t168:=underlying266
 a168:=isAgg266
 z168:=sizeOf266
 v168:=zeroValue266
 t171:=underlying255
 a171:=isAgg255
 z171:=sizeOf255
 v171:=zeroValue255
 t173:=underlying258
 a173:=isAgg258
 z173:=sizeOf258
 v173:=zeroValue258
 t175:=underlying288
 a175:=isAgg288
 z175:=sizeOf288
 v175:=zeroValue288
 t210:=underlying291
 a210:=isAgg291
 z210:=sizeOf291
 v210:=zeroValue291
 t212:=underlying286
 a212:=isAgg286
 z212:=sizeOf286
 v212:=zeroValue286
 t213:=underlying287
 a213:=isAgg287
 z213:=sizeOf287
 t232:=underlying316
 a232:=isAgg316
 z232:=sizeOf316
 v232:=zeroValue316
 t233:=underlying317
 a233:=isAgg317
 z233:=sizeOf317
 v233:=zeroValue317
 g15:=by kernel_rfl
 g16:=by kernel_rfl
 g17:=by kernel_rfl
 g18:=by kernel_rfl
 g19:=by kernel_rfl
 t80:=underlying246
 a80:=isAgg246
 z80:=sizeOf246
 v80:=zeroValue246
 i0:=by kernel_rfl
 i2:=by kernel_rfl
 i3:=by kernel_rfl
 i4:=by kernel_rfl
 i5:=by kernel_rfl
 i9:=by kernel_rfl
 i20:=by kernel_rfl
 i21:=by kernel_rfl
 i37:=by kernel_rfl
 i46:=by kernel_rfl
 i51:=by kernel_rfl
 i53:=by kernel_rfl
 i75:=by kernel_rfl
 i76:=by kernel_rfl
 i80:=by kernel_rfl
 i85:=by kernel_rfl
 i127:=by kernel_rfl
 i143:=by kernel_rfl
 i145:=by kernel_rfl
 i167:=by kernel_rfl
 i168:=by kernel_rfl
 i171:=by kernel_rfl
 i173:=by kernel_rfl
 i175:=by kernel_rfl
 i210:=by kernel_rfl
 i212:=by kernel_rfl
 i232:=by kernel_rfl
 i233:=by kernel_rfl
 m15:=by kernel_rfl
 m16:=by kernel_rfl
 m17:=by kernel_rfl
 m18:=by kernel_rfl
 m19:=by kernel_rfl
 c0:=by kernel_rfl
 c2:=by kernel_rfl
 c3:=by kernel_rfl
 c4:=by kernel_rfl
 c5:=by kernel_rfl
 c9:=by kernel_rfl
 c20:=by kernel_rfl
 c21:=by kernel_rfl
 c37:=by kernel_rfl
 c46:=by kernel_rfl
 c51:=by kernel_rfl
 c53:=by kernel_rfl
 c75:=by kernel_rfl
 c76:=by kernel_rfl
 c80:=by kernel_rfl
 c85:=by kernel_rfl
 c127:=by kernel_rfl
 c143:=by kernel_rfl
 c145:=by kernel_rfl
 c167:=by kernel_rfl
 c168:=by kernel_rfl
 c171:=by kernel_rfl
 c173:=by kernel_rfl
 c175:=by kernel_rfl
 c210:=by kernel_rfl
 c212:=by kernel_rfl
 c213:=by kernel_rfl
 c232:=by kernel_rfl
 c233:=by kernel_rfl}
open Go.RowKit in
def strconv_Atoi_ok(s:ByteArray)(hmax:s.size<=9223372036854775806)(v:Int)(h:df s.data.toList=.ok v)(w:World) :
  Calls prog 106 #[.string s] w fun e w'=>e=.returned (.tuple #[.int .i64 v,.nilIface])/\(w'=w\/∃t,w'=Lib.bytesWorld w 5 t):=Any.strconv_Atoi_ok FM s hmax v h w
open Go.RowKit in
def strconv_Atoi_syntax(s:ByteArray)(hlim:s.size<=281474976710656)(h:df s.data.toList=Go.Lib.NumEnd.syntax)(ev:Value)(w:World)(hv:w.cell? ⟨2,0,χ⟩=ξ ev)(hev:ev=.nilIface\/∃te pe,ev=.iface te pe) :
  Calls prog 106 #[.string s] w fun e w'=>∃N,e=.returned (.tuple #[.int .i64 (0),.iface 266 (.pointer (ξ ⟨N,0,χ⟩))])/\w.heap.size<=N/\w'.heap[N]?=ξ (.cells #[.string ⟨#[65,116,111,105]⟩,.string s,ev] 291 (0,0))/\Below w.heap.size w w':=Any.strconv_Atoi_syntax FM s hlim h ev w hv hev
open Go.RowKit in
def strconv_Atoi_range(s:ByteArray)(hlim:s.size<=281474976710656)(h:df s.data.toList=.range)(ev:Value)(w:World)(hv:w.cell? ⟨3,0,χ⟩=ξ ev)(hev:ev=.nilIface\/∃te pe,ev=.iface te pe) :
  Calls prog 106 #[.string s] w fun e w'=>∃N,e=.returned (.tuple #[.int .i64 (ds s.data.toList),.iface 266 (.pointer (ξ ⟨N,0,χ⟩))])/\w.heap.size<=N/\w'.heap[N]?=ξ (.cells #[.string ⟨#[65,116,111,105]⟩,.string s,ev] 291 (0,0))/\Below w.heap.size w w':=Any.strconv_Atoi_range FM s hlim h ev w hv hev
def Ta:c6:=⟨fun|102=>64|209=>105|207=>136|n=>n,fun|9=>9|4=>4|3=>3|n=>n,fun|n=>n⟩
def ahR:fh prog Ta:={
 mixed:=by kernel_rfl
 f102:=func64.trans (congrArg ξ κ)
 f207:=func136.trans (congrArg ξ κ)
 f209:=func105.trans (congrArg ξ κ)
 t3:=underlying3
 a3:=isAgg3
 z3:=sizeOf3
 v3:=zeroValue3
 t4:=underlying4
 a4:=isAgg4
 z4:=sizeOf4
 v4:=zeroValue4
 t9:=underlying9
 a9:=isAgg9
 z9:=sizeOf9
 v9:=zeroValue9}
open Go.RowKit Go.Lib in
def strings_TrimSuffix(s p:ByteArray)(w:World)(hs:s.size<=9223372036854775807) :
  Calls prog 64 #[.string s,.string p] w fun e w'=>e=.returned (.string ⟨(bu s.data.toList p.data.toList).toArray⟩)/\w'=w:=Any.strings_TrimSuffix ahR s p w hs
def Tb:c6:=⟨fun|146=>63|221=>104|268=>133|138=>134|143=>135|195=>165|197=>166|218=>167|219=>168|260=>203|217=>204|225=>205|224=>206|267=>207|266=>226|314=>227|n=>n,fun|9=>9|31=>64|3=>3|4=>4|0=>0|105=>260|21=>21|5=>5|46=>212|119=>304|139=>307|138=>306|146=>250|51=>248|n=>n,fun|1=>1|3=>4|4=>5|n=>n⟩
def U4:fj prog Tb:={
 mixed:=by kernel_rfl
 f138:=func134.trans (congrArg ξ κ)
 f143:=func135.trans (congrArg ξ κ)
 f146:=func63.trans (congrArg ξ κ)
 f195:=func165.trans (congrArg ξ κ)
 f197:=func166.trans (congrArg ξ κ)
 f217:=func204.trans (congrArg ξ κ)
 f218:=func167.trans (congrArg ξ κ)
 f219:=func168.trans (congrArg ξ κ)
 f221:=func104.trans (congrArg ξ κ)
 f224:=func206.trans (congrArg ξ κ)
 f225:=func205.trans (congrArg ξ κ)
 f260:=func203.trans (congrArg ξ κ)
 f266:=func226.trans (congrArg ξ κ)
 f267:=func207.trans (congrArg ξ κ)
 f268:=func133.trans (congrArg ξ κ)
 f314:=func227.trans (congrArg ξ κ)
 t0:=underlying0
 a0:=isAgg0
 z0:=sizeOf0
 v0:=zeroValue0
 t3:=underlying3
 a3:=isAgg3
 z3:=sizeOf3
 v3:=zeroValue3
 t4:=underlying4
 a4:=isAgg4
 z4:=sizeOf4
 v4:=zeroValue4
 t5:=underlying5
 a5:=isAgg5
 z5:=sizeOf5
 v5:=zeroValue5
 t9:=underlying9
 a9:=isAgg9
 z9:=sizeOf9
 v9:=zeroValue9
 t21:=underlying21
 a21:=isAgg21
 z21:=sizeOf21
 v21:=zeroValue21
 t31:=underlying64
 a31:=isAgg64
 z31:=sizeOf64
 v31:=zeroValue64
 t46:=underlying212
 a46:=isAgg212
 z46:=sizeOf212
 v46:=zeroValue212
 t51:=underlying248
 a51:=isAgg248
 z51:=sizeOf248
 v51:=zeroValue248
 t105:=underlying260
 a105:=isAgg260
 z105:=sizeOf260
 v105:=zeroValue260
 t119:=underlying304
 a119:=isAgg304
 z119:=sizeOf304
 t138:=underlying306
 a138:=isAgg306
 z138:=sizeOf306
 v138:=zeroValue306
 t139:=underlying307
 a139:=isAgg307
 z139:=sizeOf307
 v139:=zeroValue307
 t146:=underlying250
 a146:=isAgg250
 z146:=sizeOf250
 v146:=zeroValue250
 g1:=by kernel_rfl
 g3:=by kernel_rfl
 g4:=by kernel_rfl}
open Go.RowKit Go.Lib in
def strings_Split(s sep:ByteArray)(m:Int)(w:World)(hs:s.size<4294967281)(hm:w.cell? ⟨1,0,χ⟩=ξ (.int .i64 m))(h1:1<=sep.size) :
  Calls prog 63 #[.string s,.string sep] w fun e w'=>
   e=.returned (.slice (ξ ⟨w.heap.size,0,χ⟩) (bq s sep+1) (bq s sep+1))/\w'=w.alloc (.cells ((cb sep 0 (bq s sep) s).map ct).toArray 9):=Any.strings_Split U4 κ s sep m w hs hm h1
end Go.Proofs.YtgokjhhcfemnhabGreatDoor

namespace Go.Proofs.YtgokjhhcfemnhabGreatDoor
open Go.Proofs.Tryz
open Go.Vg Go.Mrl
def X9(w:World)(k:Nat)(os:Array Obj):Vg.Below w.heap.size w (Sort.grow (w.drewN k) os):=by
 refine⟨rfl,rfl,?_,fun i hi =>?_⟩
 ·show w.heap.size<=(w.heap++os).size
  simp
 ·show(w.heap++os)[i]?=w.heap[i]?
  rw[Array.getElem?_append,π hi]
def ahS{eT:TypeId}{n:Int}{O:aO}{w:World}{v:Value}(h:VR eT (.int .i64) n O w v):v=.int .i64 n/\-9223372036854775808<=n/\n<=9223372036854775807:=by
 obtain⟨h1,h2,h3⟩:=VR.one rfl h;exact⟨by simpa using h1,h2,h3⟩
def pf{eT:TypeId}{s:aA}{O:aO}{w:World}{v:Value}(h:VR eT .str s O w v):v=.string ⟨s.toArray⟩/\s.length<=aG:=by
 obtain⟨h1,h2⟩:=VR.one rfl h;exact⟨by simpa using h1,h2⟩
def CC{eT:TypeId}{s:aA}{O:aO}{w:World}(h:s.length<=aG):VR eT .str s O w (.string ⟨s.toArray⟩):=VR.dF rfl ⟨rfl,h⟩
def As:∀(k u:Nat),u<10^(k+1)->Lib.nDigits u<=k+1
 |0,u,h=>by rw[ei (by simpa using h)];exact cc _
 |k+1,u,h=>by
  by_cases hu:u<10
  ·rw[ei hu];omega
  ·rw[Lib.nDigits_big hu]
   have:=As k (u / 10) (by rw[Nat.pow_succ]at h;omega);omega
def Qv{n:Int}(h0 : -9223372036854775808<=n)(h1:n<=9223372036854775807):(bp n).length<=21:=by
 unfold bp;split
 ·rw[b3,ej]
  have:=As 19 n.natAbs ω;omega
 ·rw[ej]
  have:=As 19 n.toNat ω;omega
def lV:jj prog aE.eT aH 61 [.int .i64] [.str] (fun _=>True) (fun n y=>y=bp n):=by
 refine⟨⟨f61,func61,κ,κ⟩,fun O w n vs hG hO ha _ =>?_⟩;obtain⟨v,rfl,hv⟩:=ha;obtain⟨rfl,h0,h1⟩:=ahS hv;refine(strconv_Itoa n h0 h1 w hG.pow).mono ?_;rintro e w' ⟨rfl,k,os,rfl⟩;exact⟨[.string ⟨(bp n).toArray⟩],bp n,rfl,rfl,⟨_,rfl,CC (by have:=Qv h0 h1;unfold aG;omega)⟩,X9 w k os⟩
def s7:jj prog aE.eT aH 106 [.str] [.int .i64,.err] (fun s=>s.length<=281474976710656) (fun s y=>y=dG s):=by
 refine⟨⟨f106,func106,κ,κ⟩,fun O w s vs hG hO ha hs =>?_⟩;obtain⟨v,rfl,hv⟩:=ha;obtain⟨rfl,hl⟩:=pf hv;have hsz:(⟨s.toArray⟩:ByteArray).size=s.length:=by simp[dh]
 have hsl:(⟨s.toArray⟩:ByteArray).data.toList=s:=by simp
 cases ha:df s with
 |ok n=>
  refine(strconv_Atoi_ok ⟨s.toArray⟩ (by rw[hsz];omega) n (by rw[hsl];exact ha) w).mono ?_;rintro e w' ⟨rfl,hw⟩;obtain⟨b0,b1⟩:=Lib.atoiAll_bounds ha;refine⟨[.int .i64 n,.nilIface],(n,.nil),rfl,by unfold dG;rw[ha],⟨_,_,rfl,VR.dF rfl ⟨rfl,b0,b1⟩,⟨_,rfl,VR.dF rfl ⟨_,rfl,rfl⟩⟩⟩,?_⟩;rcases hw with rfl|⟨t,rfl⟩
  ·exact Vg.Below.refl _ _
  ·exact .of (Lib.bytesWorld_below _ _ _)
 |range=>
  obtain⟨ev,hv,he⟩:=hG.rng;obtain⟨b0,b1⟩:=Lib.atoiSat_bounds s;have hA:=strconv_Atoi_range ⟨s.toArray⟩ (by rw[hsz];exact hs) (by rw[hsl];exact ha) ev w hv he;rw[hsl]at hA;refine hA.mono ?_;rintro e w' ⟨N,rfl,_,_,hb⟩;exact⟨[.int .i64 (ds s),_],(ds s,.other),rfl,by unfold dG;rw[ha],⟨_,_,rfl,VR.dF rfl ⟨rfl,b0,b1⟩,⟨_,rfl,VR.dF rfl ⟨_,rfl,_,_,rfl,by decide+kernel⟩⟩⟩,.of hb⟩
 |_=>
  obtain⟨ev,hv,he⟩:=hG.syn;refine(strconv_Atoi_syntax ⟨s.toArray⟩ (by rw[hsz];exact hs) (by rw[hsl];exact ha) ev w hv he).mono ?_;rintro e w' ⟨N,rfl,_,_,hb⟩;exact⟨[.int .i64 0,_],(0,.other),rfl,by unfold dG;rw[ha],⟨_,_,rfl,VR.dF rfl ⟨rfl,δ,δ⟩,⟨_,rfl,VR.dF rfl ⟨_,rfl,_,_,rfl,by decide+kernel⟩⟩⟩,.of hb⟩
def qa:jj prog aE.eT aH 145 [.str,.str] [.str,.bool] (fun _=>True) (fun x y=>y=(cg x.1 x.2,c7 x.1 x.2)):=by
 refine⟨⟨f145,func145,κ,κ⟩,fun O w x vs hG hO ha _ =>?_⟩;obtain⟨s,p⟩:=x;obtain⟨v,vs',rfl,hv,u,rfl,hu⟩:=ha;obtain⟨rfl,hl⟩:=pf hv;obtain⟨rfl,_⟩:=pf hu;refine(strings_CutPrefix ⟨s.toArray⟩ ⟨p.toArray⟩ w).mono ?_;rintro e w' ⟨rfl,rfl⟩;have hle:(cg s p).length<=s.length:=by unfold cg;split <;> simp
 exact⟨[.string ⟨(cg s p).toArray⟩,.bool (c7 s p)],_,rfl,rfl,⟨_,_,rfl,CC (b8 hle hl),_,rfl,VR.dF rfl rfl⟩,Vg.Below.refl _ _⟩
def mT:jj prog aE.eT aH 64 [.str,.str] [.str] (fun _=>True) (fun x y=>y=bu x.1 x.2):=by
 refine⟨⟨f64,func64,κ,κ⟩,fun O w x vs hG hO ha _ =>?_⟩;obtain⟨s,p⟩:=x;obtain⟨v,vs',rfl,hv,u,rfl,hu⟩:=ha;obtain⟨rfl,hl⟩:=pf hv;obtain⟨rfl,_⟩:=pf hu;have hl:s.length<=aG:=hl;have hsz:(⟨s.toArray⟩:ByteArray).size=s.length:=by simp[dh]
 refine(strings_TrimSuffix ⟨s.toArray⟩ ⟨p.toArray⟩ w (by rw[hsz];exact hl)).mono ?_;rintro e w' ⟨rfl,rfl⟩;have hle:(bu s p).length<=s.length:=by unfold bu;split <;> simp
 exact⟨[.string ⟨(bu s p).toArray⟩],_,rfl,rfl,⟨_,rfl,CC (b8 hle hl)⟩,Vg.Below.refl _ _⟩
def s9:jj prog aE.eT aH 63 [.str,.str] [.slice .str] (fun x=>x.1.length<4294967281/\x.2.length=1) (fun x y=>y=parts (Uz x.2) x.1):=by
 refine⟨⟨f63,func63,κ,κ⟩,fun O w x vs hG hO ha hp =>?_⟩;obtain⟨s,p⟩:=x;obtain⟨hs,hp⟩:=hp;obtain⟨c,rfl⟩:∃c,p=[c]:=dt.1 hp
 obtain⟨v,vs',rfl,hv,u,rfl,hu⟩:=ha;obtain⟨rfl,hl⟩:=pf hv;obtain⟨rfl,_⟩:=pf hu;obtain⟨m,hm⟩:=hG.max;have hsz:(⟨s.toArray⟩:ByteArray).size=s.length:=by simp[dh]
 have h1:1<=(⟨#[c]⟩:ByteArray).size:=cc 1;refine(strings_Split ⟨s.toArray⟩ ⟨#[c]⟩ m w (by rw[hsz];exact hs) hm h1).mono ?_;rintro e w' ⟨rfl,rfl⟩;have hlen:=ek ⟨#[c]⟩ h1 0 _ ⟨s.toArray⟩ rfl;have hdat:=en ⟨#[c]⟩ 0 (bq ⟨s.toArray⟩ ⟨#[c]⟩) ⟨s.toArray⟩;have hcb:=Lib.countB_le ⟨#[c]⟩ h1 _ ⟨s.toArray⟩ (cc _);have hd:(cb ⟨#[c]⟩ 0 (bq ⟨s.toArray⟩ ⟨#[c]⟩) ⟨s.toArray⟩).map (·.data.toList)=parts c s:=by rw[hdat,<-vN,<-Lib.count_one]
 have hlf:(parts c s).length=bq ⟨s.toArray⟩ ⟨#[c]⟩ +1:=by rw[<-hd,bw,hlen]
 refine⟨[_],parts c s,rfl,rfl,⟨_,rfl,VR.dF rfl ⟨_,rfl,?_,.inr ⟨w.heap.size,0,bq ⟨s.toArray⟩ ⟨#[c]⟩ +1,by rw[hlf],by rw[hlf];exact cc _,fun i y hy =>?_⟩⟩⟩,(Vg.Below.refl _ w).alloc (cc _) _⟩
 ·rw[hlf];have hs:s.length<4294967281:=hs;rw[hsz]at hcb;unfold aG;omega
 ·have hyl:=oI c s y (eo hy)
  refine⟨[.string ⟨y.toArray⟩],⟨rfl,b8 hyl hl⟩,fun j u hj=>⟨?_,fun hh =>?_⟩⟩
  ·have hj0:j=0:=by
    rcases j with _|j
    ·rfl
    ·simp at hj
   subst hj0;simp at hj;subst hj;rw[<-hd,List.getElem?_map,c8]at hy;obtain⟨q,hq,rfl⟩:=hy;have hh:(w.alloc (.cells ((cb ⟨#[c]⟩ 0 (bq ⟨s.toArray⟩ ⟨#[c]⟩) ⟨s.toArray⟩).map ct).toArray 9)).heap[w.heap.size]?=ξ (.cells ((cb ⟨#[c]⟩ 0 (bq ⟨s.toArray⟩ ⟨#[c]⟩) ⟨s.toArray⟩).map ct).toArray 9 (0,0)):=heap_alloc_new w _;rw[ch hh];simp only[Ty.size,Nat.mul_one,Nat.zero_add,du,List.getElem?_toArray,List.getElem?_map,hq,ep]
  ·have:=hO _ _ hh
   simp at this
def spZ0:Bool×aL:=(φ,bP [.int .i64] [.str] (fun _=>True) (fun n=>bp n))
def Qw:List (FuncId×(Bool×aL)):=[(49,(φ,jD)),(50,(φ,fO)),(156,(φ,kG)),(83,(φ,jq)),(11,(φ,lk)),(61,spZ0),(30,(φ,CB))]
def Ya:bH prog aE aH Qw:=
 aM kx (aM gA (aM lj (aM jE (aM lO (aM (aI lV) (aM Lo (bK bJ)))))))
def Qx(e:D aC):cP:=[
 (0,fun st=>{X:=Nat,inv:=fun i=>i<=bb e.2.1,bG:=fun i=>bb e.2.1-i,bB:=fun i=>[(35,sI i),(6,sS (iw e i))],keep:=[1,2,3,5,33,34]}),
 (2,fun st=>{X:=Nat,inv:=fun i=>i<=bb e.2.2.1,bG:=fun i=>bb e.2.2.1-i,bB:=fun i=>[(60,sI i),(6,sS (gT e i))],keep:=[2,3,5,58,59]})]
def afr(e:D aC):(cH (gy aE [23,30,47,53,68,74,80]) Qw f29 (Qx e) [aC] [.str,.err] (fun x y=>y=(fun e=>dM e) x) e).holds:=by
 refine ζ (p:=let za:=aP (bF e);let zb:=[(32:UInt8)];let zc:=bb zb;let zd:=e.2.1;let ze:=bb zd;let zf:=e.2.2.1;let zg:=bb zf;let zh:=bp (↑ze:Int);let zi:=e.1++zb++zh;let zj:=bp (↑zg:Int);let zk:=fun(E:Nat)=>zb++(nth aJ zd E).1;let zl:=fun(E:Nat)=>bp (nth aJ zd E).2.1;let zm:=fun(E:Nat)=>zk E++zb++zl E++zb;let zn:=fun(E:Nat)=>bp (nth aJ zd E).2.2.1;let zo:=fun(E:Nat)=>(↑E:Int)+1;let zp:=(e.1=e.1/\zd=zd/\zf=zf/\True)/\True;let zq:=fun(F:Nat)=>zb++bp (nth aQ zf F).1;let zr:=fun(F:Nat)=>zq F++zb++bp (nth aQ zf F).2.1;let zs:=fun(F:Nat)=>bp (nth aQ zf F).2.2.1;True/\((!aR.isNil za)=φ->([],za)=dM e)/\((!aR.isNil za)=ψ->bb e.1+zc<=aG/\(ze<=aG->zg<=aG->True/\bb (e.1++zb)+bb zh<=aG/\bb zi+zc<=aG/\True/\bb (zi++zb)+bb zj<=aG/\(ze<=aG->(∃(x:Nat),x<=ze/\(0=(↑x:Int)/\zi++zb++zj=iw e x/\True)/\True)/\∀E:Nat,E<=ze->((ρ ((↑E:Int)<(↑ze:Int)))=φ->(0<=(↑E:Int)/\(↑E:Int)<(↑ze:Int))/\zc+bb (nth aJ zd E).1<=aG/\bb (zk E)+zc<=aG/\True/\bb (zk E++zb)+bb (zl E)<=aG/\bb (zk E++zb++zl E)+zc<=aG/\True/\bb (zm E)+bb (zn E)<=aG/\bb (iw e E)+bb (zm E++zn E)<=aG/\(aF (↑E:Int)->aF 1->aF (zo E)/\∃(x':Nat),x'<=ze/\ze-x'<ze-E/\(zo E=(↑x':Int)/\iw e E++(zm E++zn E)=iw e x'/\True)/\zp))/\((ρ ((↑E:Int)<(↑ze:Int)))=ψ->zg<=aG->(∃(x:Nat),x<=zg/\(0=(↑x:Int)/\iw e E=gT e x/\True)/\True)/\∀F:Nat,F<=zg->((ρ ((↑F:Int)<(↑zg:Int)))=φ->(0<=(↑F:Int)/\(↑F:Int)<(↑zg:Int))/\True/\zc+bb (bp (nth aQ zf F).1)<=aG/\bb (zq F)+zc<=aG/\True/\bb (zq F++zb)+bb (bp (nth aQ zf F).2.1)<=aG/\bb (zr F)+zc<=aG/\True/\bb (zr F++zb)+bb (zs F)<=aG/\bb (gT e F)+bb (zr F++zb++zs F)<=aG/\(aF (↑F:Int)->aF 1->aF (zo F)/\∃(x':Nat),x'<=zg/\zg-x'<zg-F/\(zo F=(↑x':Int)/\gT e F++(zr F++zb++zs F)=gT e x'/\True)/\zp))/\((ρ ((↑F:Int)<(↑zg:Int)))=ψ->bb (gT e F)+bb [(10:UInt8)]<=aG/\(gT e F++[(10:UInt8)],aR.nil)=dM e)))))) κ ?_
 dsimp -iota -proj -eta only;refine⟨ba,iB (fun h0=>(Xw (fun e=>by rw[aZ.2 e]at h0;cases h0))) (fun h0=>⟨?a,fun h1 h2=>⟨ba,?b,?c,ba,?d,fun h3=>⟨(⟨0,ω,⟨rfl,(Hi e).symm,ba⟩,ba⟩),fun E q_0=>iL (fun h4=>⟨?e,?f,?g,ba,?h,?i,ba,?j,?k,fun h5 h6=>⟨?l,(⟨E+1,ω,ω,⟨ω,Xu ω,ba⟩,θ⟩)⟩⟩) (fun h4 h5=>⟨(⟨0,ω,⟨rfl,by rw[Hj,show E=e.2.1.length by omega],ba⟩,ba⟩),fun F q_1=>iL (fun h6=>⟨?m,ba,?n,?o,ba,?p,?q,ba,?r,?s,fun h7 h8=>⟨?t,(⟨F+1,ω,ω,⟨ω,Xv ω,ba⟩,θ⟩)⟩⟩) (fun h6=>⟨(by have a:=(kZ (aZ.1 h0)).B3 F;simp only[bz,b3,b5,aG];omega),(aau (aZ.1 h0) ω)⟩)⟩)⟩⟩⟩)⟩
 case a|b|c|d=>have a:=(kZ (aZ.1 h0)).lens;simp only[bz,b3,b5,aG];omega
 case e|m=>omega
 case f|g|h|i|j|k=>have a:=(kZ (aZ.1 h0)).agI (i:=E) ω;simp only[bz,b3,b5,aG];omega
 case l|t=>simp only[aF,aG]at*;omega
 case n|o|p|q|r|s=>have a:=(kZ (aZ.1 h0)).agJ (i:=F) ω;simp only[bz,b3,b5,aG];omega
def At:aL:=bP [aC] [.str,.err] (fun _=>True) (fun e=>dM e)
def FN:aW prog aE.eT aH 29 φ At:=
 aI (bO (B:=(gy aE [23,30,47,53,68,74,80])) (X:=aH) (bH.hint (l:=[23,30,47,53,68,74,80]) Ya) func29 κ (fun x=>Qx x) (fun x hw hp=>afr x))
end Go.Proofs.YtgokjhhcfemnhabGreatDoor

namespace Go.Proofs.YtgokjhhcfemnhabGreatDoor
open Go.Proofs.Tryz
open Go.RowKit Go.Vg
def szB:(prog.info? 244).map (·.size)=ξ 2:=by kernel_rfl
def lyB:liesAt prog prog.depth 244 (2 / prog.cellsOf 244) 0 244 1=φ:=by kernel_rfl
set_option maxHeartbeats 1000000 in
set_option maxRecDepth 100000 in
def Yb(b:Nat)(v:Value)(w:World)(hb:w.heap[b]?=ξ (.cells #[.pointer (ξ ⟨b,0,χ⟩),v] 244 (0,0))) :
  Calls prog 194 #[.pointer (ξ ⟨b,0,χ⟩)] w fun e w'=>e=.returned (.tuple #[])/\w'=w:=by
 obtain⟨j,hj,_⟩:=c8.1 szB;have h0:w.cell? ⟨b,0,χ⟩=ξ (.pointer (ξ ⟨b,0,χ⟩)):=by rw[ch hb];rfl
 go_enter func194,ntmps194
 go_wp2
 rw[Lib.run_neq_ptr_same w _ underlying242 hj]
 go_wp2
 go_end0
 exact⟨rfl,rfl⟩
set_option maxHeartbeats 1000000 in
set_option maxRecDepth 100000 in
def Td(b:Nat)(v:Value)(w:World)(hb:w.heap[b]?=ξ (.cells #[.pointer χ,v] 244 (0,0))) :
  Calls prog 194 #[.pointer (ξ ⟨b,0,χ⟩)] w fun e w'=>e=.returned (.tuple #[])/\w'=w.setCell ⟨b,0,χ⟩ (.pointer (ξ ⟨b,0,χ⟩)):=by
 obtain⟨j,hj,hjs⟩:=c8.1 szB;have h0:w.cell? ⟨b,0,χ⟩=ξ (.pointer χ):=by rw[ch hb];rfl
 have hsh:w.shape? b=ξ (244,2):=by simp[er,hb]
 have hfz:w.frozen? ⟨b,0,χ⟩=ψ:=di hb 0
 go_enter func194,ntmps194
 go_wp2
 rw[Lib.run_to_unsafe w ⟨b,0,χ⟩ underlying242 underlying302 hj (by rw[hjs];decide) hsh (Nat.zero_lt_succ 1)];simp only[dv];rw[dw]
 go_wp2
 rw[run_callFunc_extern func222 κ κ κ (e:=fk) κ];rw[Lib.run_noEscape];simp only[dv];rw[dw]
 go_wp2
 rw[Lib.run_from_unsafe w ⟨b,0,χ⟩ underlying302 underlying242 hj hsh lyB];simp only[dv];rw[dw]
 go_wp2
 go_end0
 exact⟨rfl,rfl⟩
def byI:(prog.info? 5).map (fun i=>(i.zero,i.size,i.bytes))=ξ (ξ (.int .u8 0),1,1):=by kernel_rfl
def akx:prog.cellsOf 5=1:=by kernel_rfl
set_option maxHeartbeats 2000000 in
set_option maxRecDepth 100000 in
def abC(b:Nat)(p v:Value)(xs:List Value)(s:ByteArray)(w:World)(hb:w.heap[b]?=ξ (.cells #[p,v] 244 (0,0)))(hp:p=.pointer χ\/p=.pointer (ξ ⟨b,0,χ⟩))
  (hown:w.ownsRow 0 5 1 v xs.length xs)(hne:v.ownBlock≠ξ b)(hcap:∀a n c,v=.slice (ξ a) n c->0<c)(hlen:xs.length+s.size<=140737488355328) :
  Calls prog 148 #[.pointer (ξ ⟨b,0,χ⟩),.string s] w fun e w'=>e=.returned (.tuple #[.int .i64 s.size,.nilIface])/\
   ∃v',w'.heap[b]?=ξ (.cells #[.pointer (ξ ⟨b,0,χ⟩),v'] 244 (0,0))/\w'.ownsRow 0 5 1 v' (xs.length+s.size) (xs++Lib.strCells s)/\v'.ownBlock≠ξ b/\Kept b v w w'/\
    (∀a n c,v'=.slice (ξ a) n c->0<c)/\(∀g,v'.ownBlock=ξ g->v.ownBlock=ξ g\/w.heap.size<=g):=by
 obtain⟨i0,hi,hz0⟩:=c8.1 byI;simp only[Prod.mk.injEq]at hz0;obtain⟨hz0,hz1,hz2⟩:=hz0;have hchk:Calls prog 194 #[.pointer (ξ ⟨b,0,χ⟩)] w fun e w1=>e=.returned (.tuple #[])/\w1.heap[b]?=ξ (.cells #[.pointer (ξ ⟨b,0,χ⟩),v] 244 (0,0))/\
   w1.os=w.os/\w1.output=w.output/\w1.heap.size=w.heap.size/\∀k,k≠b->w1.heap[k]?=w.heap[k]?:=by
  rcases hp with rfl|rfl
  ·refine(Td b v w hb).mono ?_
   rintro e w1 ⟨rfl,rfl⟩;exact⟨rfl,(ad3 hb).trans ς,rfl,rfl,dx _ _ _,fun k hk=>dy _ _ _ _ hk⟩
  ·refine(Yb b v w hb).mono ?_
   rintro e w1 ⟨rfl,rfl⟩;exact⟨rfl,hb,rfl,rfl,rfl,fun _ _=>rfl⟩
 go_enter func148,ntmps148
 go_wp2_with (go_at_call 194;refine hchk.mono ?_)
 rintro e w1 ⟨rfl,hb1,ho1,hu1,hs1,hk1⟩;have hown1:w1.ownsRow 0 5 1 v xs.length xs:=by
  refine⟨hown.1,?_⟩;rcases hown.2 with h|⟨g,cap,cur,h1,h2,h3,h4⟩
  ·exact .inl h
  ·refine .inr ⟨g,cap,cur,h1,h2,?_,h4⟩
   rw[hk1 g (fun e=>hne (by rw[h1,e];rfl))];exact h3
 have c0:w1.cell? ⟨b,0,χ⟩=ξ (.pointer (ξ ⟨b,0,χ⟩)):=by rw[ch hb1];rfl
 have c1:w1.cell? ⟨b,1,χ⟩=ξ v:=by rw[ch hb1];rfl
 obtain⟨v',w2,hrun,hown',hgrow,hcap',hnew⟩:=ahi (t:=181) (u:=9) (ty:=181) underlying181 underlying9 hi hz0 hz1 hz2 hown1 hcap s hlen;have hlt:b<w1.heap.size:=(Array.getElem?_eq_some_iff.1 hb1).1;have hb2:w2.heap[b]?=ξ (.cells #[.pointer (ξ ⟨b,0,χ⟩),v] 244 (0,0)):=by rw[hgrow.block b hlt (fun e=>hne e.symm)];exact hb1
 have d1:w2.cell? ⟨b,1,χ⟩=ξ v:=by rw[ch hb2];rfl
 have f1:w2.frozen? ⟨b,1,χ⟩=ψ:=di hb2 1;have hne':v'.ownBlock≠ξ b:=by
  intro e;rcases hown'.2 with⟨h,_⟩|⟨g',cap,cur,h,_,h3,_⟩
  ·rw[h]at e;cases e
  ·rw[h]at e
   cases e;rw[hb2]at h3;cases h3
 have hv1:∃a n c,v'=.slice a n c:=by
  rcases hown'.2 with⟨h,_⟩|⟨g',cap,cur,h,_⟩ <;> exact⟨_,_,_,h⟩
 obtain⟨va,vn,vc,rfl⟩:=hv1;rw[hs1]at hnew
 go_wp2_with (at_builtin;refine Du rfl _ _ 181 9 rfl rfl rfl hrun ?_)
 go_ret2
 refine⟨rfl,.slice va vn vc,(ad3 hb2).trans ς,⟨hown'.1,?_⟩,hne',⟨hgrow.os.trans ho1,hgrow.output.trans hu1,?_,fun k h1 h2 h3 =>?_⟩,hcap',hnew⟩
 ·rcases hown'.2 with h|⟨g,cap,cur,h1,h2,h3,h4⟩
  ·exact .inl h
  ·refine .inr ⟨g,cap,cur,h1,h2,?_,h4⟩
   rw[dy _ _ _ _ (fun e=>hne' (by rw[h1,show g=b from e];rfl))];exact h3
 ·rw[dx];have:=hgrow.size;omega
 ·rw[dy _ _ _ _ (show k≠b from h2),hgrow.block k ω (fun e=>h3 e.symm),hk1 k h2]
set_option maxHeartbeats 2000000 in
set_option maxRecDepth 100000 in
def Yc(b:Nat)(p v:Value)(l:aA)(w:World)(hb:w.heap[b]?=ξ (.cells #[p,v] 244 (0,0)))(hown:w.ownsRow 0 5 1 v l.length (l.map fun c=>Value.int .u8 c.toNat))(hcap:∀a n c,v=.slice (ξ a) n c->0<c) :
  Calls prog 151 #[.pointer (ξ ⟨b,0,χ⟩)] w fun e w'=>e=.returned (.string ⟨l.toArray⟩)/\WC v w w':=by
 have c1:w.drew.cell? ⟨b,1,χ⟩=ξ v:=by
  have:w.drew.heap[b]?=ξ (.cells #[p,v] 244 (0,0)):=hb;rw[ch this];rfl
 have mixed:prog.follows .mixedOrders=φ:=by kernel_rfl
 by_cases h0:l=[]
 ·subst h0
  obtain⟨q,n,c,rfl,hn,hSD⟩:∃q n c,v=.slice q n c/\n=0/\(eu #[181] 282 #[v]).run prog w.drew=.ok (.pointer q) w.drew:=by
   rcases hown.2 with⟨rfl,_⟩|⟨g,cap,cur,rfl,_⟩
   ·exact⟨χ,0,0,rfl,rfl,Lib.run_unsafeSliceData_nil _ _ _ _ _⟩
   ·exact⟨_,_,_,rfl,rfl,ew _ _ _ _ _ _ (by have:=hcap _ _ _ rfl;omega)⟩
  subst hn;have hUS:(ey #[282,3] 9 #[.pointer q,.int .i64 0]).run prog w.drew=.ok (.string .empty) w.drew:=Lib.run_unsafeString_none _ _ _ _ q
  go_enter func151,ntmps151
  go_wp2
  go_region_o
  all_goals (go_wp2;go_ret;exact⟨rfl,rfl,rfl,rfl,fun _ _=>rfl⟩)
 ·have hl0:l.length≠0:=by simpa using h0
  rcases hown.2 with⟨_,hz⟩|⟨g,cap,cur,rfl,hbg,hg,hnc,hcm,hcs,htake⟩
  ·exact absurd hz hl0
  have hSD:(eu #[181] 282 #[.slice (ξ ⟨g,0,χ⟩) l.length cap]).run prog w.drew=.ok (.pointer (ξ ⟨g,0,χ⟩)) w.drew:=ew _ _ _ _ _ _ ω;have hUS:(ey #[282,3] 9 #[.pointer (ξ ⟨g,0,χ⟩),.int .i64 l.length]).run prog w.drew=.ok (.string ⟨l.toArray⟩) (w.drew.freeze ⟨g,0,χ⟩ l.length):=by
   refine Lib.run_unsafeString_row w.drew 282 3 9 5 underlying282 akx g cur.size (by have hg':w.drew.heap[g]?=ξ (.cells cur 5 (0,0)):=hg;simp[er,hg']) l h0 ω (by unfold maxLen at hcm;omega) ?_;intro j x hx;exact hown.cells (g:=g) rfl j (.int .u8 x.toNat) (by simp[hx])
  go_enter func151,ntmps151
  go_wp2
  go_region_o
  all_goals (go_wp2;go_ret;exact⟨rfl,Sk⟩)
def ahT(b:Nat)(p _q:Value)(a:Option Addr)(n c:Nat)(w:World)(hb:w.heap[b]?=ξ (.cells #[p,.slice a n c] 244 (0,0))) :
  Calls prog 150 #[.pointer (ξ ⟨b,0,χ⟩)] w fun r w'=>r=.returned (.int .i64 n)/\w'=w:=by
 have c1:w.cell? ⟨b,1,χ⟩=ξ (.slice a n c):=by rw[ch hb];rfl
 go_enter func150,ntmps150
 go_wp2
 go_ret
 exact⟨rfl,rfl⟩
def El:aW prog aE.eT aH 148 ψ (vD 244 5):=
 GB ⟨f148,func148,κ,κ⟩ abC
def CE:aW prog aE.eT aH 151 ψ (tU 244 5):=
 E6 ⟨f151,func151,κ,κ⟩ Yc
def Lp:aW prog aE.eT aH 150 φ (BA 244 5):=
 M7 ⟨f150,func150,κ,κ⟩ ahT
end Go.Proofs.YtgokjhhcfemnhabGreatDoor

namespace Go.Proofs.YtgokjhhcfemnhabGreatDoor
open Go.Proofs.Tryz
open Go.Vg Go.Mrl
@[reducible] def cG:List Ob:=[.box 164 [.obj 1,.obj 2,.obj 3,.d (.int .i64),.d .bool],.row φ .str,.row φ .str,.tok iJ]
def ahU(s:aA)(hp:(fun s=>s.length<=64) s):(cH aE [] f85 [] [.str] [.str] (fun x y=>y=(fun s=>fU s) x) s).holds:=by
 refine ζ (p:=let za:=bb s;let zb:=64-(↑za:Int);let zc:=cn (bd zb) (cD (Ty.int b7));za<=aG->aF 64->aF (↑za:Int)->aF zb/\(0<=zb/\zb=zb/\zb<=1000000000)/\bb zc<=aG/\za+bb (bytesOf zc)<=aG/\s++bytesOf zc=fU s) κ ?_
 dsimp -iota -proj -eta only;exact fun h0 h1 h2=>⟨(by simp only[aF,aG]at*;omega),ω,(by simp only[cu,NA];omega),(by simp only[bytesOf,bw,cu,NA];omega),(by show s++bytesOf (cn _ 0)=_;rw[WN,fU,show bd (64-(s.length:Int))=64-s.length by omega])⟩
def Jo:aL:=bP [.str] [.str] (fun s=>s.length<=64) (fun s=>fU s)
def U5:aW prog aE.eT aH 85 φ Jo:=
 aI (bO (X:=aH) (bK bJ) func85 κ (fun _=>[]) (fun x hw hp=>ahU x hp))
def afs(x:Int)(y:Int)(hp:(fun z=>z.1=1/\0<=z.2/\z.2<=1000000) (x,y)):(cH aE [] f159 [] [.int .u64,.int .u64] [.int .u64,.int .u64] (fun x y=>y=(fun z=>I1 z) x) (x,y)).holds:=by
 refine ζ (p:=let za:=b4 br;let zb:=b6 za (4294967295:Int);let zc:=(0:Int)<=(32:Int);let zd:=(2:Int)^min 32 za;let ze:=fun(M K:Int)=>M=bj br K;∀E:Int,E=bj br (↑(cf (b6 za x&&&zb)):Int)->zc/\∀F:Int,F=bx x zd->∀G:Int,G=bj br (↑(cf (b6 za y&&&zb)):Int)->zc/\∀I:Int,I=bx y zd->∀K:Int,K=E*G->∀M:Int,ze M K->∀Q:Int,Q=F*G->∀V:Int,ze V Q->zc/\∀Z:Int,Z=bx M zd->∀U:Int,U=bj br (V+Z)->∀Y:Int,Y=bj br (↑(cf (b6 za U&&&zb)):Int)->zc/\∀x_11:Int,x_11=bx U zd->∀x_12:Int,x_12=E*I->∀x_13:Int,ze x_13 x_12->∀x_14:Int,x_14=bj br (Y+x_13)->∀x_15:Int,x_15=F*I->∀x_16:Int,ze x_16 x_15->∀x_17:Int,x_17=bj br (x_16+x_11)->zc/\∀x_18:Int,x_18=bx x_14 zd->∀x_19:Int,x_19=bj br (x_17+x_18)->∀x_20:Int,x_20=x*y->∀x_21:Int,ze x_21 x_20->(x_19,x_21)=I1 (x,y)) κ ?_
 dsimp -iota -proj -eta only;dsimp only at hp;refine fun E q_0=>⟨?a,fun F q_1 G q_2=>⟨?b,fun I q_3 K q_4 M q_5 Q q_6 V q_7=>⟨?c,fun Z q_8 U q_9 Y q_10=>⟨?d,fun x_11 q_11 x_12 q_12 x_13 q_13 x_14 q_14 x_15 q_15 x_16 q_16 x_17 q_17=>⟨?e,fun x_18 q_18 x_19 q_19 x_20 q_20 x_21 q_21 =>?f⟩⟩⟩⟩⟩
 case a|b|c|d|e=>trivial
 case f=>
  have a0:=aee q_0 ω ω;have a1:=OL q_1 rfl ω ω;have a2:=aee q_2 ω ω;have a3:=OL q_3 rfl ω ω;have a4:K=y:=by rw[q_4,a0,a2,hp.1,dz]
  have a5:M=y:=by rw[q_5,a4];exact mm ω ω
  have a6:Q=0:=by rw[q_6,a1,Int.zero_mul]
  have a7:V=0:=by rw[q_7,a6];rfl
  have a8:=OL q_8 rfl ω ω;have a9:U=0:=by rw[q_9,a7,a8];rfl
  have a10:Y=0:=by rw[aee q_10 ω ω];exact a9
  have a11:=OL q_11 rfl ω ω;have a12:x_12=0:=by rw[q_12,a3,Int.mul_zero]
  have a13:x_13=0:=by rw[q_13,a12];rfl
  have a14:x_14=0:=by rw[q_14,a10,a13];rfl
  have a15:x_15=0:=by rw[q_15,a1,Int.zero_mul]
  have a16:x_16=0:=by rw[q_16,a15];rfl
  have a17:x_17=0:=by rw[q_17,a16,a11];rfl
  have a18:=OL q_18 rfl ω ω;have a19:x_19=0:=by rw[q_19,a17,a18];rfl
  have a21:x_21=y:=by rw[q_21,q_20,hp.1,dz];exact mm ω ω
  rw[a19,a21];simp[I1,hp.1]
def Au:aL:=bP [.int .u64,.int .u64] [.int .u64,.int .u64] (fun z=>z.1=1/\0<=z.2/\z.2<=1000000) (fun z=>I1 z)
def aft:aW prog aE.eT aH 159 φ Au:=
 aI (bO (X:=aH) (bK bJ) func159 κ (fun _=>[]) (fun x hw hp=>afs x.1 x.2 hp))
def Qy:List (FuncId×(Bool×aL)):=[(159,(φ,Au))]
def Yd:bH prog aE aH Qy:=
 aM aft (bK bJ)
def ajw(x:Int)(y:Int)(hp:(fun z=>z.1=1/\0<=z.2/\z.2<=1000000) (x,y)):(cH aE Qy f121 [] [.int .u64,.int .u64] [.int .u64,.int .u64] (fun x y=>y=(fun z=>I1 z) x) (x,y)).holds:=by
 refine ζ (p:=(x=1/\0<=y/\y<=1000000)/\(0,x*y)=I1 (x,y)) κ ?_
 dsimp only at hp;refine⟨?a,?b⟩
 case a|b=>trivial
def ajx:aW prog aE.eT aH 121 φ Au:=
 aI (bO (X:=aH) Yd func121 κ (fun _=>[]) (fun x hw hp=>ajw x.1 x.2 hp))
def abD:List (FuncId×(Bool×aL)):=[(121,(φ,Au))]
def afu:bH prog aE aH abD:=
 aM ajx (bK bJ)
def Lq(x:List aA)(n:Int):cP:=[(0,fun st=>{X:=Nat,inv:=fun k=>1<=k/\k<=n.toNat,bG:=fun k=>n.toNat-k,bB:=fun k=>[(8,sI k)],aK:=fun k=>[(aS st 7,.bD .str (oF (nth .str x 0) n.toNat k))],keep:=[4,7],dU:=[aS st 7]})]
def HS:List (Alt [] [.d (.slice .str),.d (.int .i64)]):=[{bQ:=[.row ψ .str],res:=[.obj 0],out:=fun a _=>(cn a.2.1.toNat (nth .str a.1 0),()),ret:=fun _ _=>()}]
def abE(x:List aA)(n:Int)(hp:(fun a _=>a.1.length=1/\1<=a.2.1/\a.2.1<=1000000) (x,n,()) ()):(cE aE abD f84 (Lq x n) [] [.d (.slice .str),.d (.int .i64)] HS (x,n,()) ()).holds:=by
 refine ζ (p:=let za:=bb x;let zb:=bj br (↑za:Int);let zc:=bj br n;let zd:=bj bo (zb*zc);let ze:=cn (bd zd) (cD Ty.str);let zf:=bb ze;let zg:=bd n;let zh:=min za zf;let zi:=nth Ty.str x 0;let zj:=fun(E:Nat)=>oF zi zg E;let zk:=fun(E:Nat)=>bb (zj E);let zl:=fun(E:Nat)=>(↑(zk E):Int);let zm:=fun(E:Nat)=>bf (E-0) (bm 0 (zj E));let zn:=fun(E:Nat)=>min (bb (zm E)) (zk E-E);let zo:=fun(E:Nat)=>(↑E:Int)+(↑(zn E):Int);((ρ (n<(0:Int)))=φ->False)/\((ρ (n<(0:Int)))=ψ->za<=aG->(zb=(1:Int)/\(0:Int)<=zc/\zc<=(1000000:Int))/\((ρ ((0:Int) > (0:Int)))=φ->False)/\((ρ ((0:Int) > (0:Int)))=ψ->((ρ (zb*zc > (9223372036854775807:Int)))=φ->False)/\((ρ (zb*zc > (9223372036854775807:Int)))=ψ->((0:Int)<=zd/\zd=zd/\zd<=(1000000000:Int))/\(True/\0+zf<=zf)/\(∃(F:Nat),(1<=F/\F<=zg)/\((↑zh:Int)=(↑F:Int)/\True)/\bf 0 ze++bf zh x++bm (0+zh) ze=oF zi zg F/\True)/\∀E:Nat,1<=E/\E<=zg->zk E<=aG->((ρ ((↑E:Int)<zl E))=φ->((0:Int)<=(↑E:Int)/\(↑E:Int)<=zl E/\zl E<=zl E)/\((0:Int)<=(0:Int)/\(0:Int)<=(↑E:Int)/\(↑E:Int)<=zl E)/\(0+(E-0)<=zk E/\E+(zk E-E)<=zk E)/\(aF (↑E:Int)->aF (↑(zn E):Int)->aF (zo E)/\∃(x':Nat),(1<=x'/\x'<=zg)/\zg-x'<zg-E/\(zo E=(↑x':Int)/\True)/\bf E (zj E)++bf (zn E) (zm E)++bm (E+zn E) (zj E)=oF zi zg x'/\@bc aA=@bc aA/\True))/\((ρ ((↑E:Int)<zl E))=ψ->True/\(zj E,())=(cn zg zi,())/\()=()))))) κ ?_
 dsimp -iota -proj -eta only;dsimp only at hp;have e1:bj br n=n:=mm ω ω;have e2:bj br (x.length:Int)=1:=by rw[hp.1];exact mm δ δ
 have e3:bj bo (1*n)=n:=by rw[dz];exact sR ω ω
 refine iL (fun h0 =>?a) (fun h0 h1=>⟨(by rw[e1,e2];omega),⟨fun h2=>absurd (show ψ=φ from h2) δ,fun h2=>iL (fun h3=>(by rw[e1,e2]at*;omega)) (fun h3=>⟨(by rw[e1,e2,e3];omega),(by simp_all),?b,fun E q_0 h4=>iL (fun h5=>⟨?c,?d,?e,fun h6 h7=>⟨(by simp only[aF,aG]at*;omega),?f⟩⟩) (fun h5=>(by rw[show E=bd n by have hl:=OM (s:=nth .str x 0) (n:=bd n) (k:=E) ω;omega,ZR];exact⟨ba,rfl,rfl⟩))⟩)⟩⟩)
 case a|c|d|e=>omega
 case b=>
  rw[e1,e2,e3];obtain⟨s,rfl⟩:=dt.1 hp.1;refine⟨1,ω,⟨?_,ba⟩,?_,θ⟩
  ·simp only[b9,cu];omega
  ·have hm:min (bb [s]) (bb (cn (bd n) (cD Ty.str)))=1:=by simp only[b9,cu];omega
   rw[hm];exact WO (n:=bd n) ω rfl [s] rfl
 case f=>
  have hl:=OM (s:=nth .str x 0) (n:=bd n) (k:=E) ω;have e6:min (bb (bf (E-0) (bm 0 (oF (nth .str x 0) (bd n) E)))) (bb (oF (nth .str x 0) (bd n) E)-E)=min E (bd n-E):=by
   simp only[cd,da];omega
  rw[e6];refine⟨E+min E (bd n-E),ω,ω,⟨ω,ba⟩,?_,θ⟩;rw[Nat.sub_zero,da];exact ZQ ω ω
def Lr:aL:=bU [] [.d (.slice .str),.d (.int .i64)] (fun a _=>a.1.length=1/\1<=a.2.1/\a.2.1<=1000000) HS
def abF:aW prog aE.eT aH 84 ψ Lr:=
 bA (X:=aH) afu func84 κ (fun(a:CD [.d (.slice .str),.d (.int .i64)]) (x:PD [])=>Lq a.1 a.2.1) (fun a x hw hp=>abE a.1 a.2.1 hp)
def Ls:List (Alt [.row φ .str] [.obj 0]):=[{bQ:=[.row φ .str,.row ψ .str],res:=[.obj 1],ok:=fun _ x=>x.1≠[],out:=fun _ x=>(x.1,x.1,()),ret:=fun _ _=>()}]
def abG(l:List aA)(hp:(fun _ x=>x.1≠[]/\x.1.length<=1000000) () (l,())):(cE aE [] f86 [] [.row φ .str] [.obj 0] Ls () (l,())).holds:=by
 refine ζ (p:=∀E:Bool,(0<bb l->E=ψ)->(E=φ->False)/\(E=ψ->bb l<=1000000000/\l≠@bc aA/\(l,l,())=(l,l,())/\()=())) κ ?_
 dsimp only at hp;refine fun E q_0=>⟨fun h0 =>?a,fun h0=>⟨ω,?b⟩⟩
 case a|b=>simp_all
def Lt:aL:=bU [.row φ .str] [.obj 0] (fun _ x=>x.1≠[]/\x.1.length<=1000000) Ls
def abH:aW prog aE.eT aH 86 ψ Lt:=
 bA (X:=aH) (bK bJ) func86 κ (fun(a:CD [.obj 0]) (x:PD [.row φ .str])=>[]) (fun a x hw hp=>abG x.1 hp)
def Qz:List (FuncId×(Bool×aL)):=[(85,(φ,Jo)),(84,(ψ,Lr)),(86,(ψ,Lt))]
def Ye:bH prog aE aH Qz:=
 aM U5 (aM abF (aM abH (bK bJ)))
def QA:List (Alt cG [.obj 0]):=[{bQ:=cG,res:=[.d .err],out:=fun _ x=>(stepOf x).1,ret:=fun _ x=>(aP (stepOf x).2,())}]
def ahV(d:Dk)(hp:(fun _ x =>-1<=x.1.1) () d):(cE aE [] f122 [] cG [.obj 0] QA () d).holds:=by
 refine ζ (p:=let za:=d.2.2.2.1=d.2.2.2.1;let zb:=(-1:Int);let zc:=(stepOf d).1;let zd:=(aP (stepOf d).2,());let ze:=(aR.no 9,())=zd;let zf:=zb-1;let zg:=(aR.nil,())=zd;let zh:=d.1.1-1;let zi:=((d.1.2.1)=φ->za/\True/\d=zc/\ze)/\((d.1.2.1)=ψ->aF d.1.1->aF 1->aF zh/\za/\True/\((if zb > zh then zb else zh,d.1.2),d.2)=zc/\zg);((!d.1.2.1)=φ->((d.1.1 == 0)=φ->(φ=φ->za/\True/\((zb,φ,()),d.2)=zc/\ze)/\(φ=ψ->aF zb->aF 1->aF zf/\za/\True/\((if zb > zf then zb else zf,φ,()),d.2)=zc/\zg))/\((d.1.1 == 0)=ψ->zi))/\((!d.1.2.1)=ψ->zi)) κ ?_
 dsimp -iota -proj -eta only;refine iB (fun h0=>iQ (fun h1=>⟨fun h2=>(by rw[Sx (by simp_all) η];exact⟨rfl,ba,rfl,rfl⟩),fun h2=>absurd (show φ=ψ from h2) δ⟩) (fun h1=>⟨fun h2 =>?a,fun h2 h3 h4=>⟨?b,(by rw[ZU (by simp_all) η hp];exact⟨rfl,ba,rfl,rfl⟩)⟩⟩)) (fun h0=>⟨fun h1 =>?c,fun h1 h2 h3=>⟨?d,(by simp_all)⟩⟩)
 case a|c=>rw[Sw (by simp_all)];exact⟨rfl,ba,rfl,rfl⟩
 case b|d=>simp only[aF]at*;omega
def U6:aL:=bU cG [.obj 0] (fun _ x =>-1<=x.1.1) QA
def ahW:aW prog aE.eT aH 122 ψ U6:=
 bA (X:=aH) (bK bJ) func122 κ (fun(a:CD [.obj 0]) (x:PD cG)=>[]) (fun a x hw hp=>ahV x hp)
def FO:List (FuncId×(Bool×aL)):=[(85,(φ,Jo)),(122,(ψ,U6))]
def HT:bH prog aE aH FO:=
 aM U5 (aM ahW (bK bJ))
def Lu:List (Alt cG [.obj 0,.d (.int .i64),.d .str]):=[{bQ:=cG,res:=[.d .err],out:=fun a x=>(cA x a.1 a.2.1).1,ret:=fun a x=>(aP (cA x a.1 a.2.1).2,())}]
def abI(at_:Int)(s:aA)(d:Dk)(hp:(fun _ x =>-1<=x.1.1/\x.2.2.2.1.length<=900000000) (at_,s,()) d):(cE aE FO f88 [] cG [.obj 0,.d (.int .i64),.d .str] Lu (at_,s,()) d).holds:=by
 refine ζ (p:=let za:=d.2.2.2.1=d.2.2.2.1;let zb:=cA d at_ s;let zc:=(aP zb.2,());let zd:=za/\True/\d=zb.1/\(aR.no 1,())=zc;let ze:=bb d.2.2.1;let zf:=bb s;let zg:=aP (stepOf d).2;let zh:=(stepOf d).1;let zi:=bb zh.2.2.1;let zj:=bd at_;let zk:=db zh.2.2.1 zj (fU s);let zl:=zh.2.2.2.1;let zm:=[(at_,nth Ty.str zk zj,())];let zn:=zl++zm;let zo:=(zg,())=zc;((ρ (at_<0))=φ->zd)/\((ρ (at_<0))=ψ->ze<=aG->((ρ (at_>=(↑ze:Int)))=φ->zd)/\((ρ (at_>=(↑ze:Int)))=ψ->zf<=aG->((ρ ((↑zf:Int) > 64))=φ->zd)/\((ρ ((↑zf:Int) > 64))=ψ->za/\(-1:Int)<=d.1.1/\(True->((aR.isNil zg)=φ->zf<=64/\(0<=at_/\at_<(↑zi:Int))/\zj<zi/\(0<=at_/\at_<(↑(bb zk):Int))/\zj<bb zk/\(zl=zl/\bb zl+bb zm<=1000000000)/\zn=zn/\True/\(zh.1,zh.2.1,zk,zn,())=zb.1/\zo)/\((aR.isNil zg)=ψ->zl=zl/\True/\zh=zb.1/\zo)))))) κ ?_
 dsimp -iota -proj -eta only;refine iL (fun h0 =>?a) (fun h0 h1=>iE (fun h2 =>?b) (fun h2 h3=>iL (fun h4 =>?c) (fun h4=>⟨rfl,?d,fun h5=>⟨fun h6=>⟨?e,?f,?g,?h,?i,?j,?k⟩,fun h6=>(by rw[Sv ω (fun h=>by have:=aZ.2 h;simp_all)];exact⟨rfl,ba,rfl,rfl⟩)⟩⟩)))
 case a|b|c=>rw[WQ ω];exact⟨rfl,ba,rfl,rfl⟩
 case d|e=>omega
 case f|g=>
  have hlen:(stepOf d).fst.snd.snd.fst=d.snd.snd.fst:=congrArg (fun z=>z.2.1) (gB d);have hwt:(stepOf d).fst.snd.snd.snd.fst=d.snd.snd.snd.fst:=congrArg (fun z=>z.2.2.1) (gB d);have hkp:(stepOf d).fst.snd.fst=d.snd.fst:=congrArg (fun z=>z.1) (gB d);rw[hlen];omega
 case h|i=>
  have hlen:(stepOf d).fst.snd.snd.fst=d.snd.snd.fst:=congrArg (fun z=>z.2.1) (gB d);have hwt:(stepOf d).fst.snd.snd.snd.fst=d.snd.snd.snd.fst:=congrArg (fun z=>z.2.2.1) (gB d);have hkp:(stepOf d).fst.snd.fst=d.snd.fst:=congrArg (fun z=>z.1) (gB d);rw[dT,hlen];omega
 case j=>
  have hlen:(stepOf d).fst.snd.snd.fst=d.snd.snd.fst:=congrArg (fun z=>z.2.1) (gB d);have hwt:(stepOf d).fst.snd.snd.snd.fst=d.snd.snd.snd.fst:=congrArg (fun z=>z.2.2.1) (gB d);have hkp:(stepOf d).fst.snd.fst=d.snd.fst:=congrArg (fun z=>z.1) (gB d);rw[hwt];simp only[b9,true_and];omega
 case k=>
  have hlen:(stepOf d).fst.snd.snd.fst=d.snd.snd.fst:=congrArg (fun z=>z.2.1) (gB d);have hwt:(stepOf d).fst.snd.snd.snd.fst=d.snd.snd.snd.fst:=congrArg (fun z=>z.2.2.1) (gB d);have hkp:(stepOf d).fst.snd.fst=d.snd.fst:=congrArg (fun z=>z.1) (gB d);rw[ZS ω (aZ.1 η),ahk (t:=.str) (by rw[hlen];omega),hlen,hwt,hkp];exact⟨rfl,ba,rfl,by simp[aZ.1 ‹(aP (stepOf d).snd).isNil=φ›]⟩
def CF:aL:=bU cG [.obj 0,.d (.int .i64),.d .str] (fun _ x =>-1<=x.1.1/\x.2.2.2.1.length<=900000000) Lu
def Lv:aW prog aE.eT aH 88 ψ CF:=
 bA (X:=aH) HT func88 κ (fun(a:CD [.obj 0,.d (.int .i64),.d .str]) (x:PD cG)=>[]) (fun a x hw hp=>abI a.1 a.2.1 x hp)
def Lw:List (Alt cG [.obj 0]):=[{bQ:=cG,res:=[.d .err],out:=fun _ x=>(cC x).1,ret:=fun _ x=>(aP (cC x).2,())}]
def abJ(d:Dk)(hp:(fun _ x =>-1<=x.1.1/\x.2.1.length=x.2.2.1.length) () d):(cE aE FO f89 [] cG [.obj 0] Lw () d).holds:=by
 refine ζ (p:=let za:=aP (stepOf d).2;let zb:=(stepOf d).1;let zc:=bb zb.2.1;let zd:=zb.2.2.1;let ze:=min (bb zd) zc;let zf:=(za,())=(aP (cC d).2,());d.2.2.2.1=d.2.2.2.1/\(-1:Int)<=d.1.1/\(True->((aR.isNil za)=φ->(True/\0+zc<=zc)/\(@bc (Int×aA×Unit)=@bc (Int×aA×Unit)/\True/\(zb.1,bf 0 zb.2.1++bf ze zd++bm (0+ze) zb.2.1,zd,[],())=(cC d).1/\zf))/\((aR.isNil za)=ψ->zb.2.2.2.1=zb.2.2.2.1/\True/\zb=(cC d).1/\zf))) κ ?_
 dsimp -iota -proj -eta only;refine⟨rfl,ω,fun h0=>⟨fun h1=>⟨(by simp_all),?a⟩,fun h1=>(by rw[DU (fun h=>by have:=aZ.2 h;simp_all)];exact⟨rfl,ba,rfl,rfl⟩)⟩⟩
 case a=>
  have hlen:(stepOf d).fst.snd.snd.fst=d.snd.snd.fst:=congrArg (fun z=>z.2.1) (gB d);have hwt:(stepOf d).fst.snd.snd.snd.fst=d.snd.snd.snd.fst:=congrArg (fun z=>z.2.2.1) (gB d);have hkp:(stepOf d).fst.snd.fst=d.snd.fst:=congrArg (fun z=>z.1) (gB d);have h0:=aZ.1 ‹(aP (stepOf d).snd).isNil=φ›;rw[Kg h0,hlen,hkp,ON hp.2,h0];exact⟨rfl,ba,rfl,rfl⟩
def CG:aL:=bU cG [.obj 0] (fun _ x =>-1<=x.1.1/\x.2.1.length=x.2.2.1.length) Lw
def Lx:aW prog aE.eT aH 89 ψ CG:=
 bA (X:=aH) HT func89 κ (fun(a:CD [.obj 0]) (x:PD cG)=>[]) (fun a x hw hp=>abJ x hp)
def U7:List (Alt cG [.obj 0,.d (.int .i64)]):=[{bQ:=cG,res:=[],out:=fun a x=>ai0 x a.1,ret:=fun _ _=>()}]
def ahX(n:Int)(d:Dk):(cE aE [] Tryz.f197 [] cG [.obj 0,.d (.int .i64)] U7 (n,()) d).holds:=by
 refine ζ (p:=d.2.2.2.1=d.2.2.2.1/\True/\((if(-1:Int) > n then(-1:Int)else n,d.1.2),d.2)=ai0 d n/\()=()) κ ?_
 exact⟨rfl,ba,rfl,rfl⟩
def U8:aL:=bU cG [.obj 0,.d (.int .i64)] (fun _ _=>True) U7
def ahY:aW prog aE.eT aH 197 ψ U8:=
 bA (X:=aH) (bK bJ) func197 κ (fun(a:CD [.obj 0,.d (.int .i64)]) (x:PD cG)=>[]) (fun a x hw hp=>ahX a.1 x)
def QB:List (Alt cG [.obj 0]):=[{bQ:=cG,res:=[.d .bool],out:=fun _ x=>x,ret:=fun _ x=>(x.1.2.1,())}]
def afv(d:Dk):(cE aE [] f91 [] cG [.obj 0] QB () d).holds:=by
 refine ζ (p:=d.2.2.2.1=d.2.2.2.1/\True/\d=d/\d.1.2=d.1.2) κ ?_
 exact θ
def QC:aL:=bU cG [.obj 0] (fun _ _=>True) QB
def afw:aW prog aE.eT aH 91 ψ QC:=
 bA (X:=aH) (bK bJ) func91 κ (fun(a:CD [.obj 0]) (x:PD cG)=>[]) (fun a x hw hp=>afv x)
def Em:List (Alt cG [.obj 0]):=[{bQ:=cG,res:=[.d (.int .i64)],out:=fun _ x=>x,ret:=fun _ x=>((x.2.2.1.length:Int),())}]
def Te(d:Dk):(cE aE [] f87 [] cG [.obj 0] Em () d).holds:=by
 refine ζ (p:=let za:=bb d.2.2.1;let zb:=((↑za:Int),());za<=aG->d.2.2.2.1=d.2.2.2.1/\True/\d=d/\zb=zb) κ ?_
 dsimp -iota -proj -eta only;exact fun h0=>θ
def xE:aL:=bU cG [.obj 0] (fun _ _=>True) Em
def En:aW prog aE.eT aH 87 ψ xE:=
 bA (X:=aH) (bK bJ) func87 κ (fun(a:CD [.obj 0]) (x:PD cG)=>[]) (fun a x hw hp=>Te x)
def tI:List (Alt cG [.obj 0,.d (.int .u64)]):=[{bQ:=cG,res:=[],out:=fun a x=>nC x a.1,ret:=fun _ _=>()}]
def HU(k:Int)(d:Dk):cP:=[(0,fun st=>{X:=Nat,inv:=fun i=>i<=d.2.2.2.1.length,bG:=fun i=>d.2.2.2.1.length-i,bB:=fun i=>[(11,sI i)],aK:=fun i=>[(1,.bD .str (nj k d.2.2.2.1 d.2.1 i))],keep:=[0,1,9,10],dU:=[1]})]
def Tf(k:Int)(d:Dk)(hp:(fun _ x=>x.2.1.length=x.2.2.1.length/\∀i,i<x.2.2.2.1.length->0<=((nth iJ x.2.2.2.1 i).1:Int)/\((nth iJ x.2.2.2.1 i).1:Int)<x.2.2.1.length) (k,()) d):(cE aE [] f198 (HU k d) cG [.obj 0,.d (.int .u64)] tI (k,()) d).holds:=by
 refine ζ (p:=let za:=d.2.2.2.1;let zb:=bb za;let zc:=d.2.1;let zd:=fun(E:Nat)=>(nth iJ za E).1;let ze:=fun(E:Nat)=>nj k za zc E;let zf:=fun(E:Nat)=>(↑E:Int)+(1:Int);let zg:=d.2.2.1;let zh:=(C.bD 1=C.bD 1/\C.bD 2=C.bD 2/\za=za/\d.1.1=d.1.1/\d.1.2.1=d.1.2.1/\True)/\zg=zg/\za=za/\True;let zi:=bb zg;zb<=aG->(∃(x:Nat),x<=zb/\((0:Int)=(↑x:Int)/\True)/\zc=nj k za zc x/\True)/\∀E:Nat,E<=zb->((ρ ((↑E:Int)<(↑zb:Int)))=φ->((0:Int)<=(↑E:Int)/\(↑E:Int)<(↑zb:Int))/\(64:Int)≠(0:Int)/\∀F:Int,F=cr (↑E:Int) (64:Int)->(0:Int)<=F/\∀G:Int,G=bx k ((2:Int)^min (bd F) (b4 br))->∀I:Int,I=bj br (↑(cf (b6 (b4 br) G&&&b6 (b4 br) (1:Int))):Int)->((I == (1:Int))=φ->((0:Int)<=zd E/\zd E<(↑(bb (ze E)):Int))/\bd (zd E)<bb (ze E)/\(aF (↑E:Int)->aF (1:Int)->aF (zf E)/\∃(x':Nat),x'<=zb/\zb-x'<zb-E/\(zf E=(↑x':Int)/\True)/\db (ze E) (bd (zd E)) (nth iJ za E).2.1=nj k za zc x'/\zh))/\((I == (1:Int))=ψ->aF (↑E:Int)->aF (1:Int)->aF (zf E)/\∃(x':Nat),x'<=zb/\zb-x'<zb-E/\(zf E=(↑x':Int)/\True)/\ze E=nj k za zc x'/\zh))/\((ρ ((↑E:Int)<(↑zb:Int)))=ψ->(True/\0+zi<=zi)/\(@bc (Int×aA×Unit)=@bc (Int×aA×Unit)/\True/\(((-1:Int),ψ,()),ze E,bf 0 zg++bf (min (bb (ze E)) zi) (ze E)++bm (0+min (bb (ze E)) zi) zg,[],())=nC d k/\()=()))) κ ?_
 dsimp -iota -proj -eta only;refine fun h0=>⟨?a,fun E q_0=>iL (fun h1=>⟨ω,θ,fun F q_1=>⟨(by have:=agF E;rw[Int.tmod_eq_emod_of_nonneg ω]at*;omega),fun G q_2 I q_3=>iQ (fun h2=>⟨?b,?c,fun h3 h4=>⟨?d,?e⟩⟩) (fun h2 h3 h4=>⟨?f,?g⟩)⟩⟩) (fun h1=>⟨(by simp_all),?h⟩)⟩
 case a=>refine⟨0,?_⟩;(repeat' (first|exact trivial|rfl|omega|assumption|apply ec))
 case b|c=>have:=hp.2 E ω;rw[BO];(try dsimp only[D]at*);omega
 case d|f=>simp only[aF,aG]at*;omega
 case e|g=>
  have hb:=aef (k:=k) (i:=E) (x:=G) (y:=I) η (by rw[‹F=_›];exact agF E) η
  first|exact⟨E+1,ω,ω,⟨ω,ba⟩,aeg (hb.1 η),θ⟩|exact⟨E+1,ω,ω,⟨ω,ba⟩,ZT ((not_congr hb).1 η),θ⟩
 case h=>
  obtain rfl:E=d.2.2.2.1.length:=by omega
  rw[ON (by rw[BO];exact hp.1.symm)];exact⟨rfl,ba,rfl,rfl⟩
def Tg:aL:=bU cG [.obj 0,.d (.int .u64)] (fun _ x=>x.2.1.length=x.2.2.1.length/\∀i,i<x.2.2.2.1.length->0<=((nth iJ x.2.2.2.1 i).1:Int)/\((nth iJ x.2.2.2.1 i).1:Int)<x.2.2.1.length) tI
def Th:aW prog aE.eT aH 198 ψ Tg:=
 bA (X:=aH) (bK bJ) func198 κ (fun(a:CD [.obj 0,.d (.int .u64)]) (x:PD cG)=>HU a.1 x) (fun a x hw hp=>Tf a.1 x hp)
def QD:List (Alt [] [.d (.int .i64)]):=[
 {bQ:=[],res:=[.jx,.d .err],ok:=fun a _=>a.1<1\/120<a.1,out:=fun _ _=>(),ret:=fun _ _=>(aR.no 1,())},
 {bQ:=cG,res:=[.obj 0,.d .err],ok:=fun a _=>1<=a.1/\a.1<=120,out:=fun a _=>I2 a.1,ret:=fun _ _=>(aR.nil,())}]
def ahZ(n:Int):(cE aE Qz f46 [] [] [.d (.int .i64)] QD (n,()) ()).holds:=by
 refine ζ (p:=let za:=(aR.no 1,());let zb:=(n<1\/120<n)/\()=()/\za=za;let zc:=[fU (@bc UInt8)];let zd:=cn (bd n) (nth Ty.str zc 0);let ze:=zd≠@bc aA;((ρ (n<1))=φ->zb)/\((ρ (n<1))=ψ->((ρ (n > 120))=φ->zb)/\((ρ (n > 120))=ψ->bb (@bc UInt8)<=64/\(bb zc=1/\1<=n/\n<=1000000)/\(True->(ze/\bb zd<=1000000)/\(ze->(@bc (Int×aA×Unit)=@bc (Int×aA×Unit)/\(1<=n/\n<=120)/\(((-1:Int),ψ,()),zd,zd,[],())=I2 n/\(aR.nil,())=(aR.nil,()))))))) κ ?_
 dsimp -iota -proj -eta only;refine iL (fun h0 =>?a) (fun h0=>iL (fun h1 =>?b) (fun h1=>⟨θ,⟨rfl,ω,ω⟩,fun h2=>⟨?c,fun h3=>⟨rfl,ω,rfl,rfl⟩⟩⟩))
 case a|b=>exact⟨ω,rfl,rfl⟩
 case c=>
  refine⟨fun h =>?_,by simp only[cu];omega⟩;have:=congrArg bb h;simp only[cu,b5]at this;omega
def U9:aL:=bU [] [.d (.int .i64)] (fun _ _=>True) QD
def ah0:aW prog aE.eT aH 46 ψ U9:=
 bA (X:=aH) Ye func46 κ (fun(a:CD [.d (.int .i64)]) (x:PD [])=>[]) (fun a x hw hp=>ahZ a.1)
def ah1(n:Int):(cH aE [] f123 [] [.int .i64] [.str] (fun x y=>y=(fun n=>mF n) x) n).holds:=by
 refine ζ (p:=(0:Int)<=(8:Int)/\∀E:Int,E=bx n ((2:Int)^min 8 (b4 bo))->(0:Int)<=(16:Int)/\∀F:Int,F=bx n ((2:Int)^min 16 (b4 bo))->(0:Int)<=(24:Int)/\∀G:Int,G=bx n ((2:Int)^min 24 (b4 bo))->bb [bj b7 n,bj b7 E,bj b7 F,bj b7 G]<=aG/\bytesOf [bj b7 n,bj b7 E,bj b7 F,bj b7 G]=mF n) κ ?_
 refine⟨?a,fun E q_0=>⟨?b,fun F q_1=>⟨?c,fun G q_2=>⟨((by decide:4<=aG)),(by subst q_0;subst q_1;subst q_2;rfl)⟩⟩⟩⟩
 case a|b|c=>trivial
def Va:aL:=bP [.int .i64] [.str] (fun _=>True) (fun n=>mF n)
def ah2:aW prog aE.eT aH 123 φ Va:=
 aI (bO (X:=aH) (bK bJ) func123 κ (fun _=>[]) (fun x hw hp=>ah1 x))
def Vb:List (FuncId×(Bool×aL)):=[(123,(φ,Va))]
def abK:bH prog aE aH Vb:=
 aM ah2 (bK bJ)
def afx(a:Int)(b:Int):(cH aE Vb f90 [] [.int .i64,.int .i64] [.str] (fun x y=>y=(fun x=>ig x.1 x.2) x) (a,b)).holds:=by
 refine ζ (p:=let za:=[(83:UInt8)]++mF a;True/\bb [(83:UInt8)]+bb (mF a)<=aG/\True/\bb za+bb (mF b)<=aG/\za++mF b=ig a b) κ ?_
 dsimp -iota -proj -eta only;exact⟨ba,(by rw[wS];exact(by decide:1+4<=aG)),ba,(by rw[bz,wS,wS];exact(by decide:1+4+4<=aG)),θ⟩
def FP:aL:=bP [.int .i64,.int .i64] [.str] (fun _=>True) (fun x=>ig x.1 x.2)
def QF:aW prog aE.eT aH 90 φ FP:=
 aI (bO (X:=aH) abK func90 κ (fun _=>[]) (fun x hw hp=>afx x.1 x.2))
def abL(s:aA)(hp:(fun s=>4<=s.length) s):(cH aE [] f93 [] [.str] [.int .i64] (fun s y=>(y:Int)=kD s) s).holds:=by
 refine ζ (p:=let za:=(↑(bb s):Int);let zb:=b4 bo;let zc:=fun(I F G:Int)=>I=bj bo (↑(cf (b6 zb F ||| b6 zb G)):Int);((0:Int)<=(0:Int)/\(0:Int)<za)/\((0:Int)<=(1:Int)/\(1:Int)<za)/\(0:Int)<=(8:Int)/\∀E:Int,E=bj bo ((↑(bt (bV s 1)):Int)*(2:Int)^min 8 zb)->∀F:Int,F=bj bo (↑(cf (b6 zb (↑(bt (bV s 0)):Int) ||| b6 zb E)):Int)->((0:Int)<=(2:Int)/\(2:Int)<za)/\(0:Int)<=(16:Int)/\∀G:Int,G=bj bo ((↑(bt (bV s 2)):Int)*(2:Int)^min 16 zb)->∀I:Int,zc I F G->((0:Int)<=(3:Int)/\(3:Int)<za)/\(0:Int)<=(24:Int)/\∀K:Int,K=bj bo ((↑(bt (bV s 3)):Int)*(2:Int)^min 24 zb)->∀M:Int,zc M I K->M=kD s) κ ?_
 dsimp -iota -proj -eta only;refine⟨?a,?b,?c,fun E q_0 F q_1=>⟨?d,?e,fun G q_2 I q_3=>⟨?f,?g,fun K q_4 M q_5=>(by subst_vars;rfl)⟩⟩⟩
 case a|b|d|f=>omega
 case c|e|g=>trivial
def abM:jj prog aE.eT aH 93 [.str] [.int .i64] (fun s=>4<=s.length) (fun s y=>(y:Int)=kD s):=
 bO (X:=aH) (bK bJ) func93 κ (fun _=>[]) (fun x hw hp=>abL x hp)
def Ly:List (FuncId×(Bool×aL)):=[(148,(ψ,vD 244 5)),(151,(ψ,tU 244 5)),(150,(φ,BA 244 5)),(29,(φ,At))]
def Ti:bH prog aE aH Ly:=
 aM El (aM CE (aM Lp (aM FN (bK bJ))))
def Lz(l:List (D aC)):cP:=[
 (0,fun st=>{X:=Nat,inv:=fun i=>i<=l.length/\∀j,j<i->bF (nth aC l j)=0,bG:=fun i=>l.length-i,bB:=fun i=>[(11,sI i)],keep:=[4,9,10],aK:=fun i=>[(aS st 4,.ext 2 mI (bW (gU (l.take i)),(244:Int),(5:Int),()))],dU:=[aS st 4]})]
def afy(l:List (D aC))(hp:(fun l=>l.length<=100) l):(cH (gy aE [17]) Ly f128 (Lz l) [.slice aC] [.str,.err] (fun x y=>y=(fun l=>eR l) x) l).holds:=by
 refine ζ (p:=let za:=bb l;let zb:=(↑(244:Nat):Int);let zc:=fun(b:UInt8)=>(↑(bt b):Int);let zd:=((244:Int),(5:Int),());let ze:=(↑(5:Nat):Int);let zf:=fun(E:Nat)=>bk zc (gU (bf E l));za<=aG->(∃(x:Nat),(x<=za/\∀(j:Nat),j<x->bF (nth aC l j)=(0:Int))/\((0:Int)=(↑x:Int)/\True)/\([],zb,(↑(5:TypeId):Int),())=(bk zc (gU (bf x l)),zd)/\True)/\∀E:Nat,(E<=za/\∀(j:Nat),j<E->bF (nth aC l j)=(0:Int))->((ρ ((↑E:Int)<(↑za:Int)))=φ->((0:Int)<=(↑E:Int)/\(↑E:Int)<(↑za:Int))/\True/\((!aR.isNil (dM (nth aC l E)).2)=φ->([],(dM (nth aC l E)).2)=eR l)/\((!aR.isNil (dM (nth aC l E)).2)=ψ->((244:Int)=zb/\(5:Int)=ze/\bb (zf E)+bb (dM (nth aC l E)).1<=(140737488355328:Nat))/\(aF (↑E:Int)->aF (1:Int)->aF ((↑E:Int)+(1:Int))/\∃(x':Nat),(x'<=za/\∀(j:Nat),j<x'->bF (nth aC l j)=(0:Int))/\za-x'<za-E/\((↑E:Int)+(1:Int)=(↑x':Int)/\True)/\(zf E++bk zc (dM (nth aC l E)).1,zb,ze,())=(bk zc (gU (bf x' l)),zd)/\True)))/\((ρ ((↑E:Int)<(↑za:Int)))=ψ->((244:Int)=zb/\(5:Int)=ze)/\(bytesOf (zf E),aR.nil)=eR l)) κ ?_
 dsimp -iota -proj -eta only;refine fun h0=>⟨(⟨0,⟨ca _,fun j hj=>absurd hj (cz _)⟩,⟨rfl,ba⟩,rfl,ba⟩),fun E q_0=>iL (fun h1=>⟨ω,ba,iB (fun h2=>(aaR q_0.2 ω h2)) (fun h2=>⟨?a,fun h3 h4=>⟨(by simp only[aF,aG]at*;omega),(⟨E+1,⟨ω,jM q_0.2 (Ad h2).1⟩,ω,⟨ω,ba⟩,rk (aaS ω h2),ba⟩)⟩⟩)⟩) (fun h1=>⟨θ,(by rw[show bytesOf (bk _ (gU (bf E l)))=_ from zA _];exact aeU q_0.2 ω)⟩)⟩
 case a=>refine⟨rfl,rfl,?_⟩;rw[bw];have h1:=aaT hp (i:=E) ω q_0.2;have h2:=XB h2;omega
def QG:aL:=bP [.slice aC] [.str,.err] (fun l=>l.length<=100) (fun l=>eR l)
def afz:aW prog aE.eT aH 128 φ QG:=
 aI (bO (B:=(gy aE [17])) (X:=aH) (bH.hint (l:=[17]) Ti) func128 κ (fun x=>Lz x) (fun x hw hp=>afy x hp))
end Go.Proofs.YtgokjhhcfemnhabGreatDoor

namespace Go.Proofs.YtgokjhhcfemnhabGreatDoor
open Go.Proofs.Tryz
open Go.Vg Go.Shelf Go.RowKit
attribute [local go_sem] Oper.semAt_some
def HV(p j k:Nat):Prop:=p=j*k
def ajy{n k m:Nat}(h:min k n=m):(if n<k then((n:Nat):Int)else(k:Int))=(m:Int):=by split <;> omega
def it0(b1 b2:Nat)(a:Option Addr)(len cap k:Nat)(w0:World)(h1k:1<=k)(hk9:k<=1000000000)(hl9:len<=1000000000)(hlc:len<=cap)(hsome:0<len->∃b o,a=ξ ⟨b,o,χ⟩)
  (l:Nat)(J Jx:List Nat->World->Prop)(hJd:∀s W,J s W->J s W.drew)
  (hY:∀pre x W1,J pre W1->pre.length<gY len k->YieldAt Fence.wide 1 prog l #[mE a len k x] W1 fun e W'=>
   (e=.returned (.bool φ)/\J (pre++[x]) W'/\(W'.cell? ⟨b1,0,χ⟩=W1.cell? ⟨b1,0,χ⟩/\W'.cell? ⟨b2,0,χ⟩=W1.cell? ⟨b2,0,χ⟩))\/(e=.returned (.bool ψ)/\Jx (pre++[x]) W'))
  (W:World)(hc1:W.cell? ⟨b1,0,χ⟩=ξ (.slice a len cap))(hc2:W.cell? ⟨b2,0,χ⟩=ξ (.int .i64 k))(h0:J [] W) :
  CallsIn Fence.wide 2 prog 160 #[.func (.yield l) #[] #[],.pointer (ξ ⟨b1,0,χ⟩),.pointer (ξ ⟨b2,0,χ⟩)] W fun e W'=>(∃v,e=.returned v)/\((∃xs,xs=cw (gY len k)/\J xs W')\/(∃pre,(∃j,pre=cw j)/\Jx pre W')):=by
 refine callsIn_of_wp func160 rfl trivial ?_ rfl;have hn:f160.ntmps=31:=rfl;simp only[hn,List.size_toArray,b3,b5,Nat.reduceAdd,Nat.reduceSub,Array.replicate_succ,Array.replicate_zero,List.push_toArray,List.append_toArray,List.nil_append,List.cons_append]
 gi_wp2
 gi_loopw [4] (fun i wr=>∃j p:Nat,HV p j k/\j<=gY len k/\i=.int .i64 (p:Int)/\J (cw j) wr/\wr.cell? ⟨b1,0,χ⟩=ξ (.slice a len cap)/\wr.cell? ⟨b2,0,χ⟩=ξ (.int .i64 k))
  (fun i _=>len+k-(intOf i).toNat)
 case atStart=>exact⟨0,0,(Nat.zero_mul k).symm,ca _,rfl,h0,hc1,hc2⟩
 case round=>
  obtain⟨j,p,hp,hj,rfl,hJs,hw1,hw2⟩:=hrel;by_cases hlt:p<len
  ·have hlt':(p:Int)<(len:Int):=Int.ofNat_lt.2 hlt
   obtain⟨b,o,rfl⟩:=hsome ω;obtain⟨m,hm⟩:∃m:Nat,m=min k (len-p):=⟨_,rfl⟩
   have hm0:0<m:=by omega
   have hm00:¬m=0:=by omega
   have hm2:p+m<=len:=by omega
   have hb1:(((p:Nat):Int)+(m:Int))<=1000000000:=by omega
   have hb0:(0:Int)<=((p:Nat):Int)+(m:Int):=by omega
   have hjN:j<gY len k:=by
    unfold gY;rw[e0 ω];unfold HV at hp;omega
   obtain⟨fn,tmps,assign,body,hy,hR⟩:=hY (cw j) j wr.drew (hJd _ _ hJs) (by rw[List.length_range];exact hjN);rw[show mE (ξ ⟨b,o,χ⟩) len k j=.slice (ξ ⟨b,o+p,χ⟩) m m by unfold HV at hp;subst hp;subst hm;rfl]at hy
   gi_wp2
   gi_region
   try rw[ajy (show min k (len-p)=m from hm.symm)]
   try rw[show min ((k:Nat):Int) ((len-p:Nat):Int)=(m:Int) by omega]
   try rw[<-hm]
   clear hm
   gi_wp2
   refine hR.mono ?_;rintro e W3 (⟨rfl,hJ3,hk3⟩|⟨rfl,hJx3⟩)
   ·have hw3:=hk3.1.trans hw1
    have hw4:=hk3.2.trans hw2;have hs1:(0:Int)<=(p:Int)+(k:Int):=by omega
    have hs2:(p:Int)+(k:Int)<=2000000000:=by omega
    gi_wp2
    go_roundw
    case rel=>exact⟨j+1,p+k,by unfold HV at*;rw[hp,Nat.add_mul,Nat.one_mul],hjN,ς,by rw[e5];exact hJ3,hw3,hw4⟩
    case measure=>simp[intOf];omega
   ·gi_wp2
    refine bodyPost_ret (results_none rfl _ _ _) rfl ?_;exact⟨⟨_,rfl⟩,.inr ⟨_,⟨j+1,e5.symm⟩,hJx3⟩⟩
  ·have hjN:j=gY len k:=by
    refine Nat.le_antisymm hj (Nat.le_of_not_lt fun hc=>hlt ?_);unfold gY at hc;rw[e0 ω]at hc;unfold HV at hp;omega
   gi_wp2
   go_end0
   exact⟨⟨_,rfl⟩,.inl ⟨_,rfl,by rw[<-hjN];exact hJs⟩⟩
def ah3:yj prog 160:=fun b1 b2 a len cap k w h1k hk9 hl9 hlc hsome hb1 hb2 hc1 hc2 l J Jx W hW hJ _ hY h0=>
 it0 b1 b2 a len cap k w h1k hk9 hl9 hlc hsome l J Jx (fun s W hs=>hJ s W W.drew χ hs ⟨rfl,rfl,rfl,cc _,fun _ _ _=>rfl⟩ (fun r e=>by cases e)) hY W
  ((hW.cell (p:=⟨b1,0,χ⟩) hb1).trans hc1) ((hW.cell (p:=⟨b2,0,χ⟩) hb2).trans hc2) h0
end Go.Proofs.YtgokjhhcfemnhabGreatDoor

namespace Go.Proofs.YtgokjhhcfemnhabGreatDoor
open Go.Proofs.Tryz
open Go.Vg Go.Mrl
@[reducible] def dR:List Ob:=[.box 169 [.obj 1,.d (.int .i64),.d (.slice aC)],.box 164 [.obj 2,.obj 3,.obj 4,.d (.int .i64),.d .bool],.row φ .str,.row φ .str,.tok iJ]
@[reducible] def ah4:List Ob:=[.box 26 [.obj 1],.box 169 [.obj 2,.d (.int .i64),.d (.slice aC)],.box 164 [.obj 3,.obj 4,.obj 5,.d (.int .i64),.d .bool],.row φ .str,.row φ .str,.tok iJ,.box 33 [.d .err],.box 33 [.d .err],.box 3 [.d (.int .i64)]]
def Vc:List (FuncId×(Bool×aL)):=[(128,(φ,QG)),(90,(φ,FP)),(129,(ψ,iI aE [] Tryz.f129 [])),(88,(ψ,CF)),(89,(ψ,CG))]
def abN:bH prog aE aH Vc:=
 aM afz (aM QF (aM (fF (bK bJ) func129 κ []) (aM Lv (aM Lx (bK bJ)))))
def QH(l:List (D aC))(r:Int)(o:List (D aC))(d:Dk):List (Nat×(St->oh)):=[
 (0,fun st=>{inv:=fun pre=>(jI l r d pre).2=0,keep:=[1,2,4,5,6,7,8,29],aY:=ah4,refs:=[(2,0),(4,6),(6,7),(8,8)],pd:=fun pre=>((),(r,o,()),(jI l r d pre).1.1,(jI l r d pre).1.2.1,(jI l r d pre).1.2.2.1,(jI l r d pre).1.2.2.2.1,(aR.nil,()),(aR.nil,()),((2+(r+1).tmod 2*55+(pre.length:Int):Int),()),())})]
def QI:List (Alt dR [.obj 0,.d (.slice aC)]):=[{bQ:=dR,res:=[.d .err],out:=fun a x=>(if(fP x.2 x.1.1 a.1).2=0 then(x.1.1+1,a.1,())else x.1,(fP x.2 x.1.1 a.1).1),ret:=fun a x=>(aP (fP x.2 x.1.1 a.1).2,())}]
def ah5(l:List (D aC))(r:Int)(o:List (D aC))(d:Dk)(hp:(fun a x=>a.1.length<=100/\0<=(x.1.1:Int)/\(x.1.1:Int)<=1000000000/\dX x.2 1000000) (l,()) ((r,o,()),d)):(Jg aE Vc 160 f98 (QH l r o d) dR [.obj 0,.d (.slice aC)] QI (l,()) ((r,o,()),d)).holds:=by
 refine ζ (p:=let za:=d.2.2.2.1;let zb:=(r,o,());let zc:=fP d r l;let zd:=r+(1:Int);let ze:=(zd,l,());let zf:=(if zc.2=(0:Int)then ze else zb,zc.1);let zg:=((eR l).2,());let zh:=(aP zc.2,());let zi:=(2:Int)≠(0:Int);let zj:=cr zd (2:Int);let zk:=bk (fun(b:UInt8)=>(↑(bt b):Int)) (eR l).1;let zl:=(aR.nil,());let zm:=(2:Int)+zj*(55:Int);let zn:=(bb zk+(64:Nat)-(1:Nat)) / (64:Nat);let zo:=fun(I:Nat)=>bf (64:Nat) (bm (I*(64:Nat)) zk);let zp:=fun(G:List Nat)=>(jI l r d G).1;let zq:=(-1:Int);let zr:=fun(G:List Nat)=>zm+(↑(bb G):Int);let zs:=fun(G:List Nat) (I:Nat)=>aP (cA (zp G) (zr G) (bytesOf (zo I))).2;let zt:=fun(G:List Nat) (I:Nat)=>(cA (zp G) (zr G) (bytesOf (zo I))).1;let zu:=fun(I:Nat) (G:List Nat)=>(bb (zo I)<=aG)/\((zp G).2.2.2.1=(zp G).2.2.2.1)/\(zq<=(zp G).1.1/\bb (zp G).2.2.2.1<=(900000000:Nat))/\((True)->(((!aR.isNil (zs G I))=φ->((G=cw I)->((zt G I).2.2.2.1=(zt G I).2.2.2.1/\True/\(zb,zt G I)=zf/\(zs G I,())=zh)))/\((!aR.isNil (zs G I))=ψ->((aF (zr G))->((aF (1:Int))->(aF (zr G+(1:Int)))/\((zt G I).2.2.2.1=(zt G I).2.2.2.1/\∃(x':List Nat),(jI l r d x').2=(0:Int)/\x'=G++[I]/\True/\True/\φ=φ/\((),zb,(zt G I).1,(zt G I).2.1,(zt G I).2.2.1,(zt G I).2.2.2.1,zl,(zs G I,()),(zr G+(1:Int),()),())=((),zb,(jI l r d x').1.1,(jI l r d x').1.2.1,(jI l r d x').1.2.2.1,(jI l r d x').1.2.2.2.1,zl,zl,(zm+(↑(bb x'):Int),()),())))))));let zv:=jI l r d (cw zn);let zw:=zv.1.2.2.2.1;let zx:=aP (cC zv.1).2;let zy:=aR.isNil zx;let zz:=bb (eR l).1;let zaa:=(cC zv.1).1;let zab:=zaa.2.2.2.1;let zac:=zab=zab;let zad:=zq<=zaa.1.1;let zae:=fun(G:Int)=>cA zaa G (ig zd (↑zz:Int));let zaf:=fun(G:Int)=>(zae G).1.2.2.2.1=(zae G).1.2.2.2.1;let zag:=fun(G:Int)=>(cC (zae G).1).1;let zah:=fun(G:Int)=>(zag G).2.2.2.1=(zag G).2.2.2.1;let zai:=fun(G:Int)=>(aP (cC (zae G).1).2,())=zh;let zaj:=fun(G:Int)=>(aP (zae G).2,())=zh;let zak:=aP (cC zaa).2;let zal:=(cC zaa).1;let zam:=zal.2.2.2.1=zal.2.2.2.1;let zan:=(zak,())=zh;let zao:=(zx,())=zh;(bb l<=(100:Nat))/\(((!aR.isNil (eR l).2)=φ->(za=za/\True/\(zb,d)=zf/\zg=zh))/\((!aR.isNil (eR l).2)=ψ->((aF r)->((aF (1:Int))->(aF zd)/\(zi)/\(∀E:Int,((E=zj)->(∀F:Int,((F=E*(55:Int))->((aF E)->((aF (55:Int))->(aF F)/\((aF (2:Int))->((aF F)->(aF ((2:Int)+F))/\(((ρ ((64:Int)<(1:Int)))=φ->(False))/\((ρ ((64:Int)<(1:Int)))=ψ->((((1:Int)<=(64:Int)/\(64:Int)<=(1000000000:Int)/\bb zk<=(1000000000:Nat)))/\((za=za/\∃(x':List Nat),(jI l r d x').2=(0:Int)/\x'=@bc Nat/\True/\True/\φ=φ/\((),zb,d.1,d.2.1,d.2.2.1,za,zl,zg,((2:Int)+F,()),())=((),zb,(jI l r d x').1.1,(jI l r d x').1.2.1,(jI l r d x').1.2.2.1,(jI l r d x').1.2.2.2.1,zl,zl,(zm+(↑(bb x'):Int),()),())))/\((∀G:List Nat,(((jI l r d G).2=(0:Int))->(∀I:Nat,((bb G<zn)->((((fun a0 a1:Prop=>a0/\a0/\a1) (((fun a0:Prop=>a0/\a0) ((zu I G)))) ((zu I G))))/\(((((fun a0:Prop=>a0/\a0) ((zu I G))))/\((zu I G))))/\((zu I G))))))))/\(((zv.2=(0:Int))->(zw=zw)/\(zq<=zv.1.1.1/\bb zv.1.2.1=bb zv.1.2.2.1)/\((True)->(((zy)=φ->(zi)/\(∀G:Int,((G=zj)->((zz<=aG)->(True)/\(zac)/\(zad/\bb zab<=(900000000:Nat))/\((True)->(((aR.isNil (aP (zae G).2))=φ->(zaf G)/\(zq<=(zae G).1.1.1/\bb (zae G).1.2.1=bb (zae G).1.2.2.1)/\((True)->(((aR.isNil (aP (cC (zae G).1).2))=φ->((fun a0:Prop=>a0/\a0) ((zah G/\True/\(ze,zag G)=zf/\zai G))))/\((aR.isNil (aP (cC (zae G).1).2))=ψ->(zah G/\True/\(zb,zag G)=zf/\zai G)))))/\((aR.isNil (aP (zae G).2))=ψ->(((aR.isNil (aP (zae G).2))=φ->((fun a0:Prop=>a0/\a0) ((zaf G/\True/\(ze,(zae G).1)=zf/\zaj G))))/\((aR.isNil (aP (zae G).2))=ψ->(zaf G/\True/\(zb,(zae G).1)=zf/\zaj G))))))))))/\((zy)=ψ->(((zy)=φ->(zac)/\(zad/\bb zaa.2.1=bb zaa.2.2.1)/\((True)->(((aR.isNil zak)=φ->((fun a0:Prop=>a0/\a0) ((zam/\True/\(ze,zal)=zf/\zan))))/\((aR.isNil zak)=ψ->(zam/\True/\(zb,zal)=zf/\zan)))))/\((zy)=ψ->(((zy)=φ->((fun a0:Prop=>a0/\a0) ((zac/\True/\(ze,zaa)=zf/\zao))))/\((zy)=ψ->(zac/\True/\(zb,zaa)=zf/\zao)))))))))))))))))))))))))) κ ?_
 dsimp -iota -proj -eta only;dsimp only at hp;refine⟨hp.1,iB (fun h0 =>?a) (fun h0 h1 h2=>⟨(by have hr:=hp.2.1;have hr2:=hp.2.2.1;simp only[aF]at*;dsimp only[D]at*;omega),?b,fun E q_0 F q_1 h3 h4=>⟨?c,fun h5 h6=>⟨?d,⟨fun h7=>absurd (show ψ=φ from h7) δ,fun h7=>⟨?e,?f,fun G q_2 I q_3=>⟨(show ∀{a0 a1:Prop},a0->a1->a0/\a0/\a1 from fun g0 g1=>⟨g0,g0,g1⟩) ((show ∀{a0:Prop},a0->a0/\a0 from fun g0=>⟨g0,g0⟩) (⟨?g,rfl,?h,fun h8=>iB (fun h9 h10 =>?i) (fun h9 h10 h11=>⟨?j,?k⟩)⟩)) (⟨?l,rfl,?m,fun h8=>iB (fun h9 h10 =>?n) (fun h9 h10 h11=>⟨?o,?p⟩)⟩),⟨(show ∀{a0:Prop},a0->a0/\a0 from fun g0=>⟨g0,g0⟩) (⟨?q,rfl,?r,fun h8=>iB (fun h9 h10 =>?s) (fun h9 h10 h11=>⟨?t,?u⟩)⟩),⟨?v,rfl,?w,fun h8=>iB (fun h9 h10 =>?x) (fun h9 h10 h11=>⟨?y,?z⟩)⟩⟩,⟨?a0,rfl,?a1,fun h8=>iB (fun h9 h10 =>?a2) (fun h9 h10 h11=>⟨?a3,?a4⟩)⟩⟩,fun h8=>⟨rfl,(by have hf:=FA (r:=r) hp.1 hp.2.2.2;exact⟨hf.oq,hf.len⟩),fun h9=>⟨fun h10=>⟨?a5,fun G q_2 h11=>⟨ba,rfl,(by have hf:=uQ (FA (r:=r) hp.1 hp.2.2.2);exact⟨hf.oq,b8 hf.pW δ⟩),fun h12=>⟨fun h13=>⟨rfl,(by have hf:=oP (uQ (FA (r:=r) hp.1 hp.2.2.2)) G (ig (r+1) (eR l).1.length);exact⟨hf.oq,hf.len⟩),fun h14=>⟨fun h15=>(show ∀{a0:Prop},a0->a0/\a0 from fun g0=>⟨g0,g0⟩) ((by subst q_2;exact⟨rfl,ba,aaV (K5 h0 h8 (aZ.1 h10) (aZ.1 h13)) (aZ.1 h15)⟩)),fun h15=>(by subst q_2;exact⟨rfl,ba,vV (K5 h0 h8 (aZ.1 h10) (aZ.1 h13)) (fD h15)⟩)⟩⟩,fun h13=>⟨fun h14=>(show ∀{a0:Prop},a0->a0/\a0 from fun g0=>⟨g0,g0⟩) ((cy (h13.symm.trans h14))),fun h14=>(by subst q_2;exact⟨rfl,ba,vV (ahx h0 h8 (aZ.1 h10) (fD h13)) (fD h13)⟩)⟩⟩⟩⟩,fun h10=>⟨fun h11=>⟨rfl,?a6,fun h12=>⟨fun h13=>(show ∀{a0:Prop},a0->a0/\a0 from fun g0=>⟨g0,g0⟩) (?a7),fun h13 =>?a8⟩⟩,fun h11=>⟨fun h12=>(show ∀{a0:Prop},a0->a0/\a0 from fun g0=>⟨g0,g0⟩) ((cy (h10.symm.trans h12))),fun h12=>⟨rfl,ba,vV (ahw h0 h8 (fD h10)) (fD h10)⟩⟩⟩⟩⟩⟩⟩⟩⟩⟩)⟩
 case a=>
  obtain⟨e1,e2,e3⟩:=aaU d r h0;rw[e3];exact⟨rfl,ba,vV (z:=(d,om l)) e1 e2⟩
 case b|a5=>trivial
 case c|d=>have ht:=agQ (r:=r) hp.2.1;simp only[aF]at*;dsimp only[D]at*;omega
 case e=>refine⟨δ,δ,?_⟩;rw[bw];have:=K4 hp.1;omega
 case f=>
  refine⟨rfl,[],rfl,rfl,ba,ba,rfl,?_⟩;rw[(ue h0).1,q_1,q_0];simp[jI,o3]
 case g|l|q|v|a0=>rw[cd];exact b8 (Nat.min_le_left _ _) δ
 case h|m|r|w|a1=>
  have hf:=PW (l:=l) (r:=r) hp.2.2.2 G;have h5000:=Ai hp.1;exact⟨hf.oq,b8 hf.pW (by have:G.length<gY (bW (eR l).1).length 64:=q_3;omega)⟩
 case i|n|s|x|a2=>exact⟨rfl,ba,vV (XI h0 q_2 h10 q_3 (fD h9)) (fD h9)⟩
 case j|o|t|y|a3=>
  have ht:=agQ (r:=r) hp.2.1;have h5000:=Ai hp.1;have:G.length<gY (bW (eR l).1).length 64:=q_3;simp only[aF]at*;dsimp only[D]at*;omega
 case k|p|u|z|a4=>
  have hz:=aZ.1 h9;refine⟨rfl,G++[I],?_,rfl,ba,ba,rfl,?_⟩
  ·rw[PY I q_2];exact hz
  ·rw[PY I q_2,bz]
   refine congrArg (fun z=>((),(r,o,()),z)) ?_;rw[show aP _=aR.nil from congrArg aP hz];simp only[b9,Int.natCast_add,Int.natCast_one,Int.add_assoc];rfl
 case a6|a7|a8=>exact cy (h10.symm.trans h11)
def Jp:aL:=bU dR [.obj 0,.d (.slice aC)] (fun a x=>a.1.length<=100/\0<=(x.1.1:Int)/\(x.1.1:Int)<=1000000000/\dX x.2 1000000) QI
def Vd:aW prog aE.eT aH 98 ψ Jp:=
 Jh (X:=aH) abN ah3 func160 κ func98 κ (fun(a:CD [.obj 0,.d (.slice aC)]) (x:PD dR)=>QH a.1 x.1.1 x.1.2.1 x.2) (fun a x hw hp=>ah5 a.1 x.1.1 x.1.2.1 x.2 hp)
def HW:List (FuncId×(Bool×aL)):=[(125,(ψ,iI aE [] f125 []))]
def QJ:bH prog aE aH HW:=
 aM (fF (bK bJ) func125 κ []) (bK bJ)
def LA:cP:=[(0,fun st=>{X:=Nat,inv:=fun i=>i<=(bI (.slice aC) st 0).length/\∀j,j<i->(nth aC (bI (.slice aC) st 0) j).1≠ad0 .str st (WB st 1 0),bG:=fun i=>(bI (.slice aC) st 0).length-i,bB:=fun i=>[(8,sI i)],keep:=[0,1,7]})]
def Ve:List (FuncId×(Bool×aL)):=[(124,(ψ,iI aE HW f124 LA))]
def abO:bH prog aE aH Ve:=
 aM (fF QJ func124 κ LA) (bK bJ)
def QK:List (Alt dR [.obj 0,.d .str]):=[{bQ:=dR,res:=[.d (.int .i64)],out:=fun _ x=>x,ret:=fun a x=>(fG x.1.2.1 a.1,())}]
def ah6(s:aA)(r:Int)(o:List (D aC))(d:Dk):(cE aE Ve f96 [] dR [.obj 0,.d .str] QK (s,()) ((r,o,()),d)).holds:=by
 refine ζ (p:=let za:=bb o;let zb:=d.2.2.2.1=d.2.2.2.1;let zc:=((r,o,()),d);let zd:=(fG o s,());let ze:=C.ref 1 0;za<=aG->(∃(x:Nat),(x<=za/\∀(j:Nat),j<x->(nth aC o j).1≠s)/\(0=(↑x:Int)/\True)/\True)/\∀E:Nat,(E<=za/\∀(j:Nat),j<E->(nth aC o j).1≠s)->((ρ ((↑E:Int)<(↑za:Int)))=φ->(0<=(↑E:Int)/\(↑E:Int)<(↑za:Int))/\(((nth aC o E).1 == s)=φ->zb/\True/\zc=zc/\((↑E:Int),())=zd)/\(((nth aC o E).1 == s)=ψ->aF (↑E:Int)->aF 1->aF ((↑E:Int)+1)/\∃(x':Nat),(x'<=za/\∀(j:Nat),j<x'->(nth aC o j).1≠s)/\za-x'<za-E/\((↑E:Int)+1=(↑x':Int)/\True)/\(s=s/\True)/\(ze=ze/\r=r/\o=o/\True)/\(C.bD 2=C.bD 2/\C.bD 3=C.bD 3/\zb/\d.1.1=d.1.1/\d.1.2.1=d.1.2.1/\True)/\d.2.1=d.2.1/\d.2.2.1=d.2.2.1/\zb/\True))/\((ρ ((↑E:Int)<(↑za:Int)))=ψ->zb/\True/\zc=zc/\((-1:Int),())=zd)) κ ?_
 dsimp -iota -proj -eta only;exact fun h0=>⟨(⟨0,⟨ca _,fun j hj=>absurd hj (cz _)⟩,⟨rfl,ba⟩,ba⟩),fun E q_0=>iL (fun h1=>⟨ω,iQ (fun h2=>⟨rfl,ba,rfl,by rw[Ag ω q_0.2 h2]⟩) (fun h2 h3 h4=>⟨(by simp only[aF,aG]at*;omega),(⟨E+1,⟨ω,jM q_0.2 h2⟩,ω,⟨ω,ba⟩,θ⟩)⟩)⟩) (fun h1=>⟨rfl,ba,rfl,by rw[si fun j hj=>q_0.2 j ω]⟩)⟩
def Dr:aL:=bU dR [.obj 0,.d .str] (fun _ _=>True) QK
def Jq:aW prog aE.eT aH 96 ψ Dr:=
 bA (X:=aH) abO func96 κ (fun(a:CD [.obj 0,.d .str]) (x:PD dR)=>[]) (fun a x hw hp=>ah6 a.1 x.1.1 x.1.2.1 x.2)
def Yf(l:List (D aJ))(hp:(fun l=>l.length<=1000000) l):(cH aE [] f126 [] [.slice aJ] [.slice aJ] (fun x y=>y=(fun l=>l) x) l).holds:=by
 refine ζ (p:=∀E:Bool,(0<bb l->E=ψ)->(E=φ->(@bc (aA×Int×Int×Unit)=l))/\(E=ψ->bb l<=1000000000/\l=l)) κ ?_
 exact fun E q_0=>⟨fun h0=>(by simp_all),fun h0=>⟨ω,rfl⟩⟩
def HX:aL:=bP [.slice aJ] [.slice aJ] (fun l=>l.length<=1000000) (fun l=>l)
def Yg:aW prog aE.eT aH 126 φ HX:=
 aI (bO (X:=aH) (bK bJ) func126 κ (fun _=>[]) (fun x hw hp=>Yf x hp))
def Yh(l:List (D aQ))(hp:(fun l=>l.length<=1000000) l):(cH aE [] f127 [] [.slice aQ] [.slice aQ] (fun x y=>y=(fun l=>l) x) l).holds:=by
 refine ζ (p:=∀E:Bool,(0<bb l->E=ψ)->(E=φ->(@bc (Int×Int×Int×Unit)=l))/\(E=ψ->bb l<=1000000000/\l=l)) κ ?_
 exact fun E q_0=>⟨fun h0=>(by simp_all),fun h0=>⟨ω,rfl⟩⟩
def HY:aL:=bP [.slice aQ] [.slice aQ] (fun l=>l.length<=1000000) (fun l=>l)
def Yi:aW prog aE.eT aH 127 φ HY:=
 aI (bO (X:=aH) (bK bJ) func127 κ (fun _=>[]) (fun x hw hp=>Yh x hp))
def LB:List (FuncId×(Bool×aL)):=[(126,(φ,HX)),(127,(φ,HY))]
def Tj:bH prog aE aH LB:=
 aM Yg (aM Yi (bK bJ))
def abP(e:D aC)(hp:(fun e=>e.2.1.length<=1000000/\e.2.2.1.length<=1000000) e):(cH aE LB f97 [] [aC] [aC] (fun x y=>y=(fun e=>e) x) e).holds:=by
 refine ζ (p:=bb e.2.1<=1000000/\bb e.2.2.1<=1000000/\e=e) κ ?_
 refine⟨?a,?b,rfl⟩
 case a|b=>omega
def CH:aL:=bP [aC] [aC] (fun e=>e.2.1.length<=1000000/\e.2.2.1.length<=1000000) (fun e=>e)
def LC:aW prog aE.eT aH 97 φ CH:=
 aI (bO (X:=aH) Tj func97 κ (fun _=>[]) (fun x hw hp=>abP x hp))
def spZ1:Bool×aL:=(ψ,iI aE [] f95 [])
def QL:List (FuncId×(Bool×aL)):=[(30,(φ,CB)),(95,spZ1),(96,(ψ,Dr)),(97,(φ,CH)),(98,(ψ,Jp))]
def Yj:bH prog aE aH QL:=
 aM Lo (aM (fF (bK bJ) func95 κ []) (aM Jq (aM LC (aM Vd (bK bJ)))))
def Vf:List (Alt dR [.obj 0,.d aC]):=[{bQ:=dR,res:=[.d .err],out:=fun a x=>(mG x a.1).1,ret:=fun a x=>(aP (mG x a.1).2,())}]
def afA(e:D aC)(r:Int)(o:List (D aC))(d:Dk)(hp:(fun a x=>(a.1.2.1.length<=1000000/\a.1.2.2.1.length<=1000000)/\x.1.2.1.length<=99/\0<=(x.1.1:Int)/\(x.1.1:Int)<=1000000000/\dX x.2 1000000) (e,()) ((r,o,()),d)):(cE aE QL f52 [] dR [.obj 0,.d aC] Vf (e,()) ((r,o,()),d)).holds:=by
 refine ζ (p:=let za:=aP (bF e);let zb:=d.2.2.2.1=d.2.2.2.1;let zc:=(r,o,());let zd:=mG (zc,d) e;let ze:=(zc,d)=zd.1;let zf:=(aP zd.2,());let zg:=bb o;let zh:=fG o e.1;let zi:=ρ (zh>=0);let zj:=bb e.2.1<=1000000/\bb e.2.2.1<=1000000;let zk:=0<=zh;let zl:=bb (@bc (aA×List (aA×Int×Int×Unit)×List (Int×Int×Int×Unit)×Unit));let zm:=zb/\True/\ze/\(aR.no 2,())=zf;let zn:=@bc (aA×List (aA×Int×Int×Unit)×List (Int×Int×Int×Unit)×Unit)++[e];let zo:=0<=r/\r<=1000000000/\dX d 1000000;let zp:=fP d r zn;let zq:=zp.1.2.2.2.1;let zr:=r+1;let zs:=db o (bd zh) e;let zt:=fP d r zs;let zu:=zt.1.2.2.2.1;let zv:=o++[e];let zw:=fP d r zv;let zx:=zw.1.2.2.2.1;True/\((!aR.isNil za)=φ->zb/\True/\ze/\(za,())=zf)/\((!aR.isNil za)=ψ->∀E:Bool,(0<zg->E=ψ)->(E=φ->zb/\True/\(True->(zi=φ->zj/\(zk/\zh<(↑zl:Int))/\False)/\(zi=ψ->zl<=aG->(((↑zl:Int) == 3)=φ->zm)/\(((↑zl:Int) == 3)=ψ->zj/\(@bc (aA×List (aA×Int×Int×Unit)×List (Int×Int×Int×Unit)×Unit)=@bc (aA×List (aA×Int×Int×Unit)×List (Int×Int×Int×Unit)×Unit)/\zl+bb [e]<=1000000000)/\zb/\(bb zn<=100/\zo)/\(True->zq=zq/\True/\(if zp.2=0 then(zr,zn,())else zc,zp.1)=zd.1/\(aP zp.2,())=zf)))))/\(E=ψ->zg<=1000000000/\zb/\True/\(True->(zi=φ->zj/\(zk/\zh<(↑zg:Int))/\bd zh<zg/\zb/\(bb zs<=100/\zo)/\(True->zu=zu/\True/\(if zt.2=0 then(zr,zs,())else zc,zt.1)=zd.1/\(aP zt.2,())=zf))/\(zi=ψ->zg<=aG->(((↑zg:Int) == 3)=φ->zm)/\(((↑zg:Int) == 3)=ψ->zj/\(o=o/\zg+bb [e]<=1000000000)/\zb/\(bb zv<=100/\zo)/\(True->zx=zx/\True/\(if zw.2=0 then(zr,zv,())else zc,zw.1)=zd.1/\(aP zw.2,())=zf))))))) κ ?_
 dsimp -iota -proj -eta only;dsimp only at hp;refine⟨ba,iB (fun h0=>(by rw[K6 (fD h0)];exact⟨rfl,ba,rfl,rfl⟩)) (fun h0 E q_0=>⟨fun h1=>⟨rfl,ba,fun h2=>iE (fun h3=>⟨?a,(by exfalso;have:=Cr q_0 h1;subst this;exact uf _ h3),(by have:=Cr q_0 h1;subst this;exact uf _ h3)⟩) (fun h3 h4=>⟨fun h5=>absurd (show ψ=φ from h5) δ,fun h5=>⟨?b,?c,rfl,?d,fun h6 =>?e⟩⟩)⟩,fun h1=>⟨?f,rfl,ba,fun h2=>iE (fun h3=>⟨?g,⟨ω,(s4 o e.1).1⟩,(by have:=(s4 o e.1).1;omega),rfl,?h,fun h4=>(by rw[UW (x:=((r,o,()),d)) (aZ.1 h0) ω];exact⟨rfl,ba,rfl,rfl⟩)⟩) (fun h3 h4=>iQ (fun h5=>(by rw[PZ (x:=((r,o,()),d)) (aZ.1 h0) (show ¬0<=fG o e.1 by omega) h5];exact⟨rfl,ba,rfl,rfl⟩)) (fun h5=>⟨?i,(by have h99:o.length<=99:=hp.2.1;exact⟨rfl,by rw[b9];omega⟩),rfl,?j,fun h6=>(by rw[Ji (x:=((r,o,()),d)) (aZ.1 h0) (show ¬0<=fG o e.1 by omega) h5];exact⟨rfl,ba,rfl,rfl⟩)⟩))⟩⟩)⟩
 case a|b|f|g|i=>omega
 case c|d|j=>simp_all
 case e=>
  have ho:=Cr q_0 h1;subst ho;rw[Ji (x:=((r,[],()),d)) (aZ.1 h0) (uf _) (show ¬((([]:List (D aC)).length:Int)=3)from by decide)];exact⟨rfl,ba,rfl,rfl⟩
 case h=>refine⟨?_,hp.2.2.1,hp.2.2.2.1,hp.2.2.2.2⟩;rw[dT];exact b8 hp.2.1 δ
def QM:aL:=bU dR [.obj 0,.d aC] (fun a x=>(a.1.2.1.length<=1000000/\a.1.2.2.1.length<=1000000)/\x.1.2.1.length<=99/\0<=(x.1.1:Int)/\(x.1.1:Int)<=1000000000/\dX x.2 1000000) Vf
def afB:aW prog aE.eT aH 52 ψ QM:=
 bA (X:=aH) Yj func52 κ (fun(a:CD [.obj 0,.d aC]) (x:PD dR)=>[]) (fun a x hw hp=>afA a.1 x.1.1 x.1.2.1 x.2 hp)
def abQ:List (FuncId×(Bool×aL)):=[(96,(ψ,Dr)),(97,(φ,CH))]
def afC:bH prog aE aH abQ:=
 aM Jq (aM LC (bK bJ))
def Vh:List (Alt dR [.obj 0,.d .str]):=[{bQ:=dR,res:=[.d aC,.d .bool],out:=fun _ x=>x,ret:=fun a x=>((cN x.1.2.1 a.1).1,(cN x.1.2.1 a.1).2,())}]
def ajz(s:aA)(r:Int)(o:List (D aC))(d:Dk)(hp:(fun _ x=>∀i,i<x.1.2.1.length->(nth aC x.1.2.1 i).2.1.length<=1000000/\(nth aC x.1.2.1 i).2.2.1.length<=1000000) (s,()) ((r,o,()),d)):(cE aE abQ f55 [] dR [.obj 0,.d .str] Vh (s,()) ((r,o,()),d)).holds:=by
 refine ζ (p:=let za:=d.2.2.2.1=d.2.2.2.1;let zb:=fG o s;let zc:=((r,o,()),d);let zd:=((cN o s).1,(cN o s).2,());let ze:=nth aC o (bd zb);za/\True/\(True->((ρ (zb<0))=φ->za/\True/\zc=zc/\(([],[],[],()),ψ,())=zd)/\((ρ (zb<0))=ψ->(0<=zb/\zb<(↑(bb o):Int))/\(bb ze.2.1<=1000000/\bb ze.2.2.1<=1000000)/\za/\True/\zc=zc/\(ze,φ,())=zd))) κ ?_
 dsimp -iota -proj -eta only;dsimp only at hp;exact⟨rfl,ba,fun h0=>iL (fun h1=>(by rw[P0 ω];exact⟨rfl,ba,rfl,rfl⟩)) (fun h1=>⟨⟨ω,(s4 o s).1⟩,(hp _ (by have:=(s4 o s).1;omega)),(by rw[Jj ω];exact⟨rfl,ba,rfl,rfl⟩)⟩)⟩
def QN:aL:=bU dR [.obj 0,.d .str] (fun _ x=>∀i,i<x.1.2.1.length->(nth aC x.1.2.1 i).2.1.length<=1000000/\(nth aC x.1.2.1 i).2.2.1.length<=1000000) Vh
def abR:aW prog aE.eT aH 55 ψ QN:=
 bA (X:=aH) afC func55 κ (fun(a:CD [.obj 0,.d .str]) (x:PD dR)=>[]) (fun a x hw hp=>ajz a.1 x.1.1 x.1.2.1 x.2 hp)
def QO(o:List (D aC)):cP:=[
 (0,fun st=>{X:=Nat,inv:=fun i=>i<=o.length,bG:=fun i=>o.length-i,bB:=fun i=>[(11,sI i),(3,.s (.one (.app .str (eJ (o.take i)) (aS st 3))))],aK:=fun i=>[(aS st 3,.tok .str (eJ (o.take i)))],keep:=[2,9,10],dU:=[aS st 3]})]
def LD:List (Alt dR [.obj 0]):=[{bQ:=dR,res:=[.d (.slice .str)],out:=fun _ x=>x,ret:=fun _ x=>(eJ x.1.2.1,())}]
def afD(r:Int)(o:List (D aC))(d:Dk)(hp:(fun _ x=>x.1.2.1.length<=1000000) () ((r,o,()),d)):(cE (gy aE [19]) [] f59 ((fun(r:Int) (o:List (D aC)) (d:Dk)=>QO o) r o d) dR [.obj 0] LD () ((r,o,()),d)).holds:=by
 refine ζ (p:=let za:=bb o;let zb:=fun(E:Nat)=>eJ (bf E o);let zc:=fun(E:Nat)=>zb E++[(nth aC o E).1];let zd:=C.ref 1 0;let ze:=d.2.2.2.1=d.2.2.2.1;let zf:=((r,o,()),d);za<=aG->(∃(x:Nat),x<=za/\(0=(↑x:Int)/\@bc aA=eJ (bf x o)/\True)/\@bc aA=eJ (bf x o)/\True)/\∀E:Nat,E<=za->((ρ ((↑E:Int)<(↑za:Int)))=φ->(0<=(↑E:Int)/\(↑E:Int)<(↑za:Int))/\(zb E=zb E/\bb (zb E)+bb [(nth aC o E).1]<=1000000000)/\(aF (↑E:Int)->aF 1->aF ((↑E:Int)+1)/\∃(x':Nat),x'<=za/\za-x'<za-E/\((↑E:Int)+1=(↑x':Int)/\zc E=eJ (bf x' o)/\True)/\zc E=eJ (bf x' o)/\@bc aA=@bc aA/\(zd=zd/\r=r/\o=o/\True)/\(C.bD 2=C.bD 2/\C.bD 3=C.bD 3/\ze/\d.1.1=d.1.1/\d.1.2.1=d.1.2.1/\True)/\d.2.1=d.2.1/\d.2.2.1=d.2.2.1/\ze/\True))/\((ρ ((↑E:Int)<(↑za:Int)))=ψ->ze/\True/\zf=zf/\(zb E,())=(eJ o,()))) κ ?_
 dsimp -iota -proj -eta only;dsimp only at hp;refine fun h0=>⟨(⟨0,ca _,⟨rfl,rfl,ba⟩,rfl,ba⟩),fun E q_0=>iL (fun h1=>⟨ω,?a,fun h2 h3=>⟨(by simp only[aF,aG]at*;omega),(⟨E+1,ω,ω,⟨ω,tG ω,ba⟩,tG ω,θ⟩)⟩⟩) (fun h1=>(by rw[de ω];exact⟨rfl,ba,rfl,rfl⟩))⟩
 case a=>refine⟨rfl,?_⟩;rw[Hw,cd,b9];have:o.length<=1000000:=hp;omega
def QP:aL:=bU dR [.obj 0] (fun _ x=>x.1.2.1.length<=1000000) LD
def afE:aW prog aE.eT aH 59 ψ QP:=
 bA (B:=(gy aE [19])) (X:=aH) (bH.hint (l:=[19]) (bK bJ)) func59 κ (fun(a:CD [.obj 0]) (x:PD dR)=>(fun(r:Int) (o:List (D aC)) (d:Dk)=>QO o) x.1.1 x.1.2.1 x.2) (fun a x hw hp=>afD x.1.1 x.1.2.1 x.2 hp)
def spZ2:Bool×aL:=(φ,bP [.str] [.int .i64,.err] (fun s=>s.length<=281474976710656) (fun s=>dG s))
def spZ3:Bool×aL:=(φ,bP [.str,.str] [.str,.bool] (fun _=>True) (fun x=>(cg x.1 x.2,c7 x.1 x.2)))
def spZ4:Bool×aL:=(φ,bP [.str,.str] [.str] (fun _=>True) (fun x=>bu x.1 x.2))
def spZ5:Bool×aL:=(φ,bP [.str,.str] [.slice .str] (fun x=>x.1.length<4294967281/\x.2.length=1) (fun x=>parts (Uz x.2) x.1))
def HZ:List (FuncId×(Bool×aL)):=[(61,spZ0),(106,spZ2),(145,spZ3),(64,spZ4),(63,spZ5)]
def QQ:bH prog aE aH HZ:=
 aM (aI lV) (aM (aI s7) (aM (aI qa) (aM (aI mT) (aM (aI s9) (bK bJ)))))
def H0(l:List aA):cP:=[
 (0,fun st=>{X:=Nat,inv:=fun i=>i<=l.length/\∀j,j<i->(dO (nth .str l j)).isNone=ψ,bG:=fun i=>l.length-i,bB:=fun i=>[(11,sI i),(4,.s (.one (.app (.int .i64) (oN (l.take i)) (aS st 4))))],aK:=fun i=>[(aS st 4,.tok (.int .i64) (oN (l.take i)))],keep:=[9,10],dU:=[aS st 4]})]
def Tk(l:List aA)(hp:(fun l=>l.length<=1000000/\∀i,(nth .str l i).length<=1000000) l):(cH aE HZ f65 (H0 l) [.slice .str] [.slice (.int .i64),.bool] (fun x y=>y=(fun l=>cJ l) x) l).holds:=by
 refine ζ (p:=let za:=bb l;let zb:=([],ψ)=cJ l;let zc:=fun(E:Nat)=>oN (bf E l);let zd:=fun(E:Nat)=>zc E++[(dG (nth Ty.str l E)).1];za<=aG->(∃(x:Nat),(x<=za/\∀(j:Nat),j<x->ck (dO (nth Ty.str l j))=ψ)/\(0=(↑x:Int)/\@bc Int=oN (bf x l)/\True)/\@bc Int=oN (bf x l)/\True)/\∀E:Nat,(E<=za/\∀(j:Nat),j<E->ck (dO (nth Ty.str l j))=ψ)->((ρ ((↑E:Int)<(↑za:Int)))=φ->(0<=(↑E:Int)/\(↑E:Int)<(↑za:Int))/\bb (nth Ty.str l E)<=281474976710656/\((!aR.isNil (dG (nth Ty.str l E)).2)=φ->zb)/\((!aR.isNil (dG (nth Ty.str l E)).2)=ψ->True/\((!bp (dG (nth Ty.str l E)).1 == nth Ty.str l E)=φ->zb)/\((!bp (dG (nth Ty.str l E)).1 == nth Ty.str l E)=ψ->(zc E=zc E/\bb (zc E)+bb [(dG (nth Ty.str l E)).1]<=1000000000)/\(aF (↑E:Int)->aF 1->aF ((↑E:Int)+1)/\∃(x':Nat),(x'<=za/\∀(j:Nat),j<x'->ck (dO (nth Ty.str l j))=ψ)/\za-x'<za-E/\((↑E:Int)+1=(↑x':Int)/\zd E=oN (bf x' l)/\True)/\zd E=oN (bf x' l)/\@bc Int=@bc Int/\True))))/\((ρ ((↑E:Int)<(↑za:Int)))=ψ->(zc E,φ)=cJ l)) κ ?_
 dsimp -iota -proj -eta only;refine fun h0=>⟨(⟨0,⟨ca _,fun j hj=>absurd hj (cz _)⟩,⟨rfl,rfl,ba⟩,rfl,ba⟩),fun E q_0=>iL (fun h1=>⟨ω,(b8 (hp.2 _) δ),iB (fun h2=>(Eb (i:=E) ω (by rw[tZ,h2];rfl))) (fun h2=>⟨ba,⟨fun h3 =>?a,fun h3=>⟨?b,fun h4 h5=>⟨?c,?d⟩⟩⟩⟩)⟩) (fun h1=>(Xy (i:=E) ω (fun j hj _=>q_0.2 j hj)))⟩
 case a=>
  simp only[bl,reduceCtorEq]at h3;exact Eb (i:=E) ω (by rw[tZ,decide_eq_false h3];simp)
 case b=>
  simp only[bl,reduceCtorEq]at h3;exact⟨rfl,by unfold oN;simp only[bw,cd,b9];omega⟩
 case c=>
  simp only[bl,reduceCtorEq]at h3;simp only[aF,aG]at*;omega
 case d=>
  simp only[bl,reduceCtorEq]at h3;exact⟨E+1,⟨ω,jM q_0.2 (by rw[tZ,h2,decide_eq_true h3];rfl)⟩,ω,⟨ω,(Ho ω).symm,ba⟩,(Ho ω).symm,θ⟩
def Eo:aL:=bP [.slice .str] [.slice (.int .i64),.bool] (fun l=>l.length<=1000000/\∀i,(nth .str l i).length<=1000000) (fun l=>cJ l)
def Tl:aW prog aE.eT aH 65 φ Eo:=
 aI (bO (X:=aH) QQ func65 κ (fun x=>H0 x) (fun x hw hp=>Tk x hp))
def LF:List (FuncId×(Bool×aL)):=[(61,spZ0),(106,spZ2),(145,spZ3),(64,spZ4),(63,spZ5),(65,(φ,Eo)),(29,(φ,At))]
def Tm:bH prog aE aH LF:=
 aM (aI lV) (aM (aI s7) (aM (aI qa) (aM (aI mT) (aM (aI s9) (aM Tl (aM FN (bK bJ)))))))
def LG(s:aA):cP:=[
 (300004,fun st=>{X:=List Int×Bool,inv:=fun y=>uB (parts 32 (bu s [10])) y,bG:=fun _=>0,bB:=fun y=>[(5,sD (.slice (.int .i64)) y.1),(6,sB y.2)],keep:=[0,2,3,4]}),
 (300005,fun st=>{X:=Bool,inv:=fun c=>c=ψ↔sY (parts 32 (bu s [10])),bG:=fun _=>0,bB:=fun c=>[(69,sB c)],keep:=[0,2,3,4,5]}),
 (300011,fun st=>{X:=List aA,inv:=fun x=>nP (parts 32 (bu s [10])) x (bd (bI (.int .i64) st 8)),bG:=fun _=>0,bB:=fun x=>[(9,sD (.slice .str) x)],keep:=[0,2,3,4,5,7,8,82,83,84,85]}),
 (0,fun st=>{X:=Nat,inv:=fun i=>i<=(bd (nth (.int .i64) (bI (.slice (.int .i64)) st 5) 0))+(bd (nth (.int .i64) (bI (.slice (.int .i64)) st 5) 1)),bG:=fun i=>(bd (nth (.int .i64) (bI (.slice (.int .i64)) st 5) 0))+(bd (nth (.int .i64) (bI (.slice (.int .i64)) st 5) 1))-i,bB:=fun i=>[(83,sI i)],aK:=fun i=>[(aS st 7,.cells 48 [.d .str (nth .str (parts 32 (bu s [10])) 0),.app aJ (eZ dW (parts 32 (bu s [10])) (cj i (bd (nth (.int .i64) (bI (.slice (.int .i64)) st 5) 0)))) (iT st (aS st 7) 1),.app aQ (dP dW (parts 32 (bu s [10])) (bd (nth (.int .i64) (bI (.slice (.int .i64)) st 5) 0)) (i-(bd (nth (.int .i64) (bI (.slice (.int .i64)) st 5) 0)))) (iT st (aS st 7) 2)]),(iT st (aS st 7) 1,.tok aJ (eZ dW (parts 32 (bu s [10])) (cj i (bd (nth (.int .i64) (bI (.slice (.int .i64)) st 5) 0))))),(iT st (aS st 7) 2,.tok aQ (dP dW (parts 32 (bu s [10])) (bd (nth (.int .i64) (bI (.slice (.int .i64)) st 5) 0)) (i-(bd (nth (.int .i64) (bI (.slice (.int .i64)) st 5) 0)))))],keep:=[0,2,4,5,7,82],dU:=[aS st 7,iT st (aS st 7) 1,iT st (aS st 7) 2]})]
def abS(s:aA)(hp:(fun s=>s.length<=100000) s):(cH aE LF f32 (LG s) [.str] [aC,.err] (fun x y=>y=(fun s=>jz s) x) s).holds:=by
 refine ζ (p:=let za:=bu s [(10:UInt8)];let zb:=parts (32:UInt8) za;let zc:=bb zb<=aG;let zd:=(↑(bb zb):Int);let ze:=(([],[],[],()),aR.no (4:Int))=jz s;let zf:=(0:Int)<=(1:Int);let zg:=bm 1 (bf 3 zb);let zh:=@bc (aA×Int×Int×Unit)=@bc (aA×Int×Int×Unit);let zi:=@bc (Int×Int×Int×Unit)=@bc (Int×Int×Int×Unit);let zj:=(@bc UInt8=@bc UInt8/\zh/\zi/\True)/\zi/\zh/\True;let zk:=sY zb;let zl:=∃(x':Bool),(x'=ψ↔zk)/\(φ=x'/\True)/\zj;let zm:=(0:Int)<=(0:Int);let zn:=fun(E:List Int×Bool)=>zm/\(0:Int)<(↑(bb E.1):Int);let zo:=Ty.int bo;let zp:=fun(E:List Int×Bool)=>nth zo E.1 0;let zq:=fun(E:List Int×Bool)=>zf/\(1:Int)<(↑(bb E.1):Int);let zr:=fun(E:List Int×Bool)=>nth zo E.1 1;let zs:=fun(E:List Int×Bool)=>aF (zp E+zr E);let zt:=aF (3:Int);let zu:=fun(F:Int)=>(3:Int)+F;let zv:=fun(E:List Int×Bool)=>bd (zp E);let zw:=fun(E:List Int×Bool)=>zv E+bd (zr E);let zx:=nth Ty.str zb 0;let zy:=zx=zx;let zz:=fun(G:Nat)=>aF (↑G:Int);let zaa:=fun(G:Nat) (E:List Int×Bool)=>eZ dW zb (cj G (zv E));let zab:=fun(E:List Int×Bool) (G:Nat)=>dP dW zb (zv E) (G-zv E);let zac:=zi/\zh/\zj;let zad:=fun(I:List aA)=>(↑(bb I):Int);let zae:=fun(I:List aA)=>bm 1 (bf (bb I) I);let zaf:=fun(I:List aA)=>(cJ (zae I)).1;let zag:=fun(I:List aA)=>[(nth Ty.str I 0,nth zo (zaf I) 0,nth zo (zaf I) 1,())];let zah:=fun(G:Nat)=>(↑G:Int)+(1:Int);let zai:=fun(I:List aA)=>(cJ I).1;let zaj:=fun(I:List aA)=>(↑(bb (zai I)):Int);let zak:=fun(I:List aA)=>[(nth zo (zai I) 0,nth zo (zai I) 1,nth zo (zai I) 2,())];True/\(bb za<4294967281/\bb [(32:UInt8)]=1)/\(zc->((ρ (zd<(3:Int)))=φ->ze)/\((ρ (zd<(3:Int)))=ψ->((zf/\(1:Int)<=(3:Int)/\(3:Int)<=zd)/\(bb zg<=1000000/\∀(i:Nat),bb (nth Ty.str zg i)<=1000000)/\∃(x':List Int×Bool),uB zb x'/\((cJ zg).1=x'.1/\(cJ zg).2=x'.2/\True)/\zj)/\∀E:List Int×Bool,uB zb E->(((!E.2)=φ->zl)/\((!E.2)=ψ->zn E/\((ρ (zp E<(0:Int)))=φ->zl)/\((ρ (zp E<(0:Int)))=ψ->zn E/\((ρ (zp E > (6:Int)))=φ->zl)/\((ρ (zp E > (6:Int)))=ψ->zq E/\((ρ (zr E<(0:Int)))=φ->zl)/\((ρ (zr E<(0:Int)))=ψ->zq E/\((ρ (zr E > (36:Int)))=φ->zl)/\((ρ (zr E > (36:Int)))=ψ->zc->zn E/\zq E/\(aF (zp E)->aF (zr E)->zs E/\∀F:Int,F=(3:Int)*(zp E+zr E)->zt->zs E->aF F/\(zt->aF F->aF (zu F)/\∃(x':Bool),(x'=ψ↔zk)/\((zd != zu F)=x'/\True)/\zj))))))))/\∀F:Bool,(F=ψ↔zk)->(F=φ->ze)/\(F=ψ->(zm/\(0:Int)<zd)/\zn E/\zq E/\(aF (zp E)->aF (zr E)->zs E/\(∃(x:Nat),x<=zw E/\((0:Int)=(↑x:Int)/\True)/\(zy/\@bc (aA×Int×Int×Unit)=eZ dW zb (cj x (zv E))/\@bc (Int×Int×Int×Unit)=dP dW zb (zv E) (x-zv E)/\True)/\@bc (aA×Int×Int×Unit)=eZ dW zb (cj x (zv E))/\@bc (Int×Int×Int×Unit)=dP dW zb (zv E) (x-zv E)/\True)/\∀G:Nat,G<=zw E->((ρ ((↑G:Int)<zp E+zr E))=φ->(∀I:Int,I=(3:Int)*(↑G:Int)->zt->zz G->aF I/\(zt->aF I->aF (zu I)/\∀K:Int,K=(3:Int)*(↑G:Int)->zt->zz G->aF K/\(aF (6:Int)->aF K->aF ((6:Int)+K)/\((0:Int)<=zu I/\zu I<=(6:Int)+K/\(6:Int)+K<=zd)/\∃(x':List aA),nP zb x' G/\(bm (bd (zu I)) (bf (bd ((6:Int)+K)) zb)=x'/\True)/\(zy/\zaa G E=zaa G E/\zab E G=zab E G/\True)/\zaa G E=zaa G E/\zab E G=zab E G/\zac)))/\∀I:List aA,nP zb I G->zn E/\((ρ ((↑G:Int)<zp E))=φ->(zf/\(1:Int)<=zad I/\zad I<=zad I)/\(bb (zae I)<=1000000/\∀(i:Nat),bb (nth Ty.str (zae I) i)<=1000000)/\((!(cJ (zae I)).2)=φ->ze)/\((!(cJ (zae I)).2)=ψ->(zm/\(0:Int)<zad I)/\(zm/\(0:Int)<(↑(bb (zaf I)):Int))/\(zf/\(1:Int)<(↑(bb (zaf I)):Int))/\(zaa G E=zaa G E/\bb (zaa G E)+bb (zag I)<=1000000000)/\(zz G->aF (1:Int)->aF (zah G)/\∃(x':Nat),x'<=zw E/\zw E-x'<zw E-G/\(zah G=(↑x':Int)/\True)/\(zy/\zaa G E++zag I=eZ dW zb (cj x' (zv E))/\zab E G=dP dW zb (zv E) (x'-zv E)/\True)/\zaa G E++zag I=eZ dW zb (cj x' (zv E))/\zab E G=dP dW zb (zv E) (x'-zv E)/\zac)))/\((ρ ((↑G:Int)<zp E))=ψ->(bb I<=1000000/\∀(i:Nat),bb (nth Ty.str I i)<=1000000)/\((!(cJ I).2)=φ->ze)/\((!(cJ I).2)=ψ->(zm/\(0:Int)<zaj I)/\(zf/\(1:Int)<zaj I)/\((0:Int)<=(2:Int)/\(2:Int)<zaj I)/\(zab E G=zab E G/\bb (zab E G)+bb (zak I)<=1000000000)/\(zz G->aF (1:Int)->aF (zah G)/\∃(x':Nat),x'<=zw E/\zw E-x'<zw E-G/\(zah G=(↑x':Int)/\True)/\(zy/\zaa G E=eZ dW zb (cj x' (zv E))/\zab E G++zak I=dP dW zb (zv E) (x'-zv E)/\True)/\zaa G E=eZ dW zb (cj x' (zv E))/\zab E G++zak I=dP dW zb (zv E) (x'-zv E)/\zac))))/\((ρ ((↑G:Int)<zp E+zr E))=ψ->True/\((!aR.isNil (dM (zx,zaa G E,zab E G,())).2)=φ->ze)/\((!aR.isNil (dM (zx,zaa G E,zab E G,())).2)=ψ->((!(dM (zx,zaa G E,zab E G,())).1 == s)=φ->ze)/\((!(dM (zx,zaa G E,zab E G,())).1 == s)=ψ->((zx,zaa G E,zab E G,()),aR.nil)=jz s)))))))) κ ?_
 dsimp -iota -proj -eta only;refine⟨ba,(by have:=C9 s [10];exact⟨ω,rfl⟩),fun h0=>iL (fun h1=>(PC ω)) (fun h1=>⟨⟨θ,(ahs hp 1 3),(⟨_,ahu ω,⟨rfl,rfl,ba⟩,θ⟩)⟩,fun E q_0=>⟨iB (fun h2=>(⟨_,PB (q_0.2 h2),⟨rfl,ba⟩,θ⟩)) (fun h2=>⟨?a,iL (fun h3=>(⟨_,PB (fun hd=>by have k0:=q_0.k0 hd;have:=hd.a0;omega),⟨rfl,ba⟩,θ⟩)) (fun h3=>⟨?b,iL (fun h4=>(⟨_,PB (fun hd=>by have k0:=q_0.k0 hd;have:=hd.a6;omega),⟨rfl,ba⟩,θ⟩)) (fun h4=>⟨?c,iL (fun h5=>(⟨_,PB (fun hd=>by have k1:=q_0.k1 hd;have:=hd.b0;omega),⟨rfl,ba⟩,θ⟩)) (fun h5=>⟨?d,iL (fun h6=>(⟨_,PB (fun hd=>by have k1:=q_0.k1 hd;have:=hd.gQ;omega),⟨rfl,ba⟩,θ⟩)) (fun h6 h7=>⟨?e,?f,fun h8 h9=>⟨?g,fun F q_1 h10 h11=>⟨?h,fun h12 h13=>⟨?i,(⟨_,ajh (q_0.1 h2).2.1 (q_0.1 h2).2.2 (q_0.l0 h2) (q_0.l1 h2) ω ω ω ω q_1,⟨rfl,ba⟩,θ⟩)⟩⟩⟩⟩)⟩)⟩)⟩)⟩),fun F q_1=>⟨fun h2=>(SR (fun hd=>by rw[q_1.2 hd]at h2;cases h2)),fun h2=>⟨ω,?j,?k,fun h3 h4=>⟨?l,(⟨0,ca _,⟨rfl,ba⟩,⟨rfl,aaC _ _ _,agL _ _ _,ba⟩,aaC _ _ _,agL _ _ _,θ⟩),fun G q_2=>iL (fun h5=>⟨fun I q_3 h6 h7=>⟨?m,fun h8 h9=>⟨?n,fun K q_4 h10 h11=>⟨?o,fun h12 h13=>⟨?p,(by have hd:=(q_1.1 h2);have k0:=q_0.k0 hd;have k1:=q_0.k1 hd;have a0:=hd.a0;have a6:=hd.a6;have b0:=hd.b0;have gQ:=hd.gQ;have hl:=hd.len;omega),(⟨_,aaz q_3 q_4 (by have hd:=(q_1.1 h2);have k0:=q_0.k0 hd;have k1:=q_0.k1 hd;have a0:=hd.a0;have a6:=hd.a6;have b0:=hd.b0;have gQ:=hd.gQ;have hl:=hd.len;omega),⟨rfl,ba⟩,θ⟩)⟩⟩⟩⟩,fun I q_3=>⟨?q,iL (fun h6=>⟨?r,(Xz q_3 (xC hp)),iB (fun h7=>(SS q_3 (by have hd:=(q_1.1 h2);have k0:=q_0.k0 hd;have k1:=q_0.k1 hd;have a0:=hd.a0;have a6:=hd.a6;have b0:=hd.b0;have gQ:=hd.gQ;have hl:=hd.len;omega) h7)) (fun h7=>⟨?s,?t,?u,⟨rfl,SU (by have hd:=(q_1.1 h2);have k0:=q_0.k0 hd;have k1:=q_0.k1 hd;have a0:=hd.a0;have a6:=hd.a6;have b0:=hd.b0;have gQ:=hd.gQ;have hl:=hd.len;omega)⟩,fun h8 h9=>⟨?v,(by exact⟨G+1,by have hd:=(q_1.1 h2);have k0:=q_0.k0 hd;have k1:=q_0.k1 hd;have a0:=hd.a0;have a6:=hd.a6;have b0:=hd.b0;have gQ:=hd.gQ;have hl:=hd.len;omega,by have hd:=(q_1.1 h2);have k0:=q_0.k0 hd;have k1:=q_0.k1 hd;have a0:=hd.a0;have a6:=hd.a6;have b0:=hd.b0;have gQ:=hd.gQ;have hl:=hd.len;omega,⟨ω,ba⟩,⟨rfl,KW q_3 h7 (by have hd:=(q_1.1 h2);have k0:=q_0.k0 hd;have k1:=q_0.k1 hd;have a0:=hd.a0;have a6:=hd.a6;have b0:=hd.b0;have gQ:=hd.gQ;have hl:=hd.len;omega),KX (by have hd:=(q_1.1 h2);have k0:=q_0.k0 hd;have k1:=q_0.k1 hd;have a0:=hd.a0;have a6:=hd.a6;have b0:=hd.b0;have gQ:=hd.gQ;have hl:=hd.len;omega),ba⟩,KW q_3 h7 (by have hd:=(q_1.1 h2);have k0:=q_0.k0 hd;have k1:=q_0.k1 hd;have a0:=hd.a0;have a6:=hd.a6;have b0:=hd.b0;have gQ:=hd.gQ;have hl:=hd.len;omega),KX (by have hd:=(q_1.1 h2);have k0:=q_0.k0 hd;have k1:=q_0.k1 hd;have a0:=hd.a0;have a6:=hd.a6;have b0:=hd.b0;have gQ:=hd.gQ;have hl:=hd.len;omega),θ⟩)⟩⟩)⟩) (fun h6=>⟨(aaA q_3 (xC hp)),iB (fun h7=>(PH q_3 (by have hd:=(q_1.1 h2);have k0:=q_0.k0 hd;have k1:=q_0.k1 hd;have a0:=hd.a0;have a6:=hd.a6;have b0:=hd.b0;have gQ:=hd.gQ;have hl:=hd.len;omega) (by have hd:=(q_1.1 h2);have k0:=q_0.k0 hd;have k1:=q_0.k1 hd;have a0:=hd.a0;have a6:=hd.a6;have b0:=hd.b0;have gQ:=hd.gQ;have hl:=hd.len;omega) h7)) (fun h7=>⟨?w,?x,?y,⟨rfl,aaE (by have hd:=(q_1.1 h2);have k0:=q_0.k0 hd;have k1:=q_0.k1 hd;have a0:=hd.a0;have a6:=hd.a6;have b0:=hd.b0;have gQ:=hd.gQ;have hl:=hd.len;omega)⟩,fun h8 h9=>⟨?z,(by exact⟨G+1,by have hd:=(q_1.1 h2);have k0:=q_0.k0 hd;have k1:=q_0.k1 hd;have a0:=hd.a0;have a6:=hd.a6;have b0:=hd.b0;have gQ:=hd.gQ;have hl:=hd.len;omega,by have hd:=(q_1.1 h2);have k0:=q_0.k0 hd;have k1:=q_0.k1 hd;have a0:=hd.a0;have a6:=hd.a6;have b0:=hd.b0;have gQ:=hd.gQ;have hl:=hd.len;omega,⟨ω,ba⟩,⟨rfl,Hr (by have hd:=(q_1.1 h2);have k0:=q_0.k0 hd;have k1:=q_0.k1 hd;have a0:=hd.a0;have a6:=hd.a6;have b0:=hd.b0;have gQ:=hd.gQ;have hl:=hd.len;omega),PJ q_3 h7 (by have hd:=(q_1.1 h2);have k0:=q_0.k0 hd;have k1:=q_0.k1 hd;have a0:=hd.a0;have a6:=hd.a6;have b0:=hd.b0;have gQ:=hd.gQ;have hl:=hd.len;omega),ba⟩,Hr (by have hd:=(q_1.1 h2);have k0:=q_0.k0 hd;have k1:=q_0.k1 hd;have a0:=hd.a0;have a6:=hd.a6;have b0:=hd.b0;have gQ:=hd.gQ;have hl:=hd.len;omega),PJ q_3 h7 (by have hd:=(q_1.1 h2);have k0:=q_0.k0 hd;have k1:=q_0.k1 hd;have a0:=hd.a0;have a6:=hd.a6;have b0:=hd.b0;have gQ:=hd.gQ;have hl:=hd.len;omega),θ⟩)⟩⟩)⟩)⟩⟩) (fun h5=>⟨ba,iB (fun h6 =>?a0) (fun h6=>⟨fun h7 =>?a1,fun h7 =>?a2⟩)⟩)⟩⟩⟩⟩⟩)⟩
 case a|b|c|d|e|f=>rw[(q_0.1 h2).1];simp
 case g|h|i|v=>simp only[aF,aG]at*;omega
 case j|k|q=>rw[q_0.get (q_1.1 h2)];simp
 case l|m|n|o|p|z=>have hd:=(q_1.1 h2);have k0:=q_0.k0 hd;have k1:=q_0.k1 hd;have a0:=hd.a0;have a6:=hd.a6;have b0:=hd.b0;have gQ:=hd.gQ;have hl:=hd.len;simp only[aF]at*;omega
 case r|s=>rw[q_3.len];simp
 case t|u=>rw[KV q_3 h7];simp
 case w|x|y=>rw[PG q_3 h7];simp
 case a0=>
  rw[PK (a:=bd (nth (.int .i64) E.1 0)) (b:=bd (nth (.int .i64) E.1 1)) (by have hd:=(q_1.1 h2);have k0:=q_0.k0 hd;have k1:=q_0.k1 hd;have a0:=hd.a0;have a6:=hd.a6;have b0:=hd.b0;have gQ:=hd.gQ;have hl:=hd.len;omega)]at h6;exact Ee (by have hd:=(q_1.1 h2);have k0:=q_0.k0 hd;have k1:=q_0.k1 hd;have a0:=hd.a0;have a6:=hd.a6;have b0:=hd.b0;have gQ:=hd.gQ;have hl:=hd.len;omega) (by have hd:=(q_1.1 h2);have k0:=q_0.k0 hd;have k1:=q_0.k1 hd;have a0:=hd.a0;have a6:=hd.a6;have b0:=hd.b0;have gQ:=hd.gQ;have hl:=hd.len;omega) (.inl h6)
 case a1=>
  simp only[bl,reduceCtorEq]at h7;rw[PK (a:=bd (nth (.int .i64) E.1 0)) (b:=bd (nth (.int .i64) E.1 1)) (by have hd:=(q_1.1 h2);have k0:=q_0.k0 hd;have k1:=q_0.k1 hd;have a0:=hd.a0;have a6:=hd.a6;have b0:=hd.b0;have gQ:=hd.gQ;have hl:=hd.len;omega)]at h7;exact Ee (by have hd:=(q_1.1 h2);have k0:=q_0.k0 hd;have k1:=q_0.k1 hd;have a0:=hd.a0;have a6:=hd.a6;have b0:=hd.b0;have gQ:=hd.gQ;have hl:=hd.len;omega) (by have hd:=(q_1.1 h2);have k0:=q_0.k0 hd;have k1:=q_0.k1 hd;have a0:=hd.a0;have a6:=hd.a6;have b0:=hd.b0;have gQ:=hd.gQ;have hl:=hd.len;omega) (.inr h7)
 case a2=>
  simp only[bl,reduceCtorEq]at h7;exact aaw h6 h7
def LH:aL:=bP [.str] [aC,.err] (fun s=>s.length<=100000) (fun s=>jz s)
def abT:aW prog aE.eT aH 32 φ LH:=
 aI (bO (X:=aH) Tm func32 κ (fun x=>LG x) (fun x hw hp=>abS x hp))
def ah7:jj prog aE.eT aH 104 [.str,.str,.int .i64,.int .i64] [.slice .str] (fun x=>x.1.length<4294967281/\x.2.1.length=1/\x.2.2.1=(1:Int)/\x.2.2.2=(-1:Int)) (fun x y=>y=eS (Uz x.2.1) x.1):=by
 refine⟨⟨f104,func104,κ,κ⟩,fun O w x vs hG hO ha hp =>?_⟩;obtain⟨s,p,sv,n⟩:=x;obtain⟨hs,hp,hsv,hn⟩:=hp;obtain⟨c,rfl⟩:∃c,p=[c]:=dt.1 hp
 obtain⟨v,vs',rfl,hv,u,vs2,rfl,hu,t,vs3,rfl,ht,z,hz⟩:=ha;obtain⟨rfl,hz⟩:=hz;obtain⟨rfl,hl⟩:=pf hv;obtain⟨rfl,_⟩:=pf hu;have et:t=.int .i64 1:=by obtain⟨e,_⟩:=ht.one rfl;simp at e;rw[e,show sv=(1:Int)from hsv]
 have ez:z=.int .i64 (-1):=by obtain⟨e,_⟩:=hz.one rfl;simp at e;rw[e,show n=(-1:Int)from hn]
 subst et;subst ez;obtain⟨m,hm⟩:=hG.max;have hsz:(⟨s.toArray⟩:ByteArray).size=s.length:=by simp[dh]
 have h1:1<=(⟨#[c]⟩:ByteArray).size:=cc 1;have hlen:=ek ⟨#[c]⟩ h1 1 _ ⟨s.toArray⟩ rfl;have hdat:=en ⟨#[c]⟩ 1 (bq ⟨s.toArray⟩ ⟨#[c]⟩) ⟨s.toArray⟩;have hcb:=Lib.countB_le ⟨#[c]⟩ h1 _ ⟨s.toArray⟩ (cc _);have hcall:Calls prog 104 #[.string ⟨s.toArray⟩,.string ⟨#[c]⟩,.int .i64 1,.int .i64 (-1)] w fun e w'=>
   e=.returned (.slice (ξ ⟨w.heap.size,0,χ⟩) (cb ⟨#[c]⟩ 1 (bq ⟨s.toArray⟩ ⟨#[c]⟩ +1-1) ⟨s.toArray⟩).length (bq ⟨s.toArray⟩ ⟨#[c]⟩ +1))/\w'=w.alloc (.cells (Lib.cellsOf (cb ⟨#[c]⟩ 1 (bq ⟨s.toArray⟩ ⟨#[c]⟩ +1-1) ⟨s.toArray⟩) (bq ⟨s.toArray⟩ ⟨#[c]⟩ +1)) 9):=Any.strings_genSplit {U4 with} κ ⟨s.toArray⟩ ⟨#[c]⟩ 1 (-1) (bq ⟨s.toArray⟩ ⟨#[c]⟩ +1) m w (by rw[hsz];exact hs) hm h1 (cc 1) δ δ (by rw[π δ];omega)
 rw[Nat.add_sub_cancel,hlen]at hcall;have e2:Lib.cellsOf (cb ⟨#[c]⟩ 1 (bq ⟨s.toArray⟩ ⟨#[c]⟩) ⟨s.toArray⟩) (bq ⟨s.toArray⟩ ⟨#[c]⟩ +1)=((cb ⟨#[c]⟩ 1 (bq ⟨s.toArray⟩ ⟨#[c]⟩) ⟨s.toArray⟩).map ct).toArray:=by rw[<-hlen];exact Lib.cellsOf_full _
 rw[e2]at hcall;refine hcall.mono ?_;rintro e w' ⟨rfl,rfl⟩;have hd:(cb ⟨#[c]⟩ 1 (bq ⟨s.toArray⟩ ⟨#[c]⟩) ⟨s.toArray⟩).map (·.data.toList)=eS c s:=hdat;have hlf:(eS c s).length=bq ⟨s.toArray⟩ ⟨#[c]⟩ +1:=by rw[<-hd,bw,hlen]
 refine⟨[_],eS c s,rfl,rfl,⟨_,rfl,VR.dF rfl ⟨_,rfl,?_,.inr ⟨w.heap.size,0,bq ⟨s.toArray⟩ ⟨#[c]⟩ +1,by rw[hlf],by rw[hlf];exact cc _,fun i y hy =>?_⟩⟩⟩,(Vg.Below.refl _ w).alloc (cc _) _⟩
 ·rw[hlf];have hs:s.length<4294967281:=hs;rw[hsz]at hcb;unfold aG;omega
 ·have hyl:=K9 c s y (eo hy)
  refine⟨[.string ⟨y.toArray⟩],⟨rfl,b8 hyl hl⟩,fun j u hj=>⟨?_,fun hh =>?_⟩⟩
  ·have hj0:j=0:=by
    rcases j with _|j
    ·rfl
    ·simp at hj
   subst hj0;simp at hj;subst hj;rw[<-hd,List.getElem?_map,c8]at hy;obtain⟨q,hq,rfl⟩:=hy;have hh:(w.alloc (.cells ((cb ⟨#[c]⟩ 1 (bq ⟨s.toArray⟩ ⟨#[c]⟩) ⟨s.toArray⟩).map ct).toArray 9)).heap[w.heap.size]?=ξ (.cells ((cb ⟨#[c]⟩ 1 (bq ⟨s.toArray⟩ ⟨#[c]⟩) ⟨s.toArray⟩).map ct).toArray 9 (0,0)):=heap_alloc_new w _;rw[ch hh];simp only[Ty.size,Nat.mul_one,Nat.zero_add,du,List.getElem?_toArray,List.getElem?_map,hq,ep]
  ·have:=hO _ _ hh
   simp at this
def AT:List (FuncId×(Bool×aL)):=[(104,(φ,bP [.str,.str,.int .i64,.int .i64] [.slice .str] (fun x=>x.1.length<4294967281/\x.2.1.length=1/\x.2.2.1=(1:Int)/\x.2.2.2=(-1:Int)) (fun x=>eS (Uz x.2.1) x.1)))]
def H2:bH prog aE aH AT:=
 aM (aI ah7) (bK bJ)
def Jr(s:aA)(p:aA)(hp:(fun x=>x.1.length<4294967281/\x.2.length=1) (s,p)):(cH aE AT f94 [] [.str,.str] [.slice .str] (fun x y=>y=(fun x=>eS (Uz x.2) x.1) x) (s,p)).holds:=by
 refine ζ (p:=let za:=bb p;let zb:=eS (List.rec 0 (fun(head:UInt8) (tail:aA) (tail_ih:UInt8)=>head) p) s;za<=aG->(bb s<4294967281/\za=1/\(↑za:Int)=1/\(-1:Int)=(-1:Int))/\zb=zb) κ ?_
 dsimp -iota -proj -eta only;dsimp only at hp;exact fun h0=>⟨ω,rfl⟩
def yv:aL:=bP [.str,.str] [.slice .str] (fun x=>x.1.length<4294967281/\x.2.length=1) (fun x=>eS (Uz x.2) x.1)
def Js:aW prog aE.eT aH 94 φ yv:=
 aI (bO (X:=aH) H2 func94 κ (fun _=>[]) (fun x hw hp=>Jr x.1 x.2 hp))
def LI:List (FuncId×(Bool×aL)):=[(87,(ψ,xE)),(88,(ψ,CF)),(89,(ψ,CG)),(90,(φ,FP))]
def Tn:bH prog aE aH LI:=
 aM En (aM Lv (aM Lx (aM QF (bK bJ))))
def H3:List (Alt cG [.obj 0]):=[{bQ:=cG,res:=[.d .err],out:=fun _ x=>(lM x).1,ret:=fun _ x=>(aP (lM x).2,())}]
def abU(d:Dk)(hp:(fun _ x=>dX x 1000000) () d):(cE aE LI f47 [] cG [.obj 0] H3 () d).holds:=by
 refine ζ (p:=let za:=d.2.2.2.1;let zb:=za=za;let zc:=(lM d).1;let zd:=(aP (lM d).2,());let ze:=(-1:Int);let zf:=cA d 1 (@bc UInt8);let zg:=aR.isNil (aP zf.2);let zh:=zf.1.2.2.2.1;let zi:=zh=zh;let zj:=ze<=zf.1.1.1;let zk:=zj/\bb zf.1.2.1=bb zf.1.2.2.1;let zl:=aP (cC zf.1).2;let zm:=(cC zf.1).1;let zn:=zm.2.2.2.1;let zo:=zn=zn;let zp:=ze<=zm.1.1;let zq:=ig 2 0;let zr:=cA zm 0 zq;let zs:=zr.1.2.2.2.1;let zt:=(cC zr.1).1;let zu:=(cC zm).1.2.2.2.1;let zv:=zo/\True/\zm=zc/\(zl,())=zd;let zw:=cA zf.1 0 zq;let zx:=zw.1.2.2.2.1;let zy:=(cC zw.1).1;zb/\True/\(True->((ρ ((↑(bb d.2.2.1):Int)<112))=φ->zb/\True/\d=zc/\(aR.no 8,())=zd)/\((ρ ((↑(bb d.2.2.1):Int)<112))=ψ->zb/\(ze<=d.1.1/\bb za<=900000000)/\(True->(zg=φ->zi/\zk/\(True->((aR.isNil zl)=φ->True/\zo/\(zp/\bb zn<=900000000)/\(True->((aR.isNil (aP zr.2))=φ->zs=zs/\(ze<=zr.1.1.1/\bb zr.1.2.1=bb zr.1.2.2.1)/\(True->zt.2.2.2.1=zt.2.2.2.1/\True/\zt=zc/\(aP (cC zr.1).2,())=zd))/\((aR.isNil (aP zr.2))=ψ->zs=zs/\True/\zr.1=zc/\(aP zr.2,())=zd)))/\((aR.isNil zl)=ψ->((aR.isNil zl)=φ->zo/\(zp/\bb zm.2.1=bb zm.2.2.1)/\(True->zu=zu/\True/\(cC zm).1=zc/\(aP (cC zm).2,())=zd))/\((aR.isNil zl)=ψ->zv))))/\(zg=ψ->(zg=φ->True/\zi/\(zj/\bb zh<=900000000)/\(True->((aR.isNil (aP zw.2))=φ->zx=zx/\(ze<=zw.1.1.1/\bb zw.1.2.1=bb zw.1.2.2.1)/\(True->zy.2.2.2.1=zy.2.2.2.1/\True/\zy=zc/\(aP (cC zw.1).2,())=zd))/\((aR.isNil (aP zw.2))=ψ->zx=zx/\True/\zw.1=zc/\(aP zw.2,())=zd)))/\(zg=ψ->(zg=φ->zi/\zk/\(True->zv))/\(zg=ψ->zi/\True/\zf.1=zc/\(aP zf.2,())=zd))))))) κ ?_
 dsimp -iota -proj -eta only;refine⟨rfl,ba,fun h0=>iL (fun h1=>(by rw[oQ,ahy h1];exact⟨rfl,ba,rfl,rfl⟩)) (fun h1=>⟨rfl,⟨hp.oq,b8 hp.pW δ⟩,fun h2=>⟨fun h3=>⟨rfl,(by have f:=oP hp 1 [];exact⟨f.oq,f.len⟩),fun h4=>⟨fun h5=>⟨ba,rfl,(by have f:=uQ (oP hp 1 []);exact⟨f.oq,b8 f.pW δ⟩),fun h6=>⟨fun h7=>⟨rfl,(by have f:=oP (uQ (oP hp 1 [])) 0 (ig 2 0);exact⟨f.oq,f.len⟩),fun h8=>(by rw[oQ,aj0 ω (aZ.1 h3) (aZ.1 h5) (aZ.1 h7)];exact⟨rfl,ba,rfl,rfl⟩)⟩,fun h7=>(by rw[oQ,ajZ ω (aZ.1 h3) (aZ.1 h5) (fD h7)];exact⟨rfl,ba,rfl,rfl⟩)⟩⟩,fun h5=>⟨fun h6=>⟨rfl,?a,fun h7 =>?b⟩,fun h6=>(by rw[oQ,ajY ω (aZ.1 h3) (fD h5)];exact⟨rfl,ba,rfl,rfl⟩)⟩⟩⟩,fun h3=>⟨fun h4=>⟨ba,rfl,?c,fun h5=>⟨fun h6=>⟨rfl,?d,fun h7 =>?e⟩,fun h6 =>?f⟩⟩,fun h4=>⟨fun h5=>⟨rfl,?g,fun h6 =>?h⟩,fun h5=>(by rw[oQ,ajX ω (fD h3)];exact⟨rfl,ba,rfl,rfl⟩)⟩⟩⟩⟩)⟩
 case a|b|c|d|e|f|g|h=>simp_all
def LJ:aL:=bU cG [.obj 0] (fun _ x=>dX x 1000000) H3
def abV:aW prog aE.eT aH 47 ψ LJ:=
 bA (X:=aH) Tn func47 κ (fun(a:CD [.obj 0]) (x:PD cG)=>[]) (fun a x hw hp=>abU x hp)
def Vi:List (FuncId×(Bool×aL)):=[(91,(ψ,QC)),(87,(ψ,xE)),(92,(ψ,iI aE [] f92 [])),(93,(φ,yZ [.str] [.int .i64] (fun s=>4<=s.length) (fun s y=>(y:Int)=kD s))),(94,(φ,yv)),(32,(φ,LH))]
def abW:bH prog aE aH Vi:=
 aM afw (aM En (aM (fF (bK bJ) func92 κ []) (aM (qm abM) (aM Js (aM abT (bK bJ))))))
def Vj(d:Dk):cP:=[
 (0,fun st=>{X:=Nat,inv:=fun i=>i<=2,bG:=fun i=>2-i,bB:=fun i=>[(29,sI i),(5,sI (fN d i).2)],aK:=fun i=>[(aS st 4,.cells 169 [.ref 0 0,.d (.int .i64) (fN d i).1,.app aC [] (iT st (aS st 4) 2)])],keep:=[0,4],dU:=[aS st 4]}),
 (2,fun st=>{X:=Nat,inv:=fun i=>i<=55,bG:=fun i=>55-i,bB:=fun i=>[(74,sI i),(11,sS (ln d (nr d) i))],keep:=[0,4,5]}),
 (4,fun st=>{X:=Nat,inv:=fun i=>i<=bb (eL d)/\∀j,j<i->nth .str (eL d) j=[]\/(jz (nth .str (eL d) j)).2.isNil=φ,bG:=fun i=>bb (eL d)-i,bB:=fun i=>[(103,sI i)],aK:=fun i=>[(aS st 4,.cells 169 [.ref 0 0,.d (.int .i64) (fN d 2).1,.app aC (mw ((eL d).take i)) (iT st (aS st 4) 2)]),(iT st (aS st 4) 2,.tok aC (mw ((eL d).take i)))],keep:=[4,101,102],dU:=[aS st 4,iT st (aS st 4) 2]})]
def QS:List (Alt cG [.obj 0]):=[
 {bQ:=cG,res:=[.jx,.d .err],ok:=fun _ x=>(cW x).2≠0,out:=fun _ x=>x,ret:=fun _ x=>(aP (cW x).2,())},
 {bQ:=cG++[.box 169 [.obj 0,.d (.int .i64),.d (.slice aC)]],res:=[.obj 4,.d .err],ok:=fun _ x=>(cW x).2=0,out:=fun _ x=>(x.1,x.2.1,x.2.2.1,x.2.2.2.1,((cW x).1.1,(cW x).1.2,()),()),ret:=fun _ _=>(aR.nil,())}]
def ah8(d:Dk)(hp:(fun _ x=>dX x 1000000/\∀i,i<x.2.2.1.length->(nth .str x.2.2.1 i).length=64) () d):(cE aE Vi f48 (Vj d) cG [.obj 0] QS () d).holds:=by
 refine ζ (p:=let za:=d.2.2.2.1;let zb:=za=za;let zc:=d.1.2.1;let zd:=(cW d).2;let ze:=zd≠(0:Int);let zf:=d=d;let zg:=(aP zd,());let zh:=zb/\ze/\zf/\(aR.no (9:Int),())=zg;let zi:=d.2.2.1;let zj:=bb zi;let zk:=(↑zj:Int);let zl:=zb/\ze/\zf/\(aR.no (4:Int),())=zg;let zm:=C.ref 0 0;let zn:=zm=zm;let zo:=@bc (aA×List (aA×Int×Int×Unit)×List (Int×Int×Int×Unit)×Unit)=@bc (aA×List (aA×Int×Int×Unit)×List (Int×Int×Int×Unit)×Unit);let zp:=zo/\True;let zq:=fun(E:Nat)=>(↑E:Int);let zr:=!aR.isNil (aR.no (9:Int));let zs:=(0:Int)<=(1:Int);let zt:=(1:Int)<=(5:Int);let zu:=bb (@bc UInt8);let zv:=(↑zu:Int);let zw:=(0:Int)<=(5:Int);let zx:=(5:Int)<=(9:Int);let zy:=bm 1 (bf 5 (@bc UInt8));let zz:=bm 5 (bf 9 (@bc UInt8));let zaa:=(0:Int)<=(0:Int);let zab:=fun(E:Nat)=>(fN d E).1;let zac:=fun(E:Nat)=>aF (zq E);let zad:=aF (1:Int);let zae:=fun(E:Nat)=>zq E+(1:Int);let zaf:=fun(E:Nat)=>aF (zae E);let zag:=d.2.1;let zah:=(C.bD 1=C.bD 1/\C.bD 2=C.bD 2/\zb/\d.1.1=d.1.1/\zc=zc/\True)/\zag=zag/\zi=zi/\zb/\True;let zai:=zo/\zah;let zaj:=fun(E:Nat)=>zac E->zad->zaf E/\∃(x':Nat),x'<=2/\2-x'<2-E/\(zae E=(↑x':Int)/\(fN d E).2=(fN d x').2/\True)/\(zn/\zab E=(fN d x').1/\zp)/\zai;let zak:=fun(F:Int) (E:Nat) (G:Int)=>((ρ (F > zab E))=φ->((ρ (G<=(3520:Int)))=φ->zac E->zad->zaf E/\∃(x':Nat),x'<=2/\2-x'<2-E/\(zae E=(↑x':Int)/\G=(fN d x').2/\True)/\(zn/\F=(fN d x').1/\zp)/\zai)/\((ρ (G<=(3520:Int)))=ψ->zaj E))/\((ρ (F > zab E))=ψ->zaj E);let zal:=fun(E:Nat)=>(zs/\zt/\(5:Int)<=zv)/\(zw/\zx/\(9:Int)<=zv)/\4<=bb zy/\∀F:Int,F=kD zy->4<=bb zz/\∀G:Int,G=kD zz->(zaa/\(0:Int)<zv)/\(((↑(bt (bV (@bc UInt8) 0)):Int) == (83:Int))=φ->zak F E G)/\(((↑(bt (bV (@bc UInt8) 0)):Int) == (83:Int))=ψ->zaj E);let zam:=!aR.isNil (aR.no (1:Int));let zan:=zb/\ze/\zf/\(aR.no (1:Int),())=zg;let zao:=fun(E:Nat)=>(zam=φ->zan)/\(zam=ψ->zal E);let zap:=!aR.isNil aR.nil;let zaq:=zb/\ze/\zf/\(aR.nil,())=zg;let zar:=fun(E:Nat)=>nth Ty.str zi E;let zas:=fun(E:Nat)=>(↑(bb (zar E)):Int);let zat:=fun(E:Nat)=>bm 1 (bf 5 (zar E));let zau:=fun(E:Nat)=>bm 5 (bf 9 (zar E));let zav:=nr d;let zaw:=fun(I:Int) (F:Nat)=>(2:Int)+I+zq F;let zax:=fun(F:Nat)=>ln d zav F;let zay:=fun(E:Nat)=>(zn/\zab E=zab E/\zp)/\zai;let zaz:=fun(F:Nat) (E:Nat)=>bb (zax F)+zu<=aG/\(zac F->zad->zaf F/\∃(x':Nat),x'<=55/\55-x'<55-F/\(zae F=(↑x':Int)/\zax F++ @bc UInt8=ln d zav x'/\True)/\zay E);let zba:=fun(F:Nat) (E:Nat)=>(zam=φ->zan)/\(zam=ψ->zaz F E);let zbb:=fun(E F:Nat)=>bm 0 (bf (bd (fN d E).2) (zax F));let zbc:=eL d;let zbd:=bb zbc;let zbe:=(fN d 2).1;let zbf:=fun(E F G:Nat)=>nth Ty.str (eS (10:UInt8) (zbb E F)) G;let zbg:=fun(G:Nat)=>mw (bf G zbc);zb/\True/\(True->(zc=φ->zh)/\(zc=ψ->zb/\True/\(True->((ρ (zk<(112:Int)))=φ->zl)/\((ρ (zk<(112:Int)))=ψ->(∃(x:Nat),x<=2/\((0:Int)=(↑x:Int)/\(0:Int)=(fN d x).2/\True)/\(zn/\(0:Int)=(fN d x).1/\zp)/\True)/\∀E:Nat,E<=2->((ρ (zq E<(2:Int)))=φ->(zc=φ->(zr=φ->zh)/\(zr=ψ->zal E))/\(zc=ψ->((ρ (zq E<(0:Int)))=φ->zao E)/\((ρ (zq E<(0:Int)))=ψ->zj<=aG->((ρ (zq E>=zk))=φ->zao E)/\((ρ (zq E>=zk))=ψ->((0:Int)<=zq E/\zq E<zk)/\E<zj/\(zap=φ->zaq)/\(zap=ψ->(zs/\zt/\(5:Int)<=zas E)/\(zw/\zx/\(9:Int)<=zas E)/\4<=bb (zat E)/\∀F:Int,F=kD (zat E)->4<=bb (zau E)/\∀G:Int,G=kD (zau E)->(zaa/\(0:Int)<zas E)/\(((↑(bt (bV (zar E) 0)):Int) == (83:Int))=φ->zak F E G)/\(((↑(bt (bV (zar E) 0)):Int) == (83:Int))=ψ->zaj E))))))/\((ρ (zq E<(2:Int)))=ψ->((zab E == (0:Int))=φ->zl)/\((zab E == (0:Int))=ψ->(∃(x:Nat),x<=55/\((0:Int)=(↑x:Int)/\@bc UInt8=ln d zav x/\True)/\True)/\∀F:Nat,F<=55->((ρ (zq F<(55:Int)))=φ->(2:Int)≠(0:Int)/\∀G:Int,G=cr (zab E) (2:Int)->∀I:Int,I=G*(55:Int)->aF G->aF (55:Int)->aF I/\(aF (2:Int)->aF I->aF ((2:Int)+I)/\(aF ((2:Int)+I)->zac F->aF (zaw I F)/\(zc=φ->(zr=φ->zh)/\(zr=ψ->zaz F E))/\(zc=ψ->((ρ (zaw I F<(0:Int)))=φ->zba F E)/\((ρ (zaw I F<(0:Int)))=ψ->zj<=aG->((ρ (zaw I F>=zk))=φ->zba F E)/\((ρ (zaw I F>=zk))=ψ->((0:Int)<=zaw I F/\zaw I F<zk)/\bd (zaw I F)<zj/\(zap=φ->zaq)/\(zap=ψ->bb (zax F)+bb (nth Ty.str zi (bd (zaw I F)))<=aG/\(zac F->zad->zaf F/\∃(x':Nat),x'<=55/\55-x'<55-F/\(zae F=(↑x':Int)/\zax F++nth Ty.str zi (bd (zaw I F))=ln d zav x'/\True)/\zay E))))))))/\((ρ (zq F<(55:Int)))=ψ->(zaa/\(0:Int)<=(fN d E).2/\(fN d E).2<=(↑(bb (zax F)):Int))/\(bb (zbb E F)<4294967281/\bb [(10:UInt8)]=1)/\(bb (eS (10:UInt8) (zbb E F))<=aG->(∃(x:Nat),(x<=zbd/\∀(j:Nat),j<x->nth Ty.str zbc j=@bc UInt8\/aR.isNil (aP (rn (nth Ty.str zbc j)).2)=φ)/\((0:Int)=(↑x:Int)/\True)/\(zn/\zab E=zbe/\@bc (aA×List (aA×Int×Int×Unit)×List (Int×Int×Int×Unit)×Unit)=mw (bf x zbc)/\True)/\@bc (aA×List (aA×Int×Int×Unit)×List (Int×Int×Int×Unit)×Unit)=mw (bf x zbc)/\True)/\∀G:Nat,(G<=zbd/\∀(j:Nat),j<G->nth Ty.str zbc j=@bc UInt8\/aR.isNil (aP (rn (nth Ty.str zbc j)).2)=φ)->((ρ (zq G<(↑(bb (eS (10:UInt8) (zbb E F))):Int)))=φ->((0:Int)<=zq G/\zq G<(↑(bb (eS (10:UInt8) (zbb E F))):Int))/\((zbf E F G == @bc UInt8)=φ->zac G->zad->zaf G/\∃(x':Nat),(x'<=zbd/\∀(j:Nat),j<x'->nth Ty.str zbc j=@bc UInt8\/aR.isNil (aP (rn (nth Ty.str zbc j)).2)=φ)/\zbd-x'<zbd-G/\(zae G=(↑x':Int)/\True)/\(zn/\zbe=zbe/\zbg G=mw (bf x' zbc)/\True)/\zbg G=mw (bf x' zbc)/\zah)/\((zbf E F G == @bc UInt8)=ψ->bb (zbf E F G)<=100000/\((!aR.isNil (aP (rn (zbf E F G)).2))=φ->zl)/\((!aR.isNil (aP (rn (zbf E F G)).2))=ψ->(zbg G=zbg G/\bb (zbg G)+bb [(rn (zbf E F G)).1]<=1000000000)/\(zac G->zad->zaf G/\∃(x':Nat),(x'<=zbd/\∀(j:Nat),j<x'->nth Ty.str zbc j=@bc UInt8\/aR.isNil (aP (rn (nth Ty.str zbc j)).2)=φ)/\zbd-x'<zbd-G/\(zae G=(↑x':Int)/\True)/\(zn/\zbe=zbe/\zbg G++[(rn (zbf E F G)).1]=mw (bf x' zbc)/\True)/\zbg G++[(rn (zbf E F G)).1]=mw (bf x' zbc)/\zah))))/\((ρ (zq G<(↑(bb (eS (10:UInt8) (zbb E F))):Int)))=ψ->zb/\zd=(0:Int)/\(d.1,zag,zi,za,(zbe,zbg G,()),())=(d.1,zag,zi,za,((cW d).1.1,(cW d).1.2,()),())/\(aR.nil,())=(aR.nil,()))))))))))) κ ?_
 dsimp -iota -proj -eta only;refine⟨rfl,ba,fun h0=>⟨fun h1=>(by rw[aaX h1];exact⟨rfl,δ,rfl,rfl⟩),fun h1=>⟨rfl,ba,fun h2=>iL (fun h3=>(by rw[aeW h1 h3];exact⟨rfl,δ,rfl,rfl⟩)) (fun h3=>⟨(⟨0,ca _,⟨rfl,by rw[HA],ba⟩,⟨rfl,by rw[HA],rfl,ba⟩,θ⟩),fun E q_0=>iL (fun h4=>⟨fun h5=>⟨fun h6=>(cy (h1.symm.trans h5)),fun h6=>absurd (show φ=ψ from h6) δ⟩,fun h5=>⟨fun h6=>absurd (show ψ=φ from h6) δ,fun h6 h7=>iE (fun h8=>⟨fun h9=>(by exfalso;omega),fun h9=>absurd (show φ=ψ from h9) δ⟩) (fun h8=>⟨?a,?b,⟨fun h9=>absurd (show ψ=φ from h9) δ,fun h9=>⟨?c,?d,?e,fun F q_1=>⟨?f,fun G q_2=>⟨?g,iQ (fun h10=>iL (fun h11=>iE (fun h12 h13 h14=>⟨?h,?i⟩) (fun h12 h13 h14=>⟨?j,?k⟩)) (fun h11 h12 h13=>⟨?l,?m⟩)) (fun h10 h11 h12=>⟨?n,?o⟩)⟩⟩⟩⟩⟩)⟩⟩) (fun h4=>iQ (fun h5 =>?p) (fun h5=>⟨(⟨0,ca _,⟨rfl,by rw[agS],ba⟩,θ⟩),fun F q_1=>iL (fun h6=>⟨θ,fun G q_2 I q_3 h7 h8=>⟨?q,fun h9 h10=>⟨?r,fun h11 h12=>⟨?s,⟨fun h13=>⟨fun h14=>(cy (h1.symm.trans h13)),fun h14=>absurd (show φ=ψ from h14) δ⟩,fun h13=>iL (fun h14=>⟨fun h15 =>?t,fun h15=>absurd (show φ=ψ from h15) δ⟩) (fun h14 h15=>iE (fun h16=>⟨fun h17 =>?u,fun h17=>absurd (show φ=ψ from h17) δ⟩) (fun h16=>⟨?v,?w,⟨fun h17=>absurd (show ψ=φ from h17) δ,fun h17=>⟨?x,fun h18 h19=>⟨?y,?z⟩⟩⟩⟩))⟩⟩⟩⟩⟩) (fun h6=>⟨?a0,?a1,fun h7=>⟨?a2,fun G q_2=>iL (fun h8=>⟨?a3,iQ (fun h9 h10 h11=>⟨?a4,?a5⟩) (fun h9=>⟨?a6,iB (fun h10 =>?a7) (fun h10=>⟨?a8,fun h11 h12=>⟨?a9,?aa⟩⟩)⟩)⟩) (fun h8 =>?ab)⟩⟩)⟩))⟩)⟩⟩⟩
 case a|b|a3=>omega
 case c|d|g=>
  have h64:(nth .str d.2.2.1 E).length=64:=hp.2 _ ω;rw[h64];decide
 case e|f=>
  have h64:(nth .str d.2.2.1 E).length=64:=hp.2 _ ω;rw[ed,cd,h64];decide
 case h|j|l|n|y|a4|a9=>simp only[aF,aG]at*;omega
 case i=>
  have e1:F=ss d E:=q_1.trans (s5 d E).symm;have e2:G=ud d E:=q_2.trans (vf d E).symm;subst e1;subst e2;exact⟨E+1,ω,ω,⟨ω,by rw[yl h10 ω h12],ba⟩,⟨rfl,by rw[yl h10 ω h12],rfl,ba⟩,θ⟩
 case k=>
  have e1:F=ss d E:=q_1.trans (s5 d E).symm;have e2:G=ud d E:=q_2.trans (vf d E).symm;subst e1;subst e2;have hn:fN d (E+1)=fN d E:=Dh fun z=>by have:=z.2.2;omega
  exact⟨E+1,ω,ω,⟨ω,by rw[hn],ba⟩,⟨rfl,by rw[hn],rfl,ba⟩,θ⟩
 case m=>
  have e1:F=ss d E:=q_1.trans (s5 d E).symm;have e2:G=ud d E:=q_2.trans (vf d E).symm;subst e1;subst e2;have hn:fN d (E+1)=fN d E:=Dh fun z=>by have:=z.2.1;omega
  exact⟨E+1,ω,ω,⟨ω,by rw[hn],ba⟩,⟨rfl,by rw[hn],rfl,ba⟩,θ⟩
 case o=>
  have hn:fN d (E+1)=fN d E:=Dh fun z=>h10 z.1
  exact⟨E+1,ω,ω,⟨ω,by rw[hn],ba⟩,⟨rfl,by rw[hn],rfl,ba⟩,θ⟩
 case p=>
  have hx0:E=2:=by omega
  subst hx0;rw[aaY h1 ω h5];exact⟨rfl,δ,rfl,rfl⟩
 case q|r|s=>have hr:=jb d E;have ht:=wU hr.1.1;simp only[aF]at*;omega
 case t|u=>exfalso;have hr:=jb d E;have ht:=wU hr.1.1;omega
 case v|w=>have hr:=jb d E;have ht:=wU hr.1.1;omega
 case x=>
  have hx0:E=2:=ω;subst hx0;have hr:=jb d 2;have ht:=wU hr.1.1;have hb:nr d=2+I:=(by rw[mR,q_3,q_2]);have h64:(nth .str d.2.2.1 (bd (2+I+(F:Int)))).length=64:=hp.2 _ ω;have hl:=mS hp.2 (b:=nr d) ω F ω;rw[h64,hl];have:aG=9223372036854775807:=rfl;omega
 case z=>
  have hx0:E=2:=ω;subst hx0;have hr:=jb d 2;have ht:=wU hr.1.1;have hb:nr d=2+I:=(by rw[mR,q_3,q_2]);exact⟨F+1,ω,ω,⟨ω,by rw[XL,hb];rfl,ba⟩,θ⟩
 case a0=>
  have hx0:E=2:=ω;subst hx0;have hx1:F=55:=ω;subst hx1;have hr:=jb d 2;have ht:=wU hr.1.1;have hbb:=mR d;have hll:(ln d (nr d) 55).length=64*55:=mS hp.2 ω 55 ω;have hLL:eS 10 (bm 0 (bf (bd (fN d 2).2) (ln d (nr d) 55)))=eL d:=(by rw[je];rfl);rw[hll];exact⟨δ,hr.2.1,ω⟩
 case a1=>
  have hx0:E=2:=ω;subst hx0;have hx1:F=55:=ω;subst hx1;have hr:=jb d 2;have ht:=wU hr.1.1;have hbb:=mR d;have hll:(ln d (nr d) 55).length=64*55:=mS hp.2 ω 55 ω;have hLL:eS 10 (bm 0 (bf (bd (fN d 2).2) (ln d (nr d) 55)))=eL d:=(by rw[je];rfl);refine⟨?_,rfl⟩;rw[da,cd,hll];omega
 case a2=>
  have hx0:E=2:=ω;subst hx0;have hx1:F=55:=ω;subst hx1;have hr:=jb d 2;have ht:=wU hr.1.1;have hbb:=mR d;have hll:(ln d (nr d) 55).length=64*55:=mS hp.2 ω 55 ω;have hLL:eS 10 (bm 0 (bf (bd (fN d 2).2) (ln d (nr d) 55)))=eL d:=(by rw[je];rfl);exact⟨0,⟨ca _,fun j hj=>absurd hj (cz _)⟩,⟨rfl,ba⟩,⟨rfl,rfl,by rw[e7,aa1],ba⟩,by rw[e7,aa1],ba⟩
 case a5=>
  have hx0:E=2:=ω;subst hx0;have hx1:F=55:=ω;subst hx1;have hr:=jb d 2;have ht:=wU hr.1.1;have hbb:=mR d;have hll:(ln d (nr d) 55).length=64*55:=mS hp.2 ω 55 ω;have hLL:eS 10 (bm 0 (bf (bd (fN d 2).2) (ln d (nr d) 55)))=eL d:=(by rw[je];rfl)
  (try rw[hLL]at h8);(try rw[hLL]at h9);(try rw[hLL]at h10);(try rw[hLL])
  have e:=aaZ (L:=eL d) (i:=G) ω h9;exact⟨G+1,⟨ω,jM q_2.2 (.inl h9)⟩,ω,⟨ω,ba⟩,⟨rfl,rfl,e.symm,ba⟩,e.symm,θ⟩
 case a6=>
  have hx0:E=2:=ω;subst hx0;have hx1:F=55:=ω;subst hx1;have hr:=jb d 2;have ht:=wU hr.1.1;have hbb:=mR d;have hll:(ln d (nr d) 55).length=64*55:=mS hp.2 ω 55 ω;have hLL:eS 10 (bm 0 (bf (bd (fN d 2).2) (ln d (nr d) 55)))=eL d:=(by rw[je];rfl)
  (try rw[hLL]at h8);(try rw[hLL]at h9);(try rw[hLL]at h10);(try rw[hLL])
  have hm:nth .str (eL d) G∈eL d:=eG (t:=.str) ω;have hm2:nth .str (eL d) G∈eS 10 (bf (fN d 2).2.toNat (ln d (nr d) 55)):=by rw[<-je];exact hm
  refine b8 (K9 10 _ _ hm2) ?_;rw[cd,hll];omega
 case a7=>
  have hx0:E=2:=ω;subst hx0;have hx1:F=55:=ω;subst hx1;have hr:=jb d 2;have ht:=wU hr.1.1;have hbb:=mR d;have hll:(ln d (nr d) 55).length=64*55:=mS hp.2 ω 55 ω;have hLL:eS 10 (bm 0 (bf (bd (fN d 2).2) (ln d (nr d) 55)))=eL d:=(by rw[je];rfl)
  (try rw[hLL]at h8);(try rw[hLL]at h9);(try rw[hLL]at h10);(try rw[hLL])
  rw[aeX h1 ω h5 ⟨G,ω,h9,h10⟩];exact⟨rfl,δ,rfl,rfl⟩
 case a8=>
  have hx0:E=2:=ω;subst hx0;have hx1:F=55:=ω;subst hx1;have hr:=jb d 2;have ht:=wU hr.1.1;have hbb:=mR d;have hll:(ln d (nr d) 55).length=64*55:=mS hp.2 ω 55 ω;have hLL:eS 10 (bm 0 (bf (bd (fN d 2).2) (ln d (nr d) 55)))=eL d:=(by rw[je];rfl);refine⟨rfl,?_⟩;have h1:=aeY (bf G (eL d));have h2:=XM 10 (bf (fN d 2).2.toNat (ln d (nr d) 55));rw[<-je,cd,hll]at h2;rw[cd]at h1;rw[b9];omega
 case aa=>
  have hx0:E=2:=ω;subst hx0;have hx1:F=55:=ω;subst hx1;have hr:=jb d 2;have ht:=wU hr.1.1;have hbb:=mR d;have hll:(ln d (nr d) 55).length=64*55:=mS hp.2 ω 55 ω;have hLL:eS 10 (bm 0 (bf (bd (fN d 2).2) (ln d (nr d) 55)))=eL d:=(by rw[je];rfl)
  (try rw[hLL]at h8);(try rw[hLL]at h9);(try rw[hLL]at h10);(try rw[hLL])
  have e:=aa0 (L:=eL d) (i:=G) ω h9;exact⟨G+1,⟨ω,jM q_2.2 (.inr h10)⟩,ω,⟨ω,ba⟩,⟨rfl,rfl,e.symm,ba⟩,e.symm,θ⟩
 case ab=>
  have hx0:E=2:=ω;subst hx0;have hx1:F=55:=ω;subst hx1;have hr:=jb d 2;have ht:=wU hr.1.1;have hbb:=mR d;have hll:(ln d (nr d) 55).length=64*55:=mS hp.2 ω 55 ω;have hLL:eS 10 (bm 0 (bf (bd (fN d 2).2) (ln d (nr d) 55)))=eL d:=(by rw[je];rfl)
  (try rw[hLL]at h8);(try rw[hLL]at h9);(try rw[hLL]at h10);(try rw[hLL])
  rw[UX h1 ω h5 (ahz (i:=G) ω q_2.2),de ω];exact⟨rfl,rfl,rfl,rfl⟩
def Jt:aL:=bU cG [.obj 0] (fun _ x=>dX x 1000000/\∀i,i<x.2.2.1.length->(nth .str x.2.2.1 i).length=64) QS
def Vk:aW prog aE.eT aH 48 ψ Jt:=
 bA (X:=aH) abW func48 κ (fun(a:CD [.obj 0]) (x:PD cG)=>Vj x) (fun a x hw hp=>ah8 x hp)
end Go.Proofs.YtgokjhhcfemnhabGreatDoor

namespace Go.Proofs.YtgokjhhcfemnhabGreatDoor
open Go.Proofs.Tryz
open Go.Vg Go.Shelf Go.RowKit
def H4{P:Program}(w:World)(t e ty:TypeId)(z:Value)(ht:P.underlying t=ξ (.slice e))(hv:∀w,(zeroValue e).run P w=.ok z w)(h1:∀u∈z.cells,u.oneCell'=φ)(b o n c:Nat)(hn:0<n)
  (hc:∀j,j<n*z.cells.size->(w.cell? ⟨b,o+j,χ⟩).isSome=φ)(hf:∀j,j<n*z.cells.size->w.frozen? ⟨b,o+j,χ⟩=ψ) :
  (ee #[t] ty #[.slice (ξ ⟨b,o,χ⟩) n c]).run P w=.ok (.tuple #[]) (w.setCells b o (cp z.cells n).toList):=by
 have hl:(cp z.cells n).toList.length=n*z.cells.size:=by rw[dj,size_zeroCells]
 have hst:=run_storeCells_cells (P:=P) b o (cp z.cells n).toList 0 w (by simpa[hl]using hc) (by simpa[hl]using hf) (by
  intro v hv';simp[cp]at hv';obtain⟨k,hk,rfl⟩:=hv';by_cases h:k % z.cells.size<z.cells.size
  ·rw[getElem!_pos z.cells _ h];exact h1 _ (Array.getElem_mem h)
  ·have:z.cells.size=0:=by
    by_cases h0:z.cells.size=0
    ·exact h0
    ·exact absurd (Nat.mod_lt _ ω) h
   rw[this]at hk;omega)
 simp only[du]at hst;obtain⟨m,rfl⟩:∃m,n=m+1:=⟨n-1,ω⟩
 simp[ee,run_underlying ht,hv,hst]
def mn(b:Nat):∀(vs:List Value) (o:Nat) (w:World),(w.setCells b o vs).heap.size=w.heap.size
 |[],_,_=>rfl
 |v :: r,o,w=>(mn b r (o+1) _).trans (dx _ _ _)
def AU{b:Nat}{T:TypeId}:∀(news:List Value) (o:Nat) (w:World) (vs:Array Value),w.heap[b]?=ξ (.cells vs T (0,0))->o+news.length<=vs.size->
  ∃vs',(w.setCells b o news).heap[b]?=ξ (.cells vs' T (0,0))/\vs'.size=vs.size/\∀k,vs'[k]?=if k<o then vs[k]? else if k<o+news.length then news[k-o]? else vs[k]?:=by
 intro news;induction news with
 |nil=>intro o w vs hb _;exact⟨vs,hb,rfl,fun k=>by simp only[b5];split <;> (try rfl);rw[ε ω]⟩
 |cons x r ih=>
  intro o w vs hb hle;simp only[b3]at hle;obtain⟨vs',h1,h2,h3⟩:=ih (o+1) (w.setCell ⟨b,o,χ⟩ x) _ (ad3 hb) (by simp;omega);refine⟨vs',h1,by simpa using h2,fun k =>?_⟩;rw[h3,b3];by_cases c1:k<o
  ·rw[π ω,π c1,Array.getElem?_setIfInBounds_ne ω]
  ·by_cases c2:k=o
   ·subst c2
    rw[π ω,ε c1,π ω,Array.getElem?_setIfInBounds_self_of_lt ω];simp
   ·rw[ε ω,ε c1]
    by_cases c3:k<o+1+r.length
    ·rw[π c3,π ω,show k-o=(k-(o+1))+1 by omega,List.getElem?_cons_succ]
    ·rw[ε c3,ε ω,Array.getElem?_setIfInBounds_ne ω]
set_option maxHeartbeats 4000000 in
set_option maxRecDepth 1000000 in
def ajA:aa2 prog 99 3:=by
 intro b i j n cap vs T w hb hsz hij hj hcap hbig h1;obtain⟨te,ti,td,hu,hf⟩:=jr (t:=41) (e:=aC) bJ κ;obtain⟨z,hz,hzr⟩:=hf.zero;have hu':=hu;rw[underlying41]at hu';cases hu';obtain⟨news,hnews⟩:∃news,news=(vs.toList.drop (j*3)).take ((n-j)*3):=⟨_,rfl⟩
 have hle:n*3<=vs.size:=by omega
 have hlen:news.length=(n-j)*3:=by rw[hnews,cd,ed,dj];omega
 have hget:∀(t:Nat) u,news[t]?=ξ u->vs[j*3+t]?=ξ u:=by
  intro t u ht;rw[hnews,List.getElem?_take]at ht;split at ht
  ·rw[List.getElem?_drop,Array.getElem?_toList]at ht;exact ht
  ·cases ht
 obtain⟨A,hA,hsrc⟩:∃A:Addr,(if cap=j then ξ (⟨b,0,χ⟩:Addr)else ξ ⟨b,j*3,χ⟩)=ξ A/\Hid (∀(t:Nat) u,news[t]?=ξ u->w.drew.cell? (A.add t)=ξ u):=by
  by_cases h:cap=j
  ·refine⟨⟨b,0,χ⟩,by simp[h],fun t u hu =>?_⟩
   have h0:news.length=0:=by rw[hlen];omega
   rw[dr.1 h0]at hu;simp at hu
  ·refine⟨⟨b,j*3,χ⟩,by simp[h],fun t u hu =>?_⟩
   rw[Addr.add_lit,cell_of_row w.drew b _ vs T (0,0) hb];exact hget t u hu
 have mixed:prog.follows .mixedOrders=φ:=by kernel_rfl
 have hs3:ti.size=3:=hf.size;have s1:Hid (news.length=(n-j)*3):=hlen;have s2:Hid (∀u∈news,u.oneCell'=φ):=by
  intro u hu;obtain⟨t,ht⟩:=List.getElem?_of_mem hu;have:=bR ht;exact h1 (j*3+t) u ω (hget t u ht)
 have s3:Hid (∀t,t<news.length->(w.drew.cell? ⟨b,0+i*3+t,χ⟩).isSome=φ/\w.drew.frozen? ⟨b,0+i*3+t,χ⟩=ψ):=by
  intro t ht;rw[hlen]at ht;refine⟨?_,di (w:=w.drew) hb _⟩;rw[cell_of_row w.drew b _ vs T (0,0) hb,Array.getElem?_eq_getElem ω];rfl
 obtain⟨W1,hW1⟩:∃W1,W1=w.drew.setCells b (0+i*3) news:=⟨_,rfl⟩
 have hW:Hid (W1=w.drew.setCells b (0+i*3) news):=hW1;have hic:i<=cap:=by omega
 have hjc:j<=cap:=by omega
 have hne:¬((i:Int)=(j:Int)):=by omega
 have hzv:∀w,(zeroValue 48).run prog w=.ok z w:=fun w=>by simp[zeroValue,typeInfo,hf.info,hz]
 have hz0:=nz (S:=aD (fun _ _=>False) ⟨[],[],0⟩ (fun _=>⟨.nilIface,[]⟩) w) (cx:=aE) hzr;have hzs:z.cells.size=3:=by
  rw[<-dj];exact hz0.length.symm.trans (kH aC)
 obtain⟨vs1,v1,v2,v3⟩:=AU (b:=b) (T:=T) news (0+i*3) w.drew vs hb ω;rw[<-hW1]at v1;have ik:=H4 (P:=prog) W1 41 48 0 z underlying41 hzv (fun u hu=>(F9 (eT:=aE.eT) (A:=fun _ _=>False) (w:=w) hzr κ).nR u (by simpa using hu)) b ((i+(n-j))*3) (n-(i+(n-j))) (cap-(i+(n-j))) ω
  (fun t ht=>by rw[hzs]at ht;rw[cell_of_row W1 b _ vs1 T (0,0) v1,Array.getElem?_eq_getElem ω];rfl) (fun t ht=>di v1 _)
 obtain⟨W2,hW2⟩:∃W2,W2=W1.setCells b ((i+(n-j))*3) (cp z.cells (n-(i+(n-j)))).toList:=⟨_,rfl⟩
 rw[<-hW2]at ik;have hzl:(cp z.cells (n-(i+(n-j)))).toList.length=(n-(i+(n-j)))*3:=by rw[dj,size_zeroCells,hzs]
 obtain⟨vs2,u1,u2,u3⟩:=AU (b:=b) (T:=T) (cp z.cells (n-(i+(n-j)))).toList ((i+(n-j))*3) W1 vs1 v1 ω;rw[<-hW2]at u1;have hfin:Hid (W2.os=w.os/\W2.output=w.output/\W2.heap.size=w.heap.size/\(∀k,k≠b->W2.heap[k]?=w.heap[k]?)/\
       ∃vs',W2.heap[b]?=ξ (Obj.cells vs' T (0,0))/\vs'.size=vs.size/\∀k,k<(i+(n-j))*3->vs'[k]?=vs[if k<i*3 then k else k+(j-i)*3]?):=by
  refine⟨by rw[hW2,hW1,e8,e8];rfl,by rw[hW2,hW1,e9,e9];rfl,by rw[hW2,hW1,mn,mn];rfl,fun k hk =>?_,vs2,u1,ω,fun k hk =>?_⟩
  ·by_cases hlt:k<w.heap.size
   ·rw[hW2,fa _ _ _ _ (by rw[hW1,mn];exact hlt) hk,hW1,fa w.drew _ _ _ (show k<w.drew.heap.size from hlt) hk];rfl
   ·rw[Array.getElem?_eq_none (by rw[hW2,hW1,mn,mn];show w.heap.size<=k;omega),Array.getElem?_eq_none ω]
  ·rw[u3,π hk,v3]
   by_cases c:k<i*3
   ·rw[π ω,π c]
   ·rw[ε ω,π ω,ε c,hnews,List.getElem?_take,π ω,List.getElem?_drop,Array.getElem?_toList]
    congr 1;omega
 have ik:Hid ((ee #[41] 0 #[.slice (ξ ⟨b,(i+(n-j))*3,χ⟩) (n-(i+(n-j))) (cap-(i+(n-j)))]).run prog W1=.ok (.tuple #[]) W2):=ik;have ik:=ik.out;clear hW1 hget hnews hlen h1 hW2 u1 u2 u3 v1 v2 v3 hzl
 go_enter func99,ntmps99
 go_wp2_with fail
 go_region_law_o (refine step_append_room rfl (.tmp 22) (.tmp 25) 41 rfl 48 ti 3 underlying41 hf.info hs3 b 0 i cap (by simp[Act.eval,Act.put]) A (n-j) (cap-j) news (by simp[Act.eval,Act.put,hA]) s1.out hsrc.out s2.out ω s3.out ?_;rw[<-hW.out])
 go_wp2
 go_ret
 exact⟨rfl,hfin.out⟩
end Go.Proofs.YtgokjhhcfemnhabGreatDoor

namespace Go.Proofs.YtgokjhhcfemnhabGreatDoor
open Go.Proofs.Tryz
open Go.Vg Go.Mrl
def aj3:∃fn,prog.funcs[99]?=ξ fn/\fn.body.isNone=ψ/\(fn.name == "runtime.NumGoroutine")=ψ:=⟨_,func99,κ,κ⟩
def Vl:List (FuncId×(Bool×aL)):=[(95,spZ1),(99,(ψ,Jk aC)),(96,(ψ,Dr)),(98,(ψ,Jp))]
def abX:bH prog aE aH Vl:=
 aM (fF (bK bJ) func95 κ []) (aM (XN aj3 ajA) (aM Jq (aM Vd (bK bJ))))
def ah9{x:Sh}{s:aA}(h:¬0<=fG x.1.2.1 s):fM x s=(x,5):=by unfold fM;rw[ε h]
def afF{x:Sh}{s:aA}(h:0<=fG x.1.2.1 s):fM x s=tD x (x.1.2.1.take (fG x.1.2.1 s).toNat++x.1.2.1.drop (fG x.1.2.1 s+1).toNat):=by
 unfold fM;rw[π h,List.eraseIdx_eq_take_drop_succ,show(fG x.1.2.1 s+1).toNat=(fG x.1.2.1 s).toNat+1 by omega]
def QT:List (Alt dR [.obj 0,.d .str]):=[{bQ:=dR,res:=[.d .err],out:=fun a x=>(fM x a.1).1,ret:=fun a x=>(aP (fM x a.1).2,())}]
def aia(s:aA)(r:Int)(o:List (D aC))(d:Dk)(hp:(fun _ x=>x.1.2.1.length<=100/\0<=(x.1.1:Int)/\(x.1.1:Int)<=1000000000/\dX x.2 1000000) (s,()) ((r,o,()),d)):(cE aE Vl f54 [] dR [.obj 0,.d .str] QT (s,()) ((r,o,()),d)).holds:=by
 refine ζ (p:=let za:=d.2.2.2.1=d.2.2.2.1;let zb:=fG o s;let zc:=((r,o,()),d);let zd:=(fM zc s).1;let ze:=(aP (fM zc s).2,());let zf:=bb o;let zg:=zb+1;let zh:=bf (bd zb) o++bm (bd zg) o;let zi:=fP d r zh;let zj:=zi.1.2.2.2.1;za/\True/\(True->((ρ (zb<0))=φ->za/\True/\zc=zd/\(aR.no 5,())=ze)/\((ρ (zb<0))=ψ->∀E:Bool,(0<zf->E=ψ)->(E=φ->aF zb->aF 1->aF zg/\False)/\(E=ψ->zf<=1000000000/\(aF zb->aF 1->aF zg/\(0<=zb/\zb<zg/\zg<=(↑zf:Int))/\za/\(bb zh<=100/\0<=r/\r<=1000000000/\dX d 1000000)/\(True->zj=zj/\True/\(if zi.2=0 then(r+1,zh,())else(r,o,()),zi.1)=zd/\(aP zi.2,())=ze)))))) κ ?_
 dsimp -iota -proj -eta only;dsimp only at hp;exact⟨rfl,ba,fun h0=>iL (fun h1=>(by rw[ah9 (x:=((r,o,()),d)) (show ¬0<=fG o s by omega)];exact⟨rfl,ba,rfl,rfl⟩)) (fun h1 E q_0=>⟨fun h2 h3 h4=>⟨(by exfalso;have:=Cr q_0 h2;subst this;exact uf s ω),(by have:=Cr q_0 h2;subst this;exact uf s ω)⟩,fun h2=>⟨ω,fun h3 h4=>⟨(by have:=s4 o s;have hh:o.length<=100:=hp.1;unfold aF;omega),(by have:=s4 o s;exact⟨ω,ω,ω⟩),rfl,(by have hh:o.length<=100:=hp.1;refine⟨?_,hp.2⟩;rw[bz,cd,ed];omega),fun h5=>(by rw[afF (x:=((r,o,()),d)) (show 0<=fG o s by omega)];exact⟨rfl,ba,rfl,rfl⟩)⟩⟩⟩)⟩
def Vm:aL:=bU dR [.obj 0,.d .str] (fun _ x=>x.1.2.1.length<=100/\0<=(x.1.1:Int)/\(x.1.1:Int)<=1000000000/\dX x.2 1000000) QT
def aib:aW prog aE.eT aH 54 ψ Vm:=
 bA (X:=aH) abX func54 κ (fun(a:CD [.obj 0,.d .str]) (x:PD dR)=>[]) (fun a x hw hp=>aia a.1 x.1.1 x.1.2.1 x.2 hp)
def afG(x:Int)(hp:(fun x=>0<=x/\x<=100) x):(cH aE [] f184 [] [.int .u64] [.int .i64] (fun _ _=>True) x).holds:=by
 refine ζ (p:=let za:=(0:Int)<=(16:Int);let zb:=(2:Int)^min 16 (b4 br);let zc:=aF (32:Int);let zd:=(32:Int)+(16:Int);let ze:=fun(F:Int)=>ρ (F>=(256:Int));let zf:=(0:Int)<=(8:Int);let zg:=(2:Int)^min 8 (b4 br);let zh:=aF (8:Int);let zi:=aF (zd+(8:Int));let zj:=[(8:UInt8),8,8,8,8,8,8,8,8,8,8,8,8,8,8,8,8,8,8,8,8,8,8,8,8,8,8,8,8,8,8,8,8,8,8,8,8,8,8,8,8,8,8,8,8,8,8,8,8,8,8,8,8,8,8,8,8,8,8,8,8,8,8,8];let zk:=ef (ef [(0:UInt8),1,2,2,3,3,3,3,4,4,4,4,4,4,4,4,5,5,5,5,5,5,5,5,5,5,5,5,5,5,5,5,6,6,6,6,6,6,6,6,6,6,6,6,6,6,6,6,6,6,6,6,6,6,6,6,6,6,6,6,6,6,6,6] [(7:UInt8),7,7,7,7,7,7,7,7,7,7,7,7,7,7,7,7,7,7,7,7,7,7,7,7,7,7,7,7,7,7,7,7,7,7,7,7,7,7,7,7,7,7,7,7,7,7,7,7,7,7,7,7,7,7,7,7,7,7,7,7,7,7,7]) (ef zj zj);let zl:=(↑(bb zk):Int);let zm:=fun(G:Int)=>(0:Int)<=bj b7 G/\bj b7 G<zl;let zn:=fun(G:Int)=>(↑(bt (bV zk (bd (bj b7 G)))):Int);let zo:=fun(G:Int)=>aF (zn G);let zp:=(32:Int)+(8:Int);let zq:=aF (0:Int);let zr:=(0:Int)+(16:Int);let zs:=aF (zr+(8:Int));let zt:=(0:Int)+(8:Int);let zu:=bj b7 x;let zv:=(↑(bt (bV zk (bd zu))):Int);((ρ (x>=(4294967296:Int)))=φ->(0:Int)<=(32:Int)/\∀E:Int,E=bx x ((2:Int)^min 32 (b4 br))->((ρ (E>=(65536:Int)))=φ->za/\∀F:Int,F=bx E zb->zc->aF (16:Int)->aF zd/\((ze F)=φ->zf/\∀G:Int,G=bx F zg->aF zd->zh->zi/\zm G/\(zi->zo G->aF (zd+(8:Int)+zn G)/\True))/\((ze F)=ψ->zm F/\(aF zd->zo F->aF (zd+zn F)/\True)))/\((ρ (E>=(65536:Int)))=ψ->((ze E)=φ->zf/\∀F:Int,F=bx E zg->zc->zh->aF zp/\zm F/\(aF zp->zo F->aF (zp+zn F)/\True))/\((ze E)=ψ->zm E/\(zc->zo E->aF ((32:Int)+zn E)/\True))))/\((ρ (x>=(4294967296:Int)))=ψ->((ρ (x>=(65536:Int)))=φ->za/\∀E:Int,E=bx x zb->zq->aF (16:Int)->aF zr/\((ze E)=φ->zf/\∀F:Int,F=bx E zg->aF zr->zh->zs/\zm F/\(zs->zo F->aF (zr+(8:Int)+zn F)/\True))/\((ze E)=ψ->zm E/\(aF zr->zo E->aF (zr+zn E)/\True)))/\((ρ (x>=(65536:Int)))=ψ->((ρ (x>=(256:Int)))=φ->zf/\∀E:Int,E=bx x zg->zq->zh->aF zt/\zm E/\(aF zt->zo E->aF (zt+zn E)/\True))/\((ρ (x>=(256:Int)))=ψ->((0:Int)<=zu/\zu<zl)/\(zq->aF zv->aF ((0:Int)+zv)/\True))))) κ ?_
 dsimp -iota -proj -eta only;refine iE (fun h0=>⟨?a,fun E q_0=>iE (fun h1=>⟨?b,fun F q_1 h2 h3=>⟨?c,iE (fun h4=>⟨?d,fun G q_2 h5 h6=>⟨?e,?f,fun h7 h8=>⟨?g,ba⟩⟩⟩) (fun h4=>⟨?h,fun h5 h6=>⟨?i,ba⟩⟩)⟩⟩) (fun h1=>iE (fun h2=>⟨?j,fun F q_1 h3 h4=>⟨?k,?l,fun h5 h6=>⟨?m,ba⟩⟩⟩) (fun h2=>⟨?n,fun h3 h4=>⟨?o,ba⟩⟩))⟩) (fun h0=>iE (fun h1=>⟨?p,fun E q_0 h2 h3=>⟨?q,iE (fun h4=>⟨?r,fun F q_1 h5 h6=>⟨?s,?t,fun h7 h8=>⟨?u,ba⟩⟩⟩) (fun h4=>⟨?v,fun h5 h6=>⟨?w,ba⟩⟩)⟩⟩) (fun h1=>iE (fun h2=>⟨?x,fun E q_0 h3 h4=>⟨?y,?z,fun h5 h6=>⟨?a0,ba⟩⟩⟩) (fun h2=>⟨?a1,fun h3 h4=>⟨(by simp only[aF,aG]at*;omega),ba⟩⟩)))
 case a|b|c|d|e|j|k|p|q|r|s|x|y=>trivial
 case f|g|h|i|l|m|n|o|t|u|v|w|z|a0=>omega
 case a1=>
  rw[show b7.wrap x=x from sC (by simp[IntKind.min,IntKind.max,IntKind.signed,b4];omega)];show(0:Int)<=x/\x<256;omega
def afH:jj prog aE.eT aH 184 [.int .u64] [.int .i64] (fun x=>0<=x/\x<=100) (fun _ _=>True):=
 bO (X:=aH) (bK bJ) func184 κ (fun _=>[]) (fun x hw hp=>afG x hp)
def spZ6:Bool×aL:=(φ,yZ [.int .u64] [.int .i64] (fun x=>0<=x/\x<=100) (fun _ _=>True))
def QU:List (FuncId×(Bool×aL)):=[(184,spZ6)]
def Yk:bH prog aE aH QU:=
 aM (qm afH) (bK bJ)
def ajB(x:Int)(hp:(fun x=>0<=x/\x<=100) x):(cH aE QU f140 [] [.int .u64] [.int .i64] (fun _ _=>True) x).holds:=by
 refine ζ (p:=(0<=x/\x<=100)/\∀E:Int,True->True) κ ?_
 exact⟨θ,fun E q_0=>trivial⟩
def ajC:jj prog aE.eT aH 140 [.int .u64] [.int .i64] (fun x=>0<=x/\x<=100) (fun _ _=>True):=
 bO (X:=aH) Yk func140 κ (fun _=>[]) (fun x hw hp=>ajB x hp)
def afI(x:aA):(cH aE [] f216 [] [.str] [.bool] (fun x y=>y=(fun _=>ψ) x) x).holds:=by
 refine ζ (p:=(!x == x)=ψ) κ ?_
 exact(by simp_all)
def QV:aL:=bP [.str] [.bool] (fun _=>True) (fun _=>ψ)
def afJ:aW prog aE.eT aH 216 φ QV:=
 aI (bO (X:=aH) (bK bJ) func216 κ (fun _=>[]) (fun x hw hp=>afI x))
def abY:List (FuncId×(Bool×aL)):=[(216,(φ,QV))]
def afK:bH prog aE aH abY:=
 aM afJ (bK bJ)
def aic(x:aA)(y:aA):(cH aE abY f180 [] [.str,.str] [.bool] (fun x y=>y=(fun x=>dc x.1 x.2) x) (x,y)).holds:=by
 refine ζ (p:=let za:=dc x y;True/\(ψ=φ->True/\((!ψ)=φ->φ=za)/\((!ψ)=ψ->za=za))/\(ψ=ψ->za=za)) κ ?_
 dsimp -iota -proj -eta only;exact⟨ba,⟨fun h0=>absurd (show ψ=φ from h0) δ,fun h0=>rfl⟩⟩
def Vn:aL:=bP [.str,.str] [.bool] (fun _=>True) (fun x=>dc x.1 x.2)
def aid:aW prog aE.eT aH 180 φ Vn:=
 aI (bO (X:=aH) afK func180 κ (fun _=>[]) (fun x hw hp=>aic x.1 x.2))
def Vo:List (FuncId×(Bool×aL)):=[(180,(φ,Vn))]
def abZ:bH prog aE aH Vo:=
 aM aid (bK bJ)
def ab0(_ _:Int)(xs:List aA):cP:=[
 (0,fun st=>{X:=Nat×List aA,inv:=fun x=>x.1<=xs.length+1/\x.2.length=xs.length/\cm x.2 xs/\BN x.2 x.1,bG:=fun x=>xs.length+1-x.1,bB:=fun x=>[(6,sI x.1)],aK:=fun x=>[(0,.bD .str x.2)],keep:=[0,1,2],dU:=[0]}),
 (2,fun st=>{X:=Nat×List aA,inv:=fun x=>x.1<=(bI (.int .i64) st 6).toNat/\x.2.length=xs.length/\cm x.2 xs/\AN x.2 (bI (.int .i64) st 6).toNat x.1,bG:=fun x=>x.1,bB:=fun x=>[(7,sI x.1)],aK:=fun x=>[(0,.bD .str x.2)],keep:=[0,1,2,6,10,11,12,15],dU:=[0]})]
def Vp:List (Alt [.row φ .str] [.obj 0,.d (.int .i64),.d (.int .i64)]):=[{bQ:=[.row φ .str],res:=[],out:=fun _ x=>(nN x.1,()),ret:=fun _ _=>()}]
def Yl(a:Int)(b:Int)(xs:List aA)(hp:(fun a x=>a.1=0/\a.2.1=x.1.length/\x.1.length<=12) (a,b,()) (xs,())):(cE aE Vo f174 (ab0 a b xs) [.row φ .str] [.obj 0,.d (.int .i64),.d (.int .i64)] Vp (a,b,()) (xs,())).holds:=by
 refine ζ (p:=let za:=aF 1;let zb:=Nat×List aA;let zc:=bb xs;let zd:=zc+1;let ze:=fun(E:Nat×List aA)=>(↑E.1:Int);let zf:=fun(F:Nat×List aA)=>0<=ze F/\ze F<(↑(bb F.2):Int);let zg:=fun(F:Nat×List aA)=>F.1<bb F.2;let zh:=fun(F:Nat×List aA)=>ze F-1;let zi:=fun(F:Nat×List aA)=>0<=zh F/\zh F<(↑(bb F.2):Int);let zj:=fun(F:Nat×List aA)=>bd (zh F)<bb F.2;let zk:=fun(F:Nat×List aA)=>db F.2 F.1 (nth Ty.str F.2 (bd (zh F)));let zl:=fun(E:Nat×List aA) (F:Nat×List aA)=>aF (ze E)->za->aF (ze E+1)/\∃(x':zb),(bh x'<=zd/\bb (bg x')=zc/\cm (bg x') xs/\BN (bg x') (bh x'))/\zd-bh x'<zd-E.1/\(ze E+1=(↑(bh x'):Int)/\True)/\F.2=bg x'/\True;aF a->za->aF (a+1)/\(∃(x:zb),(bh x<=zd/\bb (bg x)=zc/\cm (bg x) xs/\BN (bg x) (bh x))/\(a+1=(↑(bh x):Int)/\True)/\xs=bg x/\True)/\∀E:Nat×List aA,E.1<=zd/\bb E.2=zc/\cm E.2 xs/\BN E.2 E.1->((ρ (ze E<b))=φ->(∃(x:zb),(bh x<=E.1/\bb (bg x)=zc/\cm (bg x) xs/\AN (bg x) E.1 (bh x))/\(ze E=(↑(bh x):Int)/\True)/\E.2=bg x/\True)/\∀F:Nat×List aA,F.1<=E.1/\bb F.2=zc/\cm F.2 xs/\AN F.2 E.1 F.1->((ρ (ze F > a))=φ->zf F/\zg F/\(aF (ze F)->za->aF (zh F)/\zi F/\zj F/\True/\((dc (nth Ty.str F.2 F.1) (nth Ty.str F.2 (bd (zh F))))=φ->aF (ze F)->za->aF (zh F)/\(aF (ze F)->za->aF (zh F)/\zi F/\zj F/\zf F/\zg F/\zf F/\zg F/\(0<=zh F/\zh F<(↑(bb (zk F)):Int))/\bd (zh F)<bb (zk F)/\(aF (ze F)->za->aF (zh F)/\∃(x':zb),(bh x'<=E.1/\bb (bg x')=zc/\cm (bg x') xs/\AN (bg x') E.1 (bh x'))/\bh x'<F.1/\(zh F=(↑(bh x'):Int)/\True)/\db (zk F) (bd (zh F)) (nth Ty.str F.2 F.1)=bg x'/\True)))/\((dc (nth Ty.str F.2 F.1) (nth Ty.str F.2 (bd (zh F))))=ψ->zl E F)))/\((ρ (ze F > a))=ψ->zl E F))/\((ρ (ze E<b))=ψ->True/\(E.2,())=(nN xs,())/\()=())) κ ?_
 dsimp -iota -proj -eta only;dsimp only at hp;refine fun h0 h1=>⟨?a,(⟨(1,xs),⟨ω,rfl,.refl _,fun a b h1 h2=>by omega⟩,⟨ω,ba⟩,rfl,ba⟩),fun E q_0=>iL (fun h2=>⟨(⟨(E.1,E.2),⟨ω,q_0.2.1,q_0.2.2.1,AN.start q_0.2.2.2⟩,⟨rfl,ba⟩,rfl,ba⟩),fun F q_1=>iL (fun h3=>⟨?b,?c,fun h4 h5=>⟨?d,?e,?f,ba,⟨fun h6 h7 h8=>⟨?g,fun h9 h10=>⟨?h,?i,?j,?k,?l,?m,?n,?o,?p,fun h11 h12=>⟨?q,?r⟩⟩⟩,fun h6 h7 h8=>⟨?s,?t⟩⟩⟩⟩) (fun h3 h4 h5=>⟨?u,(by exact⟨(E.1+1,F.2),⟨by simp only;omega,q_1.2.1,q_1.2.2.1,q_1.2.2.2.done (.inl ω) ω⟩,by simp only;omega,⟨by simp only;omega,ba⟩,rfl,θ⟩)⟩)⟩) (fun h2=>⟨ba,by rw[ZP q_0.2.2.1 (fun a b h1 h2=>q_0.2.2.2 a b h1 ω)],rfl⟩)⟩
 case a|d|g|h|q|s|u=>simp only[aF,aG]at*;omega
 case b|c|e|f|i|j|k|l|m|n=>omega
 case o|p=>rw[dT];omega
 case r=>
  have e:((F.1:Int)-1).toNat=F.1-1:=ω;rw[e];exact⟨(F.1-1,wH F.2 F.1),⟨by simp only;omega,by rw[OJ];exact q_1.2.1,(WM ω ω).trans q_1.2.2.1,q_1.2.2.2.swap ω ω ω (by unfold qA;rw[<-e];exact h6)⟩,by simp only;omega,⟨by simp only;omega,ba⟩,rfl,θ⟩
 case t=>
  have e:((F.1:Int)-1).toNat=F.1-1:=ω;rw[e]at h6;exact⟨(E.1+1,F.2),⟨by simp only;omega,q_1.2.1,q_1.2.2.1,q_1.2.2.2.done (.inr (by unfold qA;rw[h6];simp)) ω⟩,by simp only;omega,⟨by simp only;omega,ba⟩,rfl,θ⟩
def H5:aL:=bU [.row φ .str] [.obj 0,.d (.int .i64),.d (.int .i64)] (fun a x=>a.1=0/\a.2.1=x.1.length/\x.1.length<=12) Vp
def Ym:aW prog aE.eT aH 174 ψ H5:=
 bA (X:=aH) abZ func174 κ (fun(a:CD [.obj 0,.d (.int .i64),.d (.int .i64)]) (x:PD [.row φ .str])=>ab0 a.1 a.2.1 x.1) (fun a x hw hp=>Yl a.1 a.2.1 x.1 hp)
def ab1:List (FuncId×(Bool×aL)):=[(174,(ψ,H5))]
def afL:bH prog aE aH ab1:=
 aM Ym (bK bJ)
def ab2(a b _:Int)(_:List aA):cP:=[(0,fun st=>{X:=Unit,inv:=fun _=>True,bG:=fun _=>0,bB:=fun _=>[(1,sI a),(2,sI b)],keep:=[0]})]
def Vq:List (Alt [.row φ .str] [.obj 0,.d (.int .i64),.d (.int .i64),.d (.int .i64)]):=[{bQ:=[.row φ .str],res:=[],out:=fun _ x=>(nN x.1,()),ret:=fun _ _=>()}]
def ajD(a:Int)(b:Int)(c:Int)(xs:List aA)(hp:(fun a x=>a.1=0/\a.2.1=x.1.length/\x.1.length<=12) (a,b,c,()) (xs,())):(cE aE ab1 f139 (ab2 a b c xs) [.row φ .str] [.obj 0,.d (.int .i64),.d (.int .i64),.d (.int .i64)] Vq (a,b,c,()) (xs,())).holds:=by
 refine ζ (p:=let za:=(nN xs,());(∃(x:Unit),True/\(a=a/\b=b/\True)/\True)/\∀E:Unit,True->aF b->aF a->aF (b-a)/\((ρ (b-a<=12))=φ->(a=0/\b=(↑(bb xs):Int)/\bb xs<=12)/\(True->True/\za=za/\()=()))/\((ρ (b-a<=12))=ψ->False)) κ ?_
 dsimp -iota -proj -eta only;dsimp only at hp;refine⟨(by simp_all),fun E q_0 h0 h1=>⟨(by simp only[aF,aG]at*;omega),iE (fun h2=>⟨?a,fun h3 =>?b⟩) (fun h2=>ω)⟩⟩
 case a|b=>trivial
def ab3:aL:=bU [.row φ .str] [.obj 0,.d (.int .i64),.d (.int .i64),.d (.int .i64)] (fun a x=>a.1=0/\a.2.1=x.1.length/\x.1.length<=12) Vq
def ajE:aW prog aE.eT aH 139 ψ ab3:=
 bA (X:=aH) afL func139 κ (fun(a:CD [.obj 0,.d (.int .i64),.d (.int .i64),.d (.int .i64)]) (x:PD [.row φ .str])=>ab2 a.1 a.2.1 a.2.2.1 x.1) (fun a x hw hp=>ajD a.1 a.2.1 a.2.2.1 x.1 hp)
def ab4:List (FuncId×(Bool×aL)):=[(139,(ψ,ab3)),(140,spZ6)]
def afM:bH prog aE aH ab4:=
 aM ajE (aM (qm ajC) (bK bJ))
def sortAlts:List (Alt [.row φ .str] [.obj 0]):=[{bQ:=[.row φ .str],res:=[],out:=fun _ x=>(nN x.1,()),ret:=fun _ _=>()}]
def aie(xs:List aA)(hp:(fun _ x=>x.1.length<=12) () (xs,())):(cE aE ab4 f107 [] [.row φ .str] [.obj 0] sortAlts () (xs,())).holds:=by
 refine ζ (p:=let za:=bb xs;let zb:=(↑za:Int);let zc:=(nN xs,());za<=aG->((0:Int)<=bj br zb/\bj br zb<=(100:Int))/\∀E:Int,True->((0:Int)=(0:Int)/\zb=zb/\za<=12)/\(True->True/\zc=zc/\()=())) κ ?_
 dsimp -iota -proj -eta only;dsimp only at hp;refine fun h0=>⟨(by rw[mm ω ω];omega),fun E q_0=>⟨?a,fun h1 =>?b⟩⟩
 case a|b=>trivial
def Vr:aL:=bU [.row φ .str] [.obj 0] (fun _ x=>x.1.length<=12) sortAlts
def aif:aW prog aE.eT aH 107 ψ Vr:=
 bA (X:=aH) afM func107 κ (fun(a:CD [.obj 0]) (x:PD [.row φ .str])=>[]) (fun a x hw hp=>aie x.1 hp)
@[reducible] def bZ:List Ob:=[.box 107 [.obj 1,.d (.int .i64)],.ext 1 (jY cY)]
def FQ:List (FuncId×(Bool×aL)):=[(49,(φ,jD)),(50,(φ,fO)),(156,(φ,kG)),(83,(φ,jq)),(11,(φ,lk)),(107,(ψ,Vr))]
def H6:bH prog aE aH FQ:=
 aM kx (aM gA (aM lj (aM jE (aM lO (aM aif (bK bJ))))))
def Vs:List (Alt [] []):=[{bQ:=bZ,res:=[.obj 0],out:=fun _ _=>qo,ret:=fun _ _=>()}]
def aih  : (cE aE [] Tryz.f9 [] [] [] Vs () ()).holds:=by
 refine ζ (p:=True/\((0,()),([],0,()),())=qo/\()=()) κ ?_
 exact⟨ba,rfl,rfl⟩
def Vt:aL:=bU [] [] (fun _ _=>True) Vs
def aii:aW prog aE.eT aH 9 ψ Vt:=
 bA (X:=aH) (bK bJ) func9 κ (fun(a:CD []) (x:PD [])=>[]) (fun a x hw hp=>aih)
def LK:List (Alt bZ [.obj 0,.d .str]):=[{bQ:=bZ,res:=[.d .str,.d (.int .i64),.d .err],out:=fun _ x=>x,ret:=fun a x=>((aU x a.1).1,(aU x a.1).2.1,aP (aU x a.1).2.2,())}]
def afN(s:aA)(f:cU):(cE aE [] f70 [] bZ [.obj 0,.d .str] LK (s,()) f).holds:=by
 refine ζ (p:=let za:=Ty.prod Ty.str (Ty.prod (Ty.int bo) Ty.unit);let zb:=(aU f s).2;let zc:=((aU f s).1,zb.1,aP zb.2,());let zd:=kL za f.2.1.1 s;((!dV za f.2.1.1 s)=φ->True/\f=f/\([],0,aR.no 5,())=zc)/\((!dV za f.2.1.1 s)=ψ->True/\f=f/\(zd.1,zd.2.1,aR.nil,())=zc)) κ ?_
 dsimp -iota -proj -eta only;exact iB (fun h0=>(by exact⟨ba,rfl,by rw[ov h0];rfl⟩)) (fun h0=>(by exact⟨ba,rfl,by rw[sa h0];rfl⟩))
def ta:aL:=bU bZ [.obj 0,.d .str] (fun _ _=>True) LK
def v8:aW prog aE.eT aH 70 ψ ta:=
 bA (X:=aH) (bK bJ) func70 κ (fun(a:CD [.obj 0,.d .str]) (x:PD bZ)=>[]) (fun a x hw hp=>afN a.1 x)
def H7:List (Alt bZ [.obj 0,.d .str,.d .str]):=[{bQ:=bZ,res:=[.d .err],out:=fun a x=>(cZ x a.1 a.2.1).1,ret:=fun a x=>(aP (cZ x a.1 a.2.1).2,())}]
def ab5(s:aA)(t:aA)(f:cU)(hp:(fun _ x=>x.2.1.1.length<=6/\0<=x.1.1/\x.1.1<=1000000) (s,t,()) f):(cE aE FQ f12 [] bZ [.obj 0,.d .str,.d .str] H7 (s,t,()) f).holds:=by
 refine ζ (p:=let za:=aP (aN s);let zb:=cZ f s t;let zc:=f=zb.1;let zd:=(aP zb.2,());let ze:=Ty.prod Ty.str (Ty.prod (Ty.int bo) Ty.unit);let zf:=f.2.1.1;let zg:=True/\zc/\(aR.no 8,())=zd;let zh:=f.1.1+1;let zi:=((f.1.1 == 1000000)=φ->zg)/\((f.1.1 == 1000000)=ψ->aF f.1.1->aF 1->aF zh/\bb zf<aG/\True/\((zh,()),(hU ze zf s (t,zh,()) f.2.1.2.1,rQ ze zf s f.2.1.2.1,()),())=zb.1/\(aR.nil,())=zd);True/\((!aR.isNil za)=φ->True/\zc/\(za,())=zd)/\((!aR.isNil za)=ψ->bb t<=aG->((ρ ((↑(bb t):Int) > 1200))=φ->True/\zc/\(aR.no 2,())=zd)/\((ρ ((↑(bb t):Int) > 1200))=ψ->((!dV ze zf s)=φ->(((↑(bb zf):Int) == 6)=φ->zg)/\(((↑(bb zf):Int) == 6)=ψ->zi))/\((!dV ze zf s)=ψ->zi)))) κ ?_
 dsimp -iota -proj -eta only;refine⟨ba,iB (fun h0 =>?a) (fun h0 h1=>iL (fun h2=>(by rw[BQ (aZ.1 η) ω];exact⟨ba,rfl,rfl⟩)) (fun h2=>iB (fun h3=>iQ (fun h4 =>?b) (fun h4=>iQ (fun h5 =>?c) (fun h5 h6 h7=>⟨?d,?e,?f⟩))) (fun h3=>iQ (fun h4 =>?g) (fun h4 h5 h6=>⟨?h,?i,?j⟩))))⟩
 case a=>
  have hn:¬aN s=0:=(fun e=>by rw[aZ.2 e]at h0;cases h0);rw[BP hn];exact⟨ba,rfl,rfl⟩
 case b|c|g=>rw[BR (aZ.1 η) ω (by first|exact .inr ω|exact .inl ⟨by assumption,ω⟩)];exact⟨ba,rfl,rfl⟩
 case d|e|h|i=>simp only[aF,aG]at*;omega
 case f|j=>rw[GM (aZ.1 η) ω (by rintro(⟨e1,e2⟩|e);(first|omega|exact cy (e1.symm.trans (show dV cY f.2.1.1 s=φ by assumption)));omega)];exact⟨ba,rfl,rfl⟩
def LL:aL:=bU bZ [.obj 0,.d .str,.d .str] (fun _ x=>x.2.1.1.length<=6/\0<=x.1.1/\x.1.1<=1000000) H7
def ab6:aW prog aE.eT aH 12 ψ LL:=
 bA (X:=aH) H6 func12 κ (fun(a:CD [.obj 0,.d .str,.d .str]) (x:PD bZ)=>[]) (fun a x hw hp=>ab5 a.1 a.2.1 x hp)
def Ep:List (Alt bZ [.obj 0,.d .str]):=[{bQ:=bZ,res:=[.d .err],out:=fun a x=>(fA x a.1).1,ret:=fun a x=>(aP (fA x a.1).2,())}]
def Yn(s:aA)(f:cU):(cE aE [] f14 [] bZ [.obj 0,.d .str] Ep (s,()) f).holds:=by
 refine ζ (p:=let za:=Ty.prod Ty.str (Ty.prod (Ty.int bo) Ty.unit);let zb:=fA f s;let zc:=(aP zb.2,());((!dV za f.2.1.1 s)=φ->True/\f=zb.1/\(aR.no 5,())=zc)/\((!dV za f.2.1.1 s)=ψ->True/\(f.1,(iW za f.2.1.1 s,f.2.1.2),())=zb.1/\(aR.nil,())=zc)) κ ?_
 dsimp -iota -proj -eta only;exact iB (fun h0=>(by rw[pa h0];exact⟨ba,rfl,rfl⟩)) (fun h0=>(by rw[n5 h0];exact⟨ba,rfl,rfl⟩))
def H8:aL:=bU bZ [.obj 0,.d .str] (fun _ _=>True) Ep
def Yo:aW prog aE.eT aH 14 ψ H8:=
 bA (X:=aH) (bK bJ) func14 κ (fun(a:CD [.obj 0,.d .str]) (x:PD bZ)=>[]) (fun a x hw hp=>Yn a.1 x)
def QW(f:cU):cP:=[(200000,fun st=>{X:=List FE,inv:=fun x=>tA f.2.1.1 x,bG:=fun x=>(lr cY f.2.1.1 (x.map dE)).length,bB:=fun x=>[],keep:=[2,9],aY:=[.row ψ .str],refs:=[(3,0)],pd:=fun x=>(x.map lQ,()),aK:=fun x=>[(aS st 9,aiV st (aS st 9) (x.map dE))],dU:=[aS st 9]})]
def LM:List (Alt bZ [.obj 0]):=[{bQ:=bZ++[.row ψ .str],res:=[.obj 2],out:=fun _ x=>(x.1,x.2.1,nZ x,()),ret:=fun _ _=>()}]
def afO(f:cU)(hp:(fun _ x=>x.2.1.1.length<=6/\(x.2.1.1.map dE).Nodup) () f):(cE (gy aE [3,17]) FQ f71 (QW f) bZ [.obj 0] LM () f).holds:=by
 refine ζ (p:=let za:=f.2.1.1;let zb:=C.fS 1=C.fS 1;let zc:=f.2.1;let zd:=zc.2.1=zc.2.1;let ze:=@bc aA=@bc aA/\(zb/\f.1.1=f.1.1/\True)/\zc=zc/\True;let zf:=!ψ;let zg:=(zf&&(zf&&(zf&&(zf&&φ))))=φ;let zh:=fun(E:List FE)=>lr cY zc.1 (bk dE E);let zi:=fun(E:List FE) (F:aA×(aA×Int×Unit)×Int×Unit)=>bk dE E++[F.2.2.1];let zj:=fun(E:List FE) (F:aA×(aA×Int×Unit)×Int×Unit)=>bb [(AF cY zc.1 (rR (zi E F))).1];(∃(x':List FE),tA za x'/\True/\True/\(((zb/\True)/\@bc Int=bk dE x'/\zd)/\ze)/\zg/\([],())=(bk lQ x',()))/\∀E:List FE,tA za E->zd/\(zh E=@bc (aA×(aA×Int×Unit)×Int×Unit)->bb (bk lQ E)<=12/\(True->True/\(f.1,zc,nN (bk lQ E),())=(f.1,zc,nZ f,())/\()=()))/\∀F:aA×(aA×Int×Unit)×Int×Unit,F∈zh E->zd/\zi E F≠@bc Int/\uH cY zc.1 (rR (zi E F))=φ/\(0<zj E F/\bb (bk lQ E)+zj E F<=1000000000)/\∃(x':List FE),tA za x'/\bb (lr cY za (bk dE x'))<bb (lr cY za (bk dE E))/\True/\(((zb/\True)/\zi E F=bk dE x'/\zd)/\ze)/\zg/\(bk lQ E++[(AF cY zc.1 (rR (zi E F))).1],())=(bk lQ x',())) κ ?_
 dsimp -iota -proj -eta only;exact⟨(⟨[],⟨ς,ς⟩,ba,ba,⟨⟨⟨rfl,ba⟩,rfl,rfl⟩,rfl,⟨rfl,rfl,ba⟩,rfl,ba⟩,rfl,rfl⟩),fun E q_0=>⟨rfl,⟨fun h0=>⟨(by have:=OO q_0.sub q_0.nodup;rw[bw];omega),fun h1=>(by exact⟨ba,by rw[OP q_0 hp.2 η];rfl,rfl⟩)⟩,fun F q_1=>⟨rfl,(by simp_all),(by rw[GN];exact(at_mem hp.2 (fb.1 q_1).1).2),(by have:=OO q_0.sub q_0.nodup;simp only[bw,b9];omega),(by exact⟨E++[F],q_0.more q_1,by rw[eg];exact ZV q_1,ba,⟨⟨⟨rfl,ba⟩,by rw[eg];rfl,rfl⟩,rfl,⟨rfl,rfl,ba⟩,rfl,ba⟩,rfl,by rw[GN,eg,show AF cY f.2.1.1 F.2.2.1=F from(at_mem hp.2 (fb.1 q_1).1).1];rfl⟩)⟩⟩⟩⟩
def QX:aL:=bU bZ [.obj 0] (fun _ x=>x.2.1.1.length<=6/\(x.2.1.1.map dE).Nodup) LM
def afP:aW prog aE.eT aH 71 ψ QX:=
 bA (B:=(gy aE [3,17])) (X:=aH) (bH.hint (l:=[3,17]) H6) func71 κ (fun(a:CD [.obj 0]) (x:PD bZ)=>QW x) (fun a x hw hp=>afO x hp)
@[reducible] def CI:List Ob:=[.box 4 [.d .bool]]
@[reducible] def vg:List Ob:=[.box 148 [.obj 1,.obj 2,.obj 3,.obj 4],.tok .str,.tok (.int .i64),.tok aT,.tok aV,.box 4 [.d .bool]]
def H9:List (Alt CI [.d .str,.obj 0]):=[{bQ:=CI,res:=[.d (.int .i64)],out:=fun a x=>((x.1.1 || (dO a.1).isNone,()),()),ret:=fun a _=>((dG a.1).1,())}]
def LN:List (FuncId×(Bool×aL)):=[(61,spZ0),(106,spZ2),(145,spZ3),(64,spZ4),(63,spZ5)]
def To:bH prog aE aH LN:=
 aM (aI lV) (aM (aI s7) (aM (aI qa) (aM (aI mT) (aM (aI s9) (bK bJ)))))
def Yp(s:aA)(b:Bool)(hp:(fun a _=>a.1.length<=1000000) (s,()) ((b,()),())):(cE aE LN Tryz.f146 [] CI [.d .str,.obj 0] H9 (s,()) ((b,()),())).holds:=by
 refine ζ (p:=let za:=((b || ck (dO s),()),());let zb:=((dG s).1,());let zc:=True/\((φ,()),())=za/\zb=zb;bb s<=281474976710656/\(b=φ->zc)/\(b=ψ->((!aR.isNil (dG s).2)=φ->zc)/\((!aR.isNil (dG s).2)=ψ->True/\True/\((!bp (dG s).1 == s,()),())=za/\zb=zb))) κ ?_
 dsimp -iota -proj -eta only;dsimp only at hp;exact⟨ω,⟨fun h0=>(by simp_all),fun h0=>iB (fun h1=>(by exact⟨ba,by rw[tZ,h1];simp,rfl⟩)) (fun h1=>⟨ba,(by exact⟨ba,by rw[tZ,h1];cases b <;> simp_all <;> (rw[dk];simp),rfl⟩)⟩)⟩⟩
def Ia:aL:=bU CI [.d .str,.obj 0] (fun a _=>a.1.length<=1000000) H9
def Yq:aW prog aE.eT aH 146 ψ Ia:=
 bA (X:=aH) To func146 κ (fun(a:CD [.d .str,.obj 0]) (x:PD CI)=>[]) (fun a x hw hp=>Yp a.1 x.1.1 hp)
def QY:List (Alt vg [.obj 0,.d .str,.obj 5]):=[{bQ:=vg,res:=[],out:=fun a x=>pdL (iU (aex x) x.2.2.2.2.2.1.1 a.1),ret:=fun _ _=>()}]
def Vu:List (FuncId×(Bool×aL)):=[(61,spZ0),(106,spZ2),(145,spZ3),(64,spZ4),(63,spZ5),(146,(ψ,Ia))]
def ab7:bH prog aE aH Vu:=
 aM (aI lV) (aM (aI s7) (aM (aI qa) (aM (aI mT) (aM (aI s9) (aM Yq (bK bJ))))))
def Vv(s:aA)(_:List aA)(_:List Int)(_:List (D aT))(_:List (D aV))(_:Bool):cP:=[
 (300001,fun st=>{X:=List aA,inv:=fun w=>w=parts 32 (cg s eY),bG:=fun _=>0,bB:=fun w=>[(7,sD (.slice .str) w)],keep:=[0,2,6]}),
 (300003,fun st=>{X:=Bool,inv:=fun c=>c=φ↔(nth .str (bI (.slice .str) st 7) 0=iK/\bb (bI (.slice .str) st 7)=2),bG:=fun _=>0,bB:=fun c=>[(18,sB c)],keep:=[0,2,6,7]}),
 (300005,fun st=>{X:=Bool,inv:=fun c=>c=φ↔(nth .str (bI (.slice .str) st 7) 0=iv/\bb (bI (.slice .str) st 7)=2),bG:=fun _=>0,bB:=fun c=>[(40,sB c)],keep:=[0,2,6,7]}),
 (300007,fun st=>{X:=Bool,inv:=fun c=>c=φ↔(nth .str (bI (.slice .str) st 7) 0=gw/\bb (bI (.slice .str) st 7)=3),bG:=fun _=>0,bB:=fun c=>[(64,sB c)],keep:=[0,2,6,7]}),
 (300009,fun st=>{X:=Bool,inv:=fun c=>c=φ↔(nth .str (bI (.slice .str) st 7) 0=kU/\bb (bI (.slice .str) st 7)=3),bG:=fun _=>0,bB:=fun c=>[(93,sB c)],keep:=[0,2,6,7]}),
 (300011,fun st=>{X:=Bool,inv:=fun c=>c=φ↔((nth .str (bI (.slice .str) st 7) 0=iZ\/nth .str (bI (.slice .str) st 7) 0=jP)/\bb (bI (.slice .str) st 7)=4),bG:=fun _=>0,bB:=fun c=>[(123,sB c)],keep:=[0,2,6,7]})]
def afQ(s:aA)(n:List aA)(w:List Int)(y:List (D aT))(t:List (D aV))(b:Bool)(hp:(fun a x=>a.1.length<=1000000/\x.2.1.length<=1000000/\x.2.2.1.length<=1000000/\x.2.2.2.1.length<=1000000/\x.2.2.2.2.1.length<=1000000) (s,()) ((),n,w,y,t,(b,()),())):(cE aE Vu f112 (Vv s n w y t b) vg [.obj 0,.d .str,.obj 5] QY (s,()) ((),n,w,y,t,(b,()),())).holds:=by
 refine ζ (p:=let za:=[(119:UInt8),101,97,107,32];let zb:=cg s za;let zc:=parts (32:UInt8) (cg s eY);let zd:=n=n;let ze:=w=w;let zf:=y=y;let zg:=t=t;let zh:=(zd/\ze/\zf/\zg/\True)/\zd/\ze/\zf/\zg/\(b=b/\True)/\True;let zi:=fun(E:List aA)=>(↑(bb E):Int);let zj:=fun(E:List aA)=>(0:Int)<=(0:Int)/\(0:Int)<zi E;let zk:=fun(E:List aA)=>nth Ty.str E 0;let zl:=fun(E:List aA)=>bb E<=aG;let zm:=fun(E:List aA)=>zk E=iK/\bb E=2;let zn:=fun(E:List aA)=>(0:Int)<=(1:Int)/\(1:Int)<zi E;let zo:=fun(E:List aA)=>nth Ty.str E 1;let zp:=(w,y,t,(b,()),());let zq:=pdL (iU (aex ((),n,zp)) b s);let zr:=()=();let zs:=fun(E:List aA)=>zk E=iv/\bb E=2;let zt:=fun(E:List aA)=>bb (zo E)<=1000000;let zu:=fun(E:List aA)=>(dG (zo E)).1;let zv:=fun(E:List aA)=>zk E=gw/\bb E=3;let zw:=fun(E:List aA)=>(0:Int)<=(2:Int)/\(2:Int)<zi E;let zx:=fun(E:List aA)=>nth Ty.str E 2;let zy:=fun(E:List aA)=>bb (zx E)<=1000000;let zz:=(c7 s za,());let zaa:=fun(E:List aA)=>[(zo E,(dG (zx E)).1,zz)];let zab:=fun(E:List aA)=>zk E=kU/\bb E=3;let zac:=bb t;let zad:=fun(E:List aA)=>[(zu E,(1:Int),(dG (zx E)).1,@bc UInt8,ψ,())];let zae:=fun(E:List aA)=>((b || ck (dO (zo E)) || ck (dO (zx E)),()),());let zaf:=fun(E:List aA)=>zy E/\(True->(zg/\zac+bb (zad E)<=1000000000)/\zd/\ze/\zf/\t++zad E=t++zad E/\True/\((),n,w,y,t++zad E,zae E)=zq/\zr);let zag:=fun(E:List aA)=>(zk E=iZ\/zk E=jP)/\bb E=4;let zah:=fun(E:List aA)=>zl E->∃(x':Bool),(x'=φ↔zag E)/\((zi E == (4:Int))=x'/\True)/\zh;let zai:=fun(E:List aA)=>zk E == [(110:UInt8),101,97,114];let zaj:=fun(E:List aA)=>(0:Int)<=(3:Int)/\(3:Int)<zi E;let zak:=fun(E:List aA)=>((dG (zx E)).1,nth Ty.str E 3,zz);let zal:=fun(E:List aA)=>t++[(zu E,(3:Int),zak E)];let zam:=fun(E:List aA)=>zy E/\(True->(zg/\zac+bb [(zu E,(3:Int),zak E)]<=1000000000)/\zd/\ze/\zf/\zal E=zal E/\True/\((),n,w,y,zal E,zae E)=zq/\zr);let zan:=fun(E:List aA)=>t++[(zu E,(2:Int),zak E)];let zao:=fun(E:List aA)=>zy E/\(True->(zg/\zac+bb [(zu E,(2:Int),zak E)]<=1000000000)/\zd/\ze/\zf/\zan E=zan E/\True/\((),n,w,y,zan E,zae E)=zq/\zr);True/\((bb zb<4294967281/\bb [(32:UInt8)]=1)/\∃(x':List aA),x'=zc/\(parts (32:UInt8) zb=x'/\True)/\zh)/\∀E:List aA,E=zc->(zj E/\((zk E == [(110:UInt8),101,101,100])=φ->zl E->∃(x':Bool),(x'=φ↔zm E)/\((zi E == (2:Int))=x'/\True)/\zh)/\((zk E == [(110:UInt8),101,101,100])=ψ->∃(x':Bool),(x'=φ↔zm E)/\(ψ=x'/\True)/\zh))/\∀F:Bool,(F=φ↔zm E)->(F=φ->zn E/\(zd/\bb n+bb [zo E]<=1000000000)/\n++[zo E]=n++[zo E]/\ze/\zf/\zg/\True/\((),n++[zo E],zp)=zq/\zr)/\(F=ψ->(zj E/\((zk E == [(119:UInt8),111,114,100])=φ->zl E->∃(x':Bool),(x'=φ↔zs E)/\((zi E == (2:Int))=x'/\True)/\zh)/\((zk E == [(119:UInt8),111,114,100])=ψ->∃(x':Bool),(x'=φ↔zs E)/\(ψ=x'/\True)/\zh))/\∀G:Bool,(G=φ↔zs E)->(G=φ->zn E/\(fun a0:Prop=>a0/\a0) (zt E/\(True->(ze/\bb w+bb [zu E]<=1000000000)/\zd/\w++[zu E]=w++[zu E]/\zf/\zg/\True/\((),n,w++[zu E],y,t,(b || ck (dO (zo E)),()),())=zq/\zr)))/\(G=ψ->(zj E/\((zk E == [(115:UInt8),121,109,98,111,108])=φ->zl E->∃(x':Bool),(x'=φ↔zv E)/\((zi E == (3:Int))=x'/\True)/\zh)/\((zk E == [(115:UInt8),121,109,98,111,108])=ψ->∃(x':Bool),(x'=φ↔zv E)/\(ψ=x'/\True)/\zh))/\∀I:Bool,(I=φ↔zv E)->(I=φ->zn E/\zw E/\(fun a0:Prop=>a0/\a0) (zy E/\(True->(zf/\bb y+bb (zaa E)<=1000000000)/\zd/\ze/\y++zaa E=y++zaa E/\zg/\True/\((),n,w,y++zaa E,t,(b || ck (dO (zx E)),()),())=zq/\zr)))/\(I=ψ->(zj E/\((zk E == [(98:UInt8),97,115,101])=φ->zl E->∃(x':Bool),(x'=φ↔zab E)/\((zi E == (3:Int))=x'/\True)/\zh)/\((zk E == [(98:UInt8),97,115,101])=ψ->∃(x':Bool),(x'=φ↔zab E)/\(ψ=x'/\True)/\zh))/\∀K:Bool,(K=φ↔zab E)->(K=φ->zn E/\zw E/\(zt E/\(True->zaf E))/\zt E/\(True->(fun a0:Prop=>a0/\a0) (zaf E)))/\(K=ψ->(zj E/\((zk E == [(119:UInt8),104,111,108,101])=φ->zah E)/\((zk E == [(119:UInt8),104,111,108,101])=ψ->zj E/\((zai E)=φ->zah E)/\((zai E)=ψ->∃(x':Bool),(x'=φ↔zag E)/\(ψ=x'/\True)/\zh)))/\∀M:Bool,(M=φ↔zag E)->(M=φ->zj E/\((zai E)=φ->zn E/\zw E/\zaj E/\(zt E/\(True->zam E))/\zt E/\(True->(fun a0:Prop=>a0/\a0) (zam E)))/\((zai E)=ψ->zn E/\zw E/\zaj E/\(zt E/\(True->zao E))/\zt E/\(True->(fun a0:Prop=>a0/\a0) (zao E))))/\(M=ψ->zd/\ze/\zf/\zg/\True/\((),n,w,y,t,(φ,()),())=zq/\zr)))))) κ ?_
 dsimp -iota -proj -eta only;dsimp only at hp;refine⟨ba,⟨⟨(by have:=Pe s [119,101,97,107,32];exact⟨ω,rfl⟩),(⟨_,rfl,⟨rfl,ba⟩,θ⟩)⟩,fun E q_0=>⟨⟨?a,iQ (fun h0 h1 =>?b) (fun h0 =>?c)⟩,fun F q_1=>⟨fun h0=>⟨?d,?e,?f⟩,fun h0=>⟨⟨?g,iQ (fun h1 h2 =>?h) (fun h1 =>?i)⟩,fun G q_2=>⟨fun h1=>⟨?j,(show ∀{a0:Prop},a0->a0/\a0 from fun g0=>⟨g0,g0⟩) (⟨?k,fun h2=>⟨?l,?m⟩⟩)⟩,fun h1=>⟨⟨?n,iQ (fun h2 h3 =>?o) (fun h2 =>?p)⟩,fun I q_3=>⟨fun h2=>⟨?q,?r,(show ∀{a0:Prop},a0->a0/\a0 from fun g0=>⟨g0,g0⟩) (⟨?s,fun h3=>⟨?t,?u⟩⟩)⟩,fun h2=>⟨⟨?v,iQ (fun h3 h4 =>?w) (fun h3 =>?x)⟩,fun K q_4=>⟨fun h3=>⟨?y,?z,⟨⟨?a0,fun h4=>⟨?a1,fun h5=>⟨?a2,?a3⟩⟩⟩,⟨?a4,fun h4=>(show ∀{a0:Prop},a0->a0/\a0 from fun g0=>⟨g0,g0⟩) (⟨?a5,fun h5=>⟨?a6,?a7⟩⟩)⟩⟩⟩,fun h3=>⟨⟨?a8,iQ (fun h4 h5 =>?a9) (fun h4=>⟨?aa,iQ (fun h5 h6 =>?ab) (fun h5 =>?ac)⟩)⟩,fun M q_5=>⟨fun h4=>⟨?ad,iQ (fun h5=>⟨?ae,?af,?ag,⟨⟨?ah,fun h6=>⟨?ai,fun h7=>⟨?aj,?ak⟩⟩⟩,⟨?al,fun h6=>(show ∀{a0:Prop},a0->a0/\a0 from fun g0=>⟨g0,g0⟩) (⟨?am,fun h7=>⟨?an,?ao⟩⟩)⟩⟩⟩) (fun h5=>⟨?ap,?aq,?ar,⟨⟨?au,fun h6=>⟨?av,fun h7=>⟨?aw,?ax⟩⟩⟩,⟨?ay,fun h6=>(show ∀{a0:Prop},a0->a0/\a0 from fun g0=>⟨g0,g0⟩) (⟨?az,fun h7=>⟨?b0,?b1⟩⟩)⟩⟩⟩)⟩,fun h4 =>?b2⟩⟩⟩⟩⟩⟩⟩⟩⟩⟩⟩⟩
 case a|g|n|v|a8|aa|ad=>have:=aey q_0;omega
 case b|c|h|i|o|p|w|x|a9|ab|ac=>exact⟨_,by(simp_all <;> omega),⟨rfl,ba⟩,θ⟩
 case d|j|q|r|y|z|ae|af|ag|ap|aq|ar=>simp_all
 case e|l|t|a2|a6|aj|an|aw|b0=>exact⟨rfl,by simp only[b9];omega⟩
 case f|m|u|a3|a7|ak|ao|ax|b1|b2=>
  refine⟨rfl,rfl,rfl,rfl,ba,?_,rfl⟩
  first
  |(rw[Xb q_0 (q_1.1 η)];rfl)
  |(rw[Xc q_0 (eH q_1 η) (q_2.1 η)];rfl)
  |(rw[aae q_0 (eH q_1 η) (eH q_2 η) (q_3.1 η)];rfl)
  |(rw[Xd q_0 (eH q_1 η) (eH q_2 η) (eH q_3 η) (q_4.1 η)];rfl)
  |(rw[KJ q_0 (eH q_1 η) (eH q_2 η) (eH q_3 η) (eH q_4 η) (q_5.1 η) (k:=3) (π η).symm];rfl)
  |(rw[KJ q_0 (eH q_1 η) (eH q_2 η) (eH q_3 η) (eH q_4 η) (q_5.1 η) (k:=2) (ε η).symm];rfl)
  |(rw[Xe q_0 (eH q_1 η) (eH q_2 η) (eH q_3 η) (eH q_4 η) (eH q_5 η)];rfl)
 case k|a0|a4|ah|al|au|ay=>have:=UK q_0 1;omega
 case s|a1|a5|ai|am|av|az=>have:=UK q_0 2;omega
def QZ:aL:=bU vg [.obj 0,.d .str,.obj 5] (fun a x=>a.1.length<=1000000/\x.2.1.length<=1000000/\x.2.2.1.length<=1000000/\x.2.2.2.1.length<=1000000/\x.2.2.2.2.1.length<=1000000) QY
def afR:aW prog aE.eT aH 112 ψ QZ:=
 bA (X:=aH) ab7 func112 κ (fun(a:CD [.obj 0,.d .str,.obj 5]) (x:PD vg)=>Vv a.1 x.2.1 x.2.2.1 x.2.2.2.1 x.2.2.2.2.1 x.2.2.2.2.2.1.1) (fun a x hw hp=>afQ a.1 x.2.1 x.2.2.1 x.2.2.2.1 x.2.2.2.2.1 x.2.2.2.2.2.1.1 hp)
def afS(n:Int):(cH aE [] f191 [] [.int .i64] [.bool] (fun x y=>y=(fun n=>eW n) x) n).holds:=by
 refine ζ (p:=((ρ (n>=(-2147483648:Int)))=φ->ρ (n<=2147483647)=eW n)/\((ρ (n>=(-2147483648:Int)))=ψ->ψ=eW n)) κ ?_
 refine iE (fun h0 =>?a) (fun h0 =>?b)
 case a|b=>unfold eW;rw[dk];simp;omega
def rp:aL:=bP [.int .i64] [.bool] (fun _=>True) (fun n=>eW n)
def Q0:aW prog aE.eT aH 191 φ rp:=
 aI (bO (X:=aH) (bK bJ) func191 κ (fun _=>[]) (fun x hw hp=>afS x))
def Tp(n:Int):(cH aE [] f60 [] [.int .i64] [.bool] (fun x y=>y=(fun n=>eW n) x) n).holds:=by
 refine ζ (p:=((ρ (n>=(-2147483648:Int)))=φ->ρ (n<=2147483647)=eW n)/\((ρ (n>=(-2147483648:Int)))=ψ->ψ=eW n)) κ ?_
 refine iE (fun h0 =>?a) (fun h0 =>?b)
 case a|b=>unfold eW;rw[dk];simp;omega
def Tq:aW prog aE.eT aH 60 φ rp:=
 aI (bO (X:=aH) (bK bJ) func60 κ (fun _=>[]) (fun x hw hp=>Tp x))
def LO(l:List aA)(s:aA):cP:=[(0,fun st=>{X:=Nat,inv:=fun i=>i<=l.length/\∀j,j<i->nth .str l j≠s,bG:=fun i=>l.length-i,bB:=fun i=>[(8,sI i)],keep:=[0,1,7]})]
def ab8(l:List aA)(s:aA):(cH aE [] f185 (LO l s) [.slice .str,.str] [.int .i64] (fun x y=>(y= -1/\∀j,j<x.1.length->nth .str x.1 j≠x.2)\/(0<=y/\y.toNat<x.1.length/\nth .str x.1 y.toNat=x.2)) (l,s)).holds:=by
 refine ζ (p:=let za:=bb l;let zb:=(-1:Int);let zc:=∀(j:Nat),j<za->nth Ty.str l j≠s;za<=aG->(∃(x:Nat),(x<=za/\∀(j:Nat),j<x->nth Ty.str l j≠s)/\(0=(↑x:Int)/\True)/\True)/\∀E:Nat,(E<=za/\∀(j:Nat),j<E->nth Ty.str l j≠s)->((ρ ((↑E:Int)<(↑za:Int)))=φ->(0<=(↑E:Int)/\(↑E:Int)<(↑za:Int))/\((s == nth Ty.str l E)=φ->(↑E:Int)=zb/\zc\/0<=(↑E:Int)/\E<za/\nth Ty.str l E=s)/\((s == nth Ty.str l E)=ψ->aF (↑E:Int)->aF 1->aF ((↑E:Int)+1)/\∃(x':Nat),(x'<=za/\∀(j:Nat),j<x'->nth Ty.str l j≠s)/\za-x'<za-E/\((↑E:Int)+1=(↑x':Int)/\True)/\True))/\((ρ ((↑E:Int)<(↑za:Int)))=ψ->zb=zb/\zc\/0<=zb/\bd zb<za/\nth Ty.str l (bd zb)=s)) κ ?_
 dsimp -iota -proj -eta only;exact fun h0=>⟨(⟨0,⟨ω,fun j hj=>by omega⟩,⟨rfl,ba⟩,ba⟩),fun E q_0=>iL (fun h1=>⟨ω,iQ (fun h2=>(by simp_all)) (fun h2 h3 h4=>⟨(by simp only[aF,aG]at*;omega),(⟨E+1,⟨ω,jM q_0.2 fun e=>(by assumption:¬_) e.symm⟩,ω,⟨ω,ba⟩,θ⟩)⟩)⟩) (fun h1=>(.inl ⟨rfl,fun j hj=>q_0.2 j ω⟩))⟩
def ab9:jj prog aE.eT aH 185 [.slice .str,.str] [.int .i64] (fun _=>True) (fun x y=>(y= -1/\∀j,j<x.1.length->nth .str x.1 j≠x.2)\/(0<=y/\y.toNat<x.1.length/\nth .str x.1 y.toNat=x.2)):=
 bO (X:=aH) (bK bJ) func185 κ (fun x=>LO x.1 x.2) (fun x hw hp=>ab8 x.1 x.2)
def LP:List (FuncId×(Bool×aL)):=[(185,(φ,yZ [.slice .str,.str] [.int .i64] (fun _=>True) (fun x y=>(y= -1/\∀j,j<x.1.length->nth .str x.1 j≠x.2)\/(0<=y/\y.toNat<x.1.length/\nth .str x.1 y.toNat=x.2))))]
def Ts:bH prog aE aH LP:=
 aM (qm ab9) (bK bJ)
def Q1(l:List aA)(s:aA):(cH aE LP f141 [] [.slice .str,.str] [.bool] (fun x y=>y=(fun x=>x.1.any (· == x.2)) x) (l,s)).holds:=by
 refine ζ (p:=True/\∀E:Int,((E=(-1:Int)/\∀(j:Nat),j<bb l->nth Ty.str l j≠s)\/0<=E/\bd E<bb l/\nth Ty.str l (bd E)=s)->ρ (E>=0)=dd l fun(x:aA)=>x == s) κ ?_
 exact⟨ba,fun E q_0=>(contains_of q_0)⟩
def wa:aL:=bP [.slice .str,.str] [.bool] (fun _=>True) (fun x=>x.1.any (· == x.2))
def CJ:aW prog aE.eT aH 141 φ wa:=
 aI (bO (X:=aH) Ts func141 κ (fun _=>[]) (fun x hw hp=>Q1 x.1 x.2))
def LQ:List (FuncId×(Bool×aL)):=[(221,(ψ,iI aE [] Tryz.f221 []))]
def Tt:bH prog aE aH LQ:=
 aM (fF (bK bJ) func221 κ []) (bK bJ)
def LR:cP:=[(0,fun st=>{X:=Nat,inv:=fun i=>i<=(bI (.slice aT) st 0).length/\∀j,j<i->(nth aT (bI (.slice aT) st 0) j).1≠(ad0 aT st (WB st 1 0)).1,bG:=fun i=>(bI (.slice aT) st 0).length-i,bB:=fun i=>[(8,sI i)],keep:=[0,1,7]})]
def Vw:List (FuncId×(Bool×aL)):=[(231,(ψ,iI aE LQ f231 LR))]
def aca:bH prog aE aH Vw:=
 aM (fF Tt func231 κ LR) (bK bJ)
def Vx:List (FuncId×(Bool×aL)):=[(49,(φ,jD)),(50,(φ,fO)),(156,(φ,kG)),(83,(φ,jq)),(11,(φ,lk)),(220,(ψ,iI aE Vw f220 []))]
def acb:bH prog aE aH Vx:=
 aM kx (aM gA (aM lj (aM jE (aM lO (aM (fF aca func220 κ []) (bK bJ))))))
def Ib(o:D aB):cP:=[(0,fun st=>{X:=Nat,inv:=fun i=>lu o.2.1.length o.2.2.1 i,bG:=fun i=>o.2.2.1.length-i,bB:=fun i=>[(9,sI i)],keep:=[1,7,8]})]
def Tu(o:D aB):(cH aE Vx f192 (Ib o) [aB] [.err] (fun x y=>y=(fun o=>aP (jO o.2.1.length [] o.2.2.1)) x) o).holds:=by
 refine ζ (p:=let za:=o.2.2.1;let zb:=bb za;let zc:=bb o.2.1;let zd:=fun(E:Nat)=>(↑E:Int);let ze:=fun(E:Nat)=>(0:Int)<=zd E;let zf:=fun(E:Nat)=>(nth aT za E).1;let zg:=aP (jO zc (@bc (aA×Int×Bool×Unit)) za);let zh:=fun(E:Nat)=>(nth aT za E).2.1;let zi:=aR.no (1:Int)=zg;let zj:=fun(E:Nat)=>bm 0 (bf E za);let zk:=fun(E:Nat)=>bb (zj E);let zl:=aR.no (3:Int)=zg;let zm:=(o.1=o.1/\o.2.1=o.2.1/\za=za/\o.2.2.2.1=o.2.2.2.1/\True)/\True;let zn:=fun(E:Nat)=>aF (zd E)->aF (1:Int)->aF (zd E+(1:Int))/\∃(x':Nat),lu zc za x'/\zb-x'<zb-E/\(zd E+(1:Int)=(↑x':Int)/\True)/\zm;zb<=aG->(∃(x:Nat),lu zc za x/\((0:Int)=(↑x:Int)/\True)/\True)/\∀E:Nat,lu zc za E->((ρ (zd E<(↑zb:Int)))=φ->(ze E/\zd E<(↑zb:Int))/\True/\((!aR.isNil (aP (aN (zf E))))=φ->aP (aN (zf E))=zg)/\((!aR.isNil (aP (aN (zf E))))=ψ->((ρ (zh E<(0:Int)))=φ->zi)/\((ρ (zh E<(0:Int)))=ψ->zc<=aG->((ρ (zh E>=(↑zc:Int)))=φ->zi)/\((ρ (zh E>=(↑zc:Int)))=ψ->((0:Int)<=(0:Int)/\ze E/\zd E<=(↑zb:Int))/\(zk E<=aG->(∃(x:Nat),(x<=zk E/\∀(j:Nat),j<x->(nth aT (zj E) j).1≠zf E)/\((0:Int)=(↑x:Int)/\True)/\True)/\∀F:Nat,(F<=zk E/\∀(j:Nat),j<F->(nth aT (zj E) j).1≠zf E)->((ρ (zd F<(↑(zk E):Int)))=φ->(ze F/\zd F<(↑(zk E):Int))/\(((nth aT (zj E) F).1 == zf E)=φ->((ρ (zd F>=(0:Int)))=φ->zl)/\((ρ (zd F>=(0:Int)))=ψ->zn E))/\(((nth aT (zj E) F).1 == zf E)=ψ->aF (zd F)->aF (1:Int)->aF (zd F+(1:Int))/\∃(x':Nat),(x'<=zk E/\∀(j:Nat),j<x'->(nth aT (zj E) j).1≠zf E)/\zk E-x'<zk E-F/\(zd F+(1:Int)=(↑x':Int)/\True)/\(zf E=zf E/\zh E=zh E/\(nth aT za E).2.2.1=(nth aT za E).2.2.1/\True)/\zm))/\((ρ (zd F<(↑(zk E):Int)))=ψ->((ρ ((-1:Int)>=(0:Int)))=φ->zl)/\((ρ ((-1:Int)>=(0:Int)))=ψ->zn E)))))))/\((ρ (zd E<(↑zb:Int)))=ψ->aR.nil=zg)) κ ?_
 dsimp -iota -proj -eta only;refine fun h0=>⟨(⟨0,.zero _ _,⟨rfl,ba⟩,ba⟩),fun E q_0=>iL (fun h1=>⟨?a,ba,iB (fun h2=>(by rw[q_0.fault ω (pS (cO _) h2)])) (fun h2=>iL (fun h3=>(by rw[q_0.out ω (eA h2) (.inl ω)];rfl)) (fun h3 h4=>iE (fun h5=>(by rw[q_0.out ω (eA h2) (.inr ω)];rfl)) (fun h5=>⟨?b,fun h6=>⟨(⟨0,⟨ω,fun j hj=>by omega⟩,⟨rfl,ba⟩,ba⟩),fun F q_1=>iL (fun h7=>⟨?c,iQ (fun h8=>⟨fun h9=>(by rw[Ks q_0.le]at h7;rw[Kr (i:=E) (j:=F) ω]at h8;rw[q_0.dup ω (eA h2) (fun h=>h.elim (fun h=>absurd h (dm.2 h3)) (fun h=>absurd h (dn.2 h5))) (zF (t:=aT) (j:=F) ω q_0.le (by simpa using h8))];rfl),fun h9=>absurd (show φ=ψ from h9) δ⟩) (fun h8 h9 h10=>⟨?d,(⟨F+1,⟨ω,jM q_1.2 η⟩,ω,⟨ω,ba⟩,θ⟩)⟩)⟩) (fun h7=>⟨fun h8=>absurd (show ψ=φ from h8) δ,fun h8 h9 h10=>⟨?e,(by have hx:=Ks q_0.le;exact⟨E+1,q_0.next ω (eA h2) (fun h=>h.elim (fun h=>absurd h (dm.2 h3)) (fun h=>absurd h (dn.2 h5))) (wF (t:=aT) fun j hj=>by have:=q_1.2 j ω;rw[Kr hj]at this;simpa using this),ω,⟨ω,ba⟩,θ⟩)⟩⟩)⟩⟩)))⟩) (fun h1=>(by rw[q_0.done ω];rfl))⟩
 case a|b|c=>omega
 case d|e=>simp only[aF,aG]at*;omega
def Er:aL:=bP [aB] [.err] (fun _=>True) (fun o=>aP (jO o.2.1.length [] o.2.2.1))
def Tv:aW prog aE.eT aH 192 φ Er:=
 aI (bO (X:=aH) acb func192 κ (fun x=>Ib x) (fun x hw hp=>Tu x))
def Vy:List (FuncId×(Bool×aL)):=[(49,(φ,jD)),(50,(φ,fO)),(156,(φ,kG)),(83,(φ,jq)),(11,(φ,lk)),(191,(φ,rp))]
def acd:bH prog aE aH Vy:=
 aM kx (aM gA (aM lj (aM jE (aM lO (aM Q0 (bK bJ))))))
def Vz(o:D aB):cP:=[(0,fun st=>{X:=Nat,inv:=fun i=>ni o.2.1.length o.2.2.2.1 i,bG:=fun i=>o.2.2.2.1.length-i,bB:=fun i=>[(9,sI i)],keep:=[1,7,8]})]
def afT(o:D aB):(cH aE Vy f193 (Vz o) [aB] [.err] (fun x y=>y=(fun o=>aP (mB o.2.1.length χ o.2.2.2.1)) x) o).holds:=by
 refine ζ (p:=let za:=o.2.2.2.1;let zb:=bb za;let zc:=bb o.2.1;let zd:=fun(E:Nat)=>(↑E:Int);let ze:=fun(E:Nat)=>(nth aV za E).1;let zf:=aP (mB zc χ za);let zg:=aR.no 1=zf;let zh:=fun(E:Nat)=>(nth aV za E).2.1;let zi:=aR.no 3=zf;let zj:=fun(E:Nat)=>zd E-1;let zk:=fun(E:Nat)=>aF (zd E)->aF 1->aF (zd E+1)/\∃(x':Nat),ni zc za x'/\zb-x'<zb-E/\(zd E+1=(↑x':Int)/\True)/\(o.1=o.1/\o.2.1=o.2.1/\o.2.2.1=o.2.2.1/\za=za/\True)/\True;let zl:=fun(E:Nat)=>aP (aN (nth aV za E).2.2.2.1);let zm:=fun(E:Nat)=>((zh E == 1)=φ->((!(nth aV za E).2.2.2.1 == @bc UInt8)=φ->zi)/\((!(nth aV za E).2.2.2.1 == @bc UInt8)=ψ->(((nth aV za E).2.2.2.2.1)=φ->zi)/\(((nth aV za E).2.2.2.2.1)=ψ->zk E)))/\((zh E == 1)=ψ->True/\((!aR.isNil (zl E))=φ->zl E=zf)/\((!aR.isNil (zl E))=ψ->zk E));zb<=aG->(∃(x:Nat),ni zc za x/\(0=(↑x:Int)/\True)/\True)/\∀E:Nat,ni zc za E->((ρ (zd E<(↑zb:Int)))=φ->(0<=zd E/\zd E<(↑zb:Int))/\((ρ (ze E<0))=φ->zg)/\((ρ (ze E<0))=ψ->zc<=aG->((ρ (ze E>=(↑zc:Int)))=φ->zg)/\((ρ (ze E>=(↑zc:Int)))=ψ->True/\((!eW (nth aV za E).2.2.1)=φ->zg)/\((!eW (nth aV za E).2.2.1)=ψ->((ρ (zh E<1))=φ->zi)/\((ρ (zh E<1))=ψ->((ρ (zh E > 3))=φ->zi)/\((ρ (zh E > 3))=ψ->((ρ (zd E > 0))=φ->aF (zd E)->aF 1->aF (zj E)/\(0<=zj E/\zj E<(↑zb:Int))/\((ρ ((nth aV za (bd (zj E))).1>=ze E))=φ->zi)/\((ρ ((nth aV za (bd (zj E))).1>=ze E))=ψ->zm E))/\((ρ (zd E > 0))=ψ->zm E)))))))/\((ρ (zd E<(↑zb:Int)))=ψ->aR.nil=zf)) κ ?_
 dsimp -iota -proj -eta only;refine fun h0=>⟨(⟨0,.zero _ _,⟨rfl,ba⟩,ba⟩),fun E q_0=>iL (fun h1=>⟨?a,iL (fun h2 =>?b) (fun h2 h3=>iE (fun h4 =>?c) (fun h4=>⟨ba,iB (fun h5 =>?d) (fun h5=>iL (fun h6 =>?e) (fun h6=>iL (fun h7 =>?f) (fun h7=>iL (fun h8 h9 h10=>⟨?g,?h,iE (fun h11 =>?i) (fun h11=>iQ (fun h12=>⟨fun h13 =>?j,fun h13=>⟨fun h14 =>?k,fun h14 h15 h16=>⟨?l,?m⟩⟩⟩) (fun h12=>⟨ba,iB (fun h13=>(by rw[q_0.fault ω (f:=aN (nth aV o.2.2.2.1 E).2.2.2.1) (by unfold km kT jG;grind) (by have:=pS (cO _) h13;omega)])) (fun h13 h14 h15=>⟨?n,(by have:=aZ.1 h13;exact⟨E+1,q_0.next ω (by unfold km kT jG;grind),ω,⟨ω,ba⟩,θ⟩)⟩)⟩))⟩) (fun h8=>iQ (fun h9=>⟨fun h10 =>?o,fun h10=>⟨fun h11 =>?p,fun h11 h12 h13=>⟨?q,?r⟩⟩⟩) (fun h9=>⟨ba,iB (fun h10=>(by rw[q_0.fault ω (f:=aN (nth aV o.2.2.2.1 E).2.2.2.1) (by unfold km kT jG;grind) (by have:=pS (cO _) h10;omega)])) (fun h10 h11 h12=>⟨?s,(by have:=aZ.1 h10;exact⟨E+1,q_0.next ω (by unfold km kT jG;grind),ω,⟨ω,ba⟩,θ⟩)⟩)⟩)))))⟩))⟩) (fun h1=>(by rw[q_0.done ω];rfl))⟩
 case a|h=>omega
 case b|c|d=>rw[q_0.fault ω (f:=1) (by unfold km;grind) δ];rfl
 case e|f|i=>rw[q_0.fault ω (f:=3) (by unfold km kT jG;grind) δ];rfl
 case g|n|s=>simp only[aF,aG]at*;omega
 case j|k=>
  simp only[bl,reduceCtorEq]at h13;rw[q_0.fault ω (f:=3) (by unfold km kT jG;grind) δ];rfl
 case l=>
  simp only[bl,reduceCtorEq]at h13;simp only[aF,aG]at*;omega
 case m=>
  simp only[bl,reduceCtorEq]at h13;exact⟨E+1,q_0.next ω (by unfold km kT jG;grind),ω,⟨ω,ba⟩,θ⟩
 case o|p=>
  simp only[bl,reduceCtorEq]at h10;rw[q_0.fault ω (f:=3) (by unfold km kT jG;grind) δ];rfl
 case q=>
  simp only[bl,reduceCtorEq]at h10;simp only[aF,aG]at*;omega
 case r=>
  simp only[bl,reduceCtorEq]at h10;exact⟨E+1,q_0.next ω (by unfold km kT jG;grind),ω,⟨ω,ba⟩,θ⟩
def Q2:aL:=bP [aB] [.err] (fun _=>True) (fun o=>aP (mB o.2.1.length χ o.2.2.2.1))
def afU:aW prog aE.eT aH 193 φ Q2:=
 aI (bO (X:=aH) acd func193 κ (fun x=>Vz x) (fun x hw hp=>afT x))
def LS:List (FuncId×(Bool×aL)):=[(49,(φ,jD)),(50,(φ,fO)),(156,(φ,kG)),(83,(φ,jq)),(11,(φ,lk)),(141,(φ,wa)),(191,(φ,rp)),(192,(φ,Er)),(193,(φ,Q2))]
def Tw:bH prog aE aH LS:=
 aM kx (aM gA (aM lj (aM jE (aM lO (aM CJ (aM Q0 (aM Tv (aM afU (bK bJ)))))))))
def LU(o:D aB):cP:=[
 (0,fun st=>{X:=Nat,inv:=fun i=>kn o.1 i,bG:=fun i=>o.1.length-i,bB:=fun i=>[(41,sI i)],keep:=[1,39,40]}),
 (2,fun st=>{X:=Nat,inv:=fun i=>lC o.2.1 i,bG:=fun i=>o.2.1.length-i,bB:=fun i=>[(62,sI i)],keep:=[1,60,61]})]
def ace(o:D aB):(cH aE LS f147 (LU o) [aB] [.err] (fun x y=>y=(fun o=>aP (cQ o)) x) o).holds:=by
 refine ζ (p:=let za:=bb o.1;let zb:=(↑za:Int);let zc:=aP (cQ o);let zd:=aR.no (2:Int)=zc;let ze:=o.2.1;let zf:=bb ze;let zg:=zf<=aG;let zh:=(↑zf:Int);let zi:=o.2.2.1;let zj:=o.2.2.2.1;let zk:=fun(E:Nat)=>(↑E:Int);let zl:=fun(E:Nat)=>(0:Int)<=zk E;let zm:=fun(E:Nat)=>aP (aN (nth Ty.str o.1 E));let zn:=(o.1=o.1/\ze=ze/\zi=zi/\zj=zj/\True)/\True;let zo:=aP (jO zf (@bc (aA×Int×Bool×Unit)) zi);za<=aG->((ρ (zb > (4:Int)))=φ->zd)/\((ρ (zb > (4:Int)))=ψ->zg->((ρ (zh<(1:Int)))=φ->zd)/\((ρ (zh<(1:Int)))=ψ->zg->((ρ (zh > (40:Int)))=φ->zd)/\((ρ (zh > (40:Int)))=ψ->bb zi<=aG->((ρ ((↑(bb zi):Int) > (8:Int)))=φ->zd)/\((ρ ((↑(bb zi):Int) > (8:Int)))=ψ->bb zj<=aG->((ρ ((↑(bb zj):Int) > (6:Int)))=φ->zd)/\((ρ ((↑(bb zj):Int) > (6:Int)))=ψ->za<=aG->(∃(x:Nat),kn o.1 x/\((0:Int)=(↑x:Int)/\True)/\True)/\∀E:Nat,kn o.1 E->((ρ (zk E<zb))=φ->(zl E/\zk E<zb)/\True/\((!aR.isNil (zm E))=φ->zm E=zc)/\((!aR.isNil (zm E))=ψ->((0:Int)<=(0:Int)/\zl E/\zk E<=zb)/\True/\((dd (bm 0 (bf E o.1)) fun(x:aA)=>x == nth Ty.str o.1 E)=φ->aR.no (3:Int)=zc)/\((dd (bm 0 (bf E o.1)) fun(x:aA)=>x == nth Ty.str o.1 E)=ψ->aF (zk E)->aF (1:Int)->aF (zk E+(1:Int))/\∃(x':Nat),kn o.1 x'/\za-x'<za-E/\(zk E+(1:Int)=(↑x':Int)/\True)/\zn)))/\((ρ (zk E<zb))=ψ->zg->(∃(x:Nat),lC ze x/\((0:Int)=(↑x:Int)/\True)/\True)/\∀F:Nat,lC ze F->((ρ (zk F<zh))=φ->(zl F/\zk F<zh)/\True/\((!eW (nth (Ty.int bo) ze F))=φ->aR.no (1:Int)=zc)/\((!eW (nth (Ty.int bo) ze F))=ψ->aF (zk F)->aF (1:Int)->aF (zk F+(1:Int))/\∃(x':Nat),lC ze x'/\zf-x'<zf-F/\(zk F+(1:Int)=(↑x':Int)/\True)/\zn))/\((ρ (zk F<zh))=ψ->True/\((!aR.isNil zo)=φ->zo=zc)/\((!aR.isNil zo)=ψ->True/\aP (mB zf χ zj)=zc))))))))) κ ?_
 dsimp -iota -proj -eta only;refine fun h0=>iL (fun h1 =>?a) (fun h1 h2=>iL (fun h3 =>?b) (fun h3 h4=>iL (fun h5 =>?c) (fun h5 h6=>iL (fun h7 =>?d) (fun h7 h8=>iL (fun h9 =>?e) (fun h9 h10=>⟨?f,fun E q_0=>iL (fun h11=>⟨?g,ba,iB (fun h12=>(by have hf:=pS (cO _) h12;rw[r6 (by unfold ib;omega) (q_0.fault ω hf) ω])) (fun h12=>⟨?h,ba,⟨fun h13=>(by rw[da]at h13;rw[r6 (by unfold ib;omega) (q_0.dup ω (eA h12) h13) δ];rfl),fun h13 h14 h15=>⟨?i,(by rw[da]at h13;exact⟨E+1,q_0.next ω (eA h12) h13,ω,⟨ω,ba⟩,θ⟩)⟩⟩⟩)⟩) (fun h11 h12=>⟨?j,fun F q_1=>iL (fun h13=>⟨?k,ba,iB (fun h14=>(by rw[BI (by unfold ib;omega) (q_0.done ω) (q_1.fault ω h14) δ];rfl)) (fun h14 h15 h16=>⟨?l,(⟨F+1,q_1.next ω h14,ω,⟨ω,ba⟩,θ⟩)⟩)⟩) (fun h13=>⟨ba,iB (fun h14=>(by have hf:=pS (vK _ _ _) h14;rw[qP (by unfold ib;omega) (q_0.done ω) (q_1.done ω) rfl ω])) (fun h14=>⟨ba,(by rw[ly (by unfold ib;omega) (q_0.done ω) (q_1.done ω) (aZ.1 h14) rfl])⟩)⟩)⟩)⟩)))))
 case a|b|c|d|e=>rw[DS (by unfold ib;omega)];rfl
 case f|j=>exact⟨0,.zero _,⟨rfl,ba⟩,ba⟩
 case g|h|k=>omega
 case i|l=>simp only[aF,aG]at*;omega
def LV:aL:=bP [aB] [.err] (fun _=>True) (fun o=>aP (cQ o))
def acf:aW prog aE.eT aH 147 φ LV:=
 aI (bO (X:=aH) Tw func147 κ (fun x=>LU x) (fun x hw hp=>ace x))
def LW(o:D aB):cP:=[
 (0,fun st=>{X:=Nat,inv:=fun i=>kn o.1 i,bG:=fun i=>o.1.length-i,bB:=fun i=>[(3,sI i)],keep:=[1]}),
 (2,fun st=>{X:=Nat,inv:=fun k=>k<=(bd (bI (.int .i64) st 3))/\∀j,j<k->nth .str o.1 j≠nth .str o.1 (bd (bI (.int .i64) st 3)),bG:=fun k=>(bd (bI (.int .i64) st 3))-k,bB:=fun k=>[(5,sI k)],keep:=[1,3,4,44,45,46,47,48,51,52,53,54,55,56,57,58,59]}),
 (4,fun st=>{X:=Nat,inv:=fun i=>lC o.2.1 i,bG:=fun i=>o.2.1.length-i,bB:=fun i=>[(6,sI i)],keep:=[1]}),
 (6,fun st=>{X:=Nat,inv:=fun i=>lu o.2.1.length o.2.2.1 i,bG:=fun i=>o.2.2.1.length-i,bB:=fun i=>[(8,sI i)],keep:=[1]}),
 (8,fun st=>{X:=Nat,inv:=fun k=>k<=(bd (bI (.int .i64) st 8))/\∀j,j<k->(nth aT o.2.2.1 j).1≠(nth aT o.2.2.1 (bd (bI (.int .i64) st 8))).1,bG:=fun k=>(bd (bI (.int .i64) st 8))-k,bB:=fun k=>[(11,sI k)],keep:=[1,8,9,10,91,92,93,94,95,98,99,100,101,102,103,104,105,106,107,108,109,110,111,112,113,114,115,116,117,118,119]}),
 (10,fun st=>{X:=Nat,inv:=fun i=>ni o.2.1.length o.2.2.2.1 i,bG:=fun i=>o.2.2.2.1.length-i,bB:=fun i=>[(12,sI i)],keep:=[1]})]
def LX:List (FuncId×(Bool×aL)):=[(49,(φ,jD)),(50,(φ,fO)),(156,(φ,kG)),(83,(φ,jq)),(11,(φ,lk)),(60,(φ,rp))]
def Tx:bH prog aE aH LX:=
 aM kx (aM gA (aM lj (aM jE (aM lO (aM Tq (bK bJ))))))
def acg(o:D aB):(cH aE LX f116 (LW o) [aB] [.int .i64] (fun x y=>y=(fun o=>cQ o) x) o).holds:=by
 refine ζ (p:=let za:=o.1;let zb:=bb za;let zc:=cQ o;let zd:=2=zc;let ze:=o.2.1;let zf:=bb ze;let zg:=zf<=aG;let zh:=(↑zf:Int);let zi:=o.2.2.1;let zj:=bb zi;let zk:=o.2.2.2.1;let zl:=bb zk;let zm:=(↑zl:Int);let zn:=fun(E:Nat)=>(↑E:Int);let zo:=fun(E:Nat)=>0<=zn E;let zp:=fun(E:Nat)=>zo E/\zn E<(↑zb:Int);let zq:=fun(E:Nat)=>nth Ty.str za E;let zr:=3=zc;let zs:=fun(F:Nat)=>aF (zn F);let zt:=aF 1;let zu:=fun(F:Nat)=>zn F+1;let zv:=fun(F:Nat)=>aF (zu F);let zw:=(za=za/\ze=ze/\zi=zi/\zk=zk/\True)/\True;let zx:=1=zc;let zy:=fun(G:Nat)=>zo G/\zn G<(↑zj:Int);let zz:=fun(G:Nat)=>(nth aT zi G).1;let zaa:=fun(G:Nat)=>(nth aT zi G).2.1;let zab:=fun(I:Nat)=>(nth aV zk I).1;let zac:=fun(I:Nat)=>(nth aV zk I).2.1;let zad:=fun(I:Nat)=>zn I-1;let zae:=fun(I:Nat)=>aN (nth aV zk I).2.2.2.1;let zaf:=fun(I:Nat)=>zs I->zt->zv I/\∃(x':Nat),ni zf zk x'/\zl-x'<zl-I/\(zu I=(↑x':Int)/\True)/\zw;let zag:=fun(I:Nat)=>((ρ (zac I > 1))=φ->True/\((ρ (zae I > 0))=φ->zae I=zc)/\((ρ (zae I > 0))=ψ->zaf I))/\((ρ (zac I > 1))=ψ->zaf I);let zah:=fun(I:Nat)=>((zac I == 1)=φ->((!(nth aV zk I).2.2.2.1 == @bc UInt8)=φ->zr)/\((!(nth aV zk I).2.2.2.1 == @bc UInt8)=ψ->(((nth aV zk I).2.2.2.2.1)=φ->zr)/\(((nth aV zk I).2.2.2.2.1)=ψ->zag I)))/\((zac I == 1)=ψ->zag I);zb<=aG->((ρ ((↑zb:Int) > 4))=φ->zd)/\((ρ ((↑zb:Int) > 4))=ψ->zg->((ρ (zh<1))=φ->zd)/\((ρ (zh<1))=ψ->zg->((ρ (zh > 40))=φ->zd)/\((ρ (zh > 40))=ψ->zj<=aG->((ρ ((↑zj:Int) > 8))=φ->zd)/\((ρ ((↑zj:Int) > 8))=ψ->zl<=aG->((ρ (zm > 6))=φ->zd)/\((ρ (zm > 6))=ψ->(∃(x:Nat),kn za x/\(0=(↑x:Int)/\True)/\True)/\∀E:Nat,kn za E->zb<=aG->((ρ (zn E<(↑zb:Int)))=φ->zp E/\True/\((ρ (aN (zq E) > 0))=φ->aN (zq E)=zc)/\((ρ (aN (zq E) > 0))=ψ->(∃(x:Nat),(x<=E/\∀(j:Nat),j<x->nth Ty.str za j≠zq E)/\(0=(↑x:Int)/\True)/\True)/\∀F:Nat,(F<=E/\∀(j:Nat),j<F->nth Ty.str za j≠zq E)->((ρ (zn F<zn E))=φ->zp F/\zp E/\((zq F == zq E)=φ->zr)/\((zq F == zq E)=ψ->zs F->zt->zv F/\∃(x':Nat),(x'<=E/\∀(j:Nat),j<x'->nth Ty.str za j≠zq E)/\E-x'<E-F/\(zu F=(↑x':Int)/\True)/\zw))/\((ρ (zn F<zn E))=ψ->zs E->zt->zv E/\∃(x':Nat),kn za x'/\zb-x'<zb-E/\(zu E=(↑x':Int)/\True)/\zw)))/\((ρ (zn E<(↑zb:Int)))=ψ->(∃(x:Nat),lC ze x/\(0=(↑x:Int)/\True)/\True)/\∀F:Nat,lC ze F->zg->((ρ (zn F<zh))=φ->(zo F/\zn F<zh)/\True/\((!eW (nth (Ty.int bo) ze F))=φ->zx)/\((!eW (nth (Ty.int bo) ze F))=ψ->zs F->zt->zv F/\∃(x':Nat),lC ze x'/\zf-x'<zf-F/\(zu F=(↑x':Int)/\True)/\zw))/\((ρ (zn F<zh))=ψ->(∃(x:Nat),lu zf zi x/\(0=(↑x:Int)/\True)/\True)/\∀G:Nat,lu zf zi G->zj<=aG->((ρ (zn G<(↑zj:Int)))=φ->zy G/\True/\((ρ (aN (zz G) > 0))=φ->aN (zz G)=zc)/\((ρ (aN (zz G) > 0))=ψ->((ρ (zaa G<0))=φ->zx)/\((ρ (zaa G<0))=ψ->zg->((ρ (zaa G>=zh))=φ->zx)/\((ρ (zaa G>=zh))=ψ->(∃(x:Nat),(x<=G/\∀(j:Nat),j<x->(nth aT zi j).1≠zz G)/\(0=(↑x:Int)/\True)/\True)/\∀I:Nat,(I<=G/\∀(j:Nat),j<I->(nth aT zi j).1≠zz G)->((ρ (zn I<zn G))=φ->zy I/\((zz I == zz G)=φ->zr)/\((zz I == zz G)=ψ->zs I->zt->zv I/\∃(x':Nat),(x'<=G/\∀(j:Nat),j<x'->(nth aT zi j).1≠zz G)/\G-x'<G-I/\(zu I=(↑x':Int)/\True)/\(zz G=zz G/\zaa G=zaa G/\(nth aT zi G).2.2.1=(nth aT zi G).2.2.1/\True)/\zw))/\((ρ (zn I<zn G))=ψ->zs G->zt->zv G/\∃(x':Nat),lu zf zi x'/\zj-x'<zj-G/\(zu G=(↑x':Int)/\True)/\zw)))))/\((ρ (zn G<(↑zj:Int)))=ψ->(∃(x:Nat),ni zf zk x/\(0=(↑x:Int)/\True)/\True)/\∀I:Nat,ni zf zk I->zl<=aG->((ρ (zn I<zm))=φ->(zo I/\zn I<zm)/\True/\((ρ (zab I<0))=φ->zx)/\((ρ (zab I<0))=ψ->zg->((ρ (zab I>=zh))=φ->zx)/\((ρ (zab I>=zh))=ψ->((!eW (nth aV zk I).2.2.1)=φ->zx)/\((!eW (nth aV zk I).2.2.1)=ψ->((ρ (zac I<1))=φ->zr)/\((ρ (zac I<1))=ψ->((ρ (zac I > 3))=φ->zr)/\((ρ (zac I > 3))=ψ->((ρ (zn I > 0))=φ->zs I->zt->aF (zad I)/\(0<=zad I/\zad I<zm)/\((ρ (zab I<=(nth aV zk (bd (zad I))).1))=φ->zr)/\((ρ (zab I<=(nth aV zk (bd (zad I))).1))=ψ->zah I))/\((ρ (zn I > 0))=ψ->zah I)))))))/\((ρ (zn I<zm))=ψ->0=zc)))))))))) κ ?_
 dsimp -iota -proj -eta only;refine fun h0=>iL (fun h1 =>?a) (fun h1 h2=>iL (fun h3 =>?b) (fun h3 h4=>iL (fun h5 =>?c) (fun h5 h6=>iL (fun h7 =>?d) (fun h7 h8=>iL (fun h9 =>?e) (fun h9=>⟨?f,fun E q_0 h10=>iL (fun h11=>⟨?g,ba,iL (fun h12=>(by rw[r6 (by unfold ib;omega) (q_0.fault ω h12) ω])) (fun h12=>⟨?h,fun F q_1=>iL (fun h13=>⟨?i,?j,iQ (fun h14=>(by rw[r6 (by unfold ib;omega) (q_0.dup ω ω (zF (t:=.str) (j:=F) ω q_0.le (by simpa using h14))) δ])) (fun h14 h15 h16=>⟨?k,(⟨F+1,⟨ω,jM q_1.2 η⟩,ω,⟨ω,ba⟩,θ⟩)⟩)⟩) (fun h13 h14 h15=>⟨?l,(⟨E+1,q_0.next ω ω (wF (t:=.str) fun j hj=>by simpa using q_1.2 j ω),ω,⟨ω,ba⟩,θ⟩)⟩)⟩)⟩) (fun h11=>⟨?m,fun F q_1 h12=>iL (fun h13=>⟨?n,ba,iB (fun h14=>(by rw[BI (by unfold ib;omega) (q_0.done ω) (q_1.fault ω h14) δ])) (fun h14 h15 h16=>⟨?o,(⟨F+1,q_1.next ω h14,ω,⟨ω,ba⟩,θ⟩)⟩)⟩) (fun h13=>⟨?p,fun G q_2 h14=>iL (fun h15=>⟨?q,ba,iL (fun h16=>(by rw[qP (by unfold ib;omega) (q_0.done ω) (q_1.done ω) (q_2.fault ω h16) ω])) (fun h16=>iL (fun h17=>(by rw[qP (by unfold ib;omega) (q_0.done ω) (q_1.done ω) (q_2.out ω ω (.inl ω)) δ])) (fun h17 h18=>iE (fun h19=>(by rw[qP (by unfold ib;omega) (q_0.done ω) (q_1.done ω) (q_2.out ω ω (.inr ω)) δ])) (fun h19=>⟨?r,fun I q_3=>iL (fun h20=>⟨?s,iQ (fun h21=>(by rw[qP (by unfold ib;omega) (q_0.done ω) (q_1.done ω) (q_2.dup ω ω (fun h=>h.elim (fun h=>absurd h (dm.2 h17)) (fun h=>absurd h (dn.2 h19))) (zF (t:=aT) (j:=I) ω q_2.le (by simpa using h21))) δ])) (fun h21 h22 h23=>⟨?t,(⟨I+1,⟨ω,jM q_3.2 η⟩,ω,⟨ω,ba⟩,θ⟩)⟩)⟩) (fun h20 h21 h22=>⟨?u,(⟨G+1,q_2.next ω ω (fun h=>h.elim (fun h=>absurd h (dm.2 h17)) (fun h=>absurd h (dn.2 h19))) (wF (t:=aT) fun j hj=>by simpa using q_3.2 j ω),ω,⟨ω,ba⟩,θ⟩)⟩)⟩)))⟩) (fun h15=>⟨?v,fun I q_3 h16=>iL (fun h17=>⟨?w,ba,iL (fun h18 =>?x) (fun h18 h19=>iE (fun h20 =>?y) (fun h20=>iB (fun h21 =>?z) (fun h21=>iL (fun h22 =>?a0) (fun h22=>iL (fun h23 =>?a1) (fun h23=>iL (fun h24 h25 h26=>⟨?a2,?a3,iE (fun h27 =>?a4) (fun h27=>iQ (fun h28=>⟨fun h29 =>?a5,fun h29=>⟨fun h30 =>?a6,fun h30=>iL (fun h31=>⟨ba,iL (fun h32 =>?a7) (fun h32 h33 h34=>⟨?a8,?a9⟩)⟩) (fun h31 h32 h33=>⟨?aa,?ab⟩)⟩⟩) (fun h28=>iL (fun h29=>⟨ba,iL (fun h30 =>?ac) (fun h30 h31 h32=>⟨?ad,?ae⟩)⟩) (fun h29 h30 h31=>⟨?af,?ag⟩)))⟩) (fun h24=>iQ (fun h25=>⟨fun h26 =>?ah,fun h26=>⟨fun h27 =>?ai,fun h27=>iL (fun h28=>⟨ba,iL (fun h29 =>?aj) (fun h29 h30 h31=>⟨?ak,?al⟩)⟩) (fun h28 h29 h30=>⟨?am,?an⟩)⟩⟩) (fun h25=>iL (fun h26=>⟨ba,iL (fun h27 =>?ao) (fun h27 h28 h29=>⟨?ap,?aq⟩)⟩) (fun h26 h27 h28=>⟨?ar,?au⟩))))))))⟩) (fun h17=>(by rw[ly (by unfold ib;omega) (q_0.done ω) (q_1.done ω) (q_2.done ω) (q_3.done ω)]))⟩)⟩)⟩)⟩)))))
 case a|b|c|d|e=>rw[DS (by unfold ib;omega)]
 case f|m=>exact⟨0,.zero _,⟨rfl,ba⟩,ba⟩
 case g|i|j|n|q|s|w|a3=>omega
 case h|r=>exact⟨0,⟨ω,fun j hj=>by omega⟩,⟨rfl,ba⟩,ba⟩
 case k|l|o|t|u|a2|ad|ap=>simp only[aF,aG]at*;omega
 case p|v=>exact⟨0,.zero _ _,⟨rfl,ba⟩,ba⟩
 case x|y|z=>rw[ly (by unfold ib;omega) (q_0.done ω) (q_1.done ω) (q_2.done ω) (q_3.fault ω (f:=1) (by unfold km kT jG;grind) δ)]
 case a0|a1|a4=>rw[ly (by unfold ib;omega) (q_0.done ω) (q_1.done ω) (q_2.done ω) (q_3.fault ω (f:=3) (by unfold km kT jG;grind) δ)]
 case a5|a6=>
  simp only[bl,reduceCtorEq]at h29;rw[ly (by unfold ib;omega) (q_0.done ω) (q_1.done ω) (q_2.done ω) (q_3.fault ω (f:=3) (by unfold km kT jG;grind) δ)]
 case a7=>
  simp only[bl,reduceCtorEq]at h29;rw[ly (by unfold ib;omega) (q_0.done ω) (q_1.done ω) (q_2.done ω) (q_3.fault ω (f:=aN (nth aV o.2.2.2.1 I).2.2.2.1) (by unfold km kT jG;grind) ω)]
 case a8=>
  simp only[bl,reduceCtorEq]at h29;dsimp only[D]at*;omega
 case a9|ab=>
  simp only[bl,reduceCtorEq]at h29;have:=cO (nth aV o.2.2.2.1 I).2.2.2.1;exact⟨I+1,q_3.next ω (by unfold km kT jG;grind),ω,⟨ω,ba⟩,θ⟩
 case aa=>
  simp only[bl,reduceCtorEq]at h29;simp only[aF,aG]at*;omega
 case ac|ao=>rw[ly (by unfold ib;omega) (q_0.done ω) (q_1.done ω) (q_2.done ω) (q_3.fault ω (f:=aN (nth aV o.2.2.2.1 I).2.2.2.1) (by unfold km kT jG;grind) ω)]
 case ae|ag|aq|au=>have:=cO (nth aV o.2.2.2.1 I).2.2.2.1;exact⟨I+1,q_3.next ω (by unfold km kT jG;grind),ω,⟨ω,ba⟩,θ⟩
 case af|ar=>dsimp only[D]at*;omega
 case ah|ai=>
  simp only[bl,reduceCtorEq]at h26;rw[ly (by unfold ib;omega) (q_0.done ω) (q_1.done ω) (q_2.done ω) (q_3.fault ω (f:=3) (by unfold km kT jG;grind) δ)]
 case aj=>
  simp only[bl,reduceCtorEq]at h26;rw[ly (by unfold ib;omega) (q_0.done ω) (q_1.done ω) (q_2.done ω) (q_3.fault ω (f:=aN (nth aV o.2.2.2.1 I).2.2.2.1) (by unfold km kT jG;grind) ω)]
 case ak=>
  simp only[bl,reduceCtorEq]at h26;dsimp only[D]at*;omega
 case al|an=>
  simp only[bl,reduceCtorEq]at h26;have:=cO (nth aV o.2.2.2.1 I).2.2.2.1;exact⟨I+1,q_3.next ω (by unfold km kT jG;grind),ω,⟨ω,ba⟩,θ⟩
 case am=>
  simp only[bl,reduceCtorEq]at h26;simp only[aF,aG]at*;omega
def LY:aL:=bP [aB] [.int .i64] (fun _=>True) (fun o=>cQ o)
def ach:aW prog aE.eT aH 116 φ LY:=
 aI (bO (X:=aH) Tx func116 κ (fun x=>LW x) (fun x hw hp=>acg x))
def Yr(b:Bool):(cH aE [] f149 [] [.bool] [.str] (fun x y=>y=(fun b=>gS b) x) b).holds:=by
 refine ζ (p:=(b=φ->[119,101,97,107,32]=gS b)/\(b=ψ->(@bc UInt8=gS b))) κ ?_
 refine⟨fun h0 =>?a,fun h0 =>?b⟩
 case a|b=>cases b <;> first|rfl|simp_all
def Ic:aL:=bP [.bool] [.str] (fun _=>True) (fun b=>gS b)
def Ys:aW prog aE.eT aH 149 φ Ic:=
 aI (bO (X:=aH) (bK bJ) func149 κ (fun _=>[]) (fun x hw hp=>Yr x))
def Q3:List (FuncId×(Bool×aL)):=[(49,(φ,jD)),(50,(φ,fO)),(156,(φ,kG)),(83,(φ,jq)),(11,(φ,lk)),(148,(ψ,vD 244 5)),(151,(ψ,tU 244 5)),(150,(φ,BA 244 5)),(61,spZ0),(147,(φ,LV)),(149,(φ,Ic))]
def Yt:bH prog aE aH Q3:=
 aM kx (aM gA (aM lj (aM jE (aM lO (aM El (aM CE (aM Lp (aM (aI lV) (aM acf (aM Ys (bK bJ)))))))))))
def Q4(o:D aB):cP:=[
 (0,fun st=>{X:=Nat,inv:=fun i=>i<=o.1.length,bG:=fun i=>o.1.length-i,bB:=fun i=>[(23,sI i)],keep:=[1,2,3,5,6,21,22],aK:=fun i=>[(aS st 5,.ext 2 mI (bW (mv o i),(244:Int),(5:Int),()))],dU:=[aS st 5]}),
 (2,fun st=>{X:=Nat,inv:=fun i=>i<=o.2.1.length,bG:=fun i=>o.2.1.length-i,bB:=fun i=>[(35,sI i)],keep:=[1,2,3,5,6,33,34],aK:=fun i=>[(aS st 5,.ext 2 mI (bW (lR o i),(244:Int),(5:Int),()))],dU:=[aS st 5]}),
 (4,fun st=>{X:=Nat,inv:=fun i=>i<=o.2.2.1.length,bG:=fun i=>o.2.2.1.length-i,bB:=fun i=>[(49,sI i)],keep:=[1,2,3,5,6,47,48],aK:=fun i=>[(aS st 5,.ext 2 mI (bW (jC o i),(244:Int),(5:Int),()))],dU:=[aS st 5]}),
 (6,fun st=>{X:=Nat,inv:=fun i=>i<=o.2.2.2.1.length,bG:=fun i=>o.2.2.2.1.length-i,bB:=fun i=>[(72,sI i)],keep:=[2,3,5,6,70,71],aK:=fun i=>[(aS st 5,.ext 2 mI (bW (fK o i),(244:Int),(5:Int),()))],dU:=[aS st 5]})]
def afV(o:D aB):(cH (gy aE [41,64,91,85,104,110,123,129]) Q3 f113 (Q4 o) [aB] [.str,.err] (fun x y=>y=(fun o=>np o) x) o).holds:=by
 refine ζ (p:=let za:=aP (cQ o);let zb:=np o;let zc:=bb o.1;let zd:=(↑(244:Nat):Int);let ze:=fun(b:UInt8)=>(↑(bt b):Int);let zf:=((244:Int),(5:Int),());let zg:=fun(E:Nat)=>(↑E:Int);let zh:=fun(E:Nat)=>(0:Int)<=zg E;let zi:=[(110:UInt8),101,101,100,32];let zj:=[(10:UInt8)];let zk:=bb zj;let zl:=(244:Int)=zd;let zm:=(↑(5:Nat):Int);let zn:=(5:Int)=zm;let zo:=fun(E:Nat)=>bk ze (mv o E);let zp:=fun(E:Nat)=>zi++nth Ty.str o.1 E++zj;let zq:=fun(E:Nat)=>aF (zg E);let zr:=aF (1:Int);let zs:=fun(E:Nat)=>zg E+(1:Int);let zt:=fun(E:Nat)=>aF (zs E);let zu:=(zd,zm,());let zv:=o.2.1;let zw:=o.2.2.1;let zx:=o.2.2.2.1;let zy:=(o.1=o.1/\zv=zv/\zw=zw/\zx=zx/\True)/\True;let zz:=bb zv;let zaa:=[(119:UInt8),111,114,100,32];let zab:=fun(F:Nat)=>zaa++bp (nth (Ty.int bo) zv F);let zac:=fun(F:Nat)=>bk ze (lR o F);let zad:=bb zw;let zae:=fun(G:Nat)=>gS (nth aT zw G).2.2.1;let zaf:=[(115:UInt8),121,109,98,111,108,32];let zag:=fun(G:Nat)=>zae G++zaf++(nth aT zw G).1;let zah:=[(32:UInt8)];let zai:=bb zah;let zaj:=fun(G:Nat)=>bp (nth aT zw G).2.1;let zak:=fun(G:Nat)=>bk ze (jC o G);let zal:=fun(G:Nat)=>zag G++zah++zaj G++zj;let zam:=bb zx;let zan:=[(98:UInt8),97,115,101,32];let zao:=fun(I:Nat)=>bp (nth aV zx I).1;let zap:=fun(I:Nat)=>bp (nth aV zx I).2.2.1;let zaq:=fun(I:Nat)=>zan++zao I++zah++zap I;let zar:=fun(I:Nat)=>bk ze (fK o I);let zas:=fun(I:Nat)=>bb (zar I);let zat:=fun(I:Nat)=>gS (nth aV zx I).2.2.2.2.1;let zau:=[(119:UInt8),104,111,108,101,32];let zav:=fun(I:Nat)=>zat I++zau++zao I++zah;let zaw:=fun(I:Nat)=>(nth aV zx I).2.2.2.1;let zax:=fun(I:Nat)=>zav I++zap I++zah++zaw I;let zay:=[(110:UInt8),101,97,114,32];let zaz:=fun(I:Nat)=>zat I++zay++zao I++zah;let zba:=fun(I:Nat)=>zaz I++zap I++zah++zaw I;True/\((!aR.isNil za)=φ->([],za)=zb)/\((!aR.isNil za)=ψ->zc<=aG->(∃(x:Nat),x<=zc/\((0:Int)=(↑x:Int)/\True)/\([],zd,(↑(5:TypeId):Int),())=(bk ze (mv o x),zf)/\True)/\∀E:Nat,E<=zc->((ρ (zg E<(↑zc:Int)))=φ->(zh E/\zg E<(↑zc:Int))/\bb zi+bb (nth Ty.str o.1 E)<=aG/\bb (zi++nth Ty.str o.1 E)+zk<=aG/\(zl/\zn/\bb (zo E)+bb (zp E)<=(140737488355328:Nat))/\(zq E->zr->zt E/\∃(x':Nat),x'<=zc/\zc-x'<zc-E/\(zs E=(↑x':Int)/\True)/\(zo E++bk ze (zp E),zu)=(bk ze (mv o x'),zf)/\zy))/\((ρ (zg E<(↑zc:Int)))=ψ->zz<=aG->(∃(x:Nat),x<=zz/\((0:Int)=(↑x:Int)/\True)/\(zo E,zf)=(bk ze (lR o x),zf)/\True)/\∀F:Nat,F<=zz->((ρ (zg F<(↑zz:Int)))=φ->(zh F/\zg F<(↑zz:Int))/\True/\bb zaa+bb (bp (nth (Ty.int bo) zv F))<=aG/\bb (zab F)+zk<=aG/\(zl/\zn/\bb (zac F)+bb (zab F++zj)<=(140737488355328:Nat))/\(zq F->zr->zt F/\∃(x':Nat),x'<=zz/\zz-x'<zz-F/\(zs F=(↑x':Int)/\True)/\(zac F++bk ze (zab F++zj),zu)=(bk ze (lR o x'),zf)/\zy))/\((ρ (zg F<(↑zz:Int)))=ψ->zad<=aG->(∃(x:Nat),x<=zad/\((0:Int)=(↑x:Int)/\True)/\(zac F,zf)=(bk ze (jC o x),zf)/\True)/\∀G:Nat,G<=zad->((ρ (zg G<(↑zad:Int)))=φ->(zh G/\zg G<(↑zad:Int))/\True/\bb (zae G)+bb zaf<=aG/\bb (zae G++zaf)+bb (nth aT zw G).1<=aG/\bb (zag G)+zai<=aG/\True/\bb (zag G++zah)+bb (zaj G)<=aG/\bb (zag G++zah++zaj G)+zk<=aG/\(zl/\zn/\bb (zak G)+bb (zal G)<=(140737488355328:Nat))/\(zq G->zr->zt G/\∃(x':Nat),x'<=zad/\zad-x'<zad-G/\(zs G=(↑x':Int)/\True)/\(zak G++bk ze (zal G),zu)=(bk ze (jC o x'),zf)/\zy))/\((ρ (zg G<(↑zad:Int)))=ψ->zam<=aG->(∃(x:Nat),x<=zam/\((0:Int)=(↑x:Int)/\True)/\(zak G,zf)=(bk ze (fK o x),zf)/\True)/\∀I:Nat,I<=zam->((ρ (zg I<(↑zam:Int)))=φ->(zh I/\zg I<(↑zam:Int))/\(((nth aV zx I).2.1 == (1:Int))=φ->True/\bb zan+bb (zao I)<=aG/\bb (zan++zao I)+zai<=aG/\True/\bb (zan++zao I++zah)+bb (zap I)<=aG/\bb (zaq I)+zk<=aG/\(zl/\zn/\zas I+bb (zaq I++zj)<=(140737488355328:Nat))/\(zq I->zr->zt I/\∃(x':Nat),x'<=zam/\zam-x'<zam-I/\(zs I=(↑x':Int)/\True)/\(zar I++bk ze (zaq I++zj),zu)=(bk ze (fK o x'),zf)/\zy))/\(((nth aV zx I).2.1 == (1:Int))=ψ->(((nth aV zx I).2.1 == (2:Int))=φ->True/\bb (zat I)+bb zau<=aG/\True/\bb (zat I++zau)+bb (zao I)<=aG/\bb (zat I++zau++zao I)+zai<=aG/\True/\bb (zav I)+bb (zap I)<=aG/\bb (zav I++zap I)+zai<=aG/\bb (zav I++zap I++zah)+bb (zaw I)<=aG/\bb (zax I)+zk<=aG/\(zl/\zn/\zas I+bb (zax I++zj)<=(140737488355328:Nat))/\(zq I->zr->zt I/\∃(x':Nat),x'<=zam/\zam-x'<zam-I/\(zs I=(↑x':Int)/\True)/\(zar I++bk ze (zax I++zj),zu)=(bk ze (fK o x'),zf)/\zy))/\(((nth aV zx I).2.1 == (2:Int))=ψ->True/\bb (zat I)+bb zay<=aG/\True/\bb (zat I++zay)+bb (zao I)<=aG/\bb (zat I++zay++zao I)+zai<=aG/\True/\bb (zaz I)+bb (zap I)<=aG/\bb (zaz I++zap I)+zai<=aG/\bb (zaz I++zap I++zah)+bb (zaw I)<=aG/\bb (zba I)+zk<=aG/\(zl/\zn/\zas I+bb (zba I++zj)<=(140737488355328:Nat))/\(zq I->zr->zt I/\∃(x':Nat),x'<=zam/\zam-x'<zam-I/\(zs I=(↑x':Int)/\True)/\(zar I++bk ze (zba I++zj),zu)=(bk ze (fK o x'),zf)/\zy))))/\((ρ (zg I<(↑zam:Int)))=ψ->(zl/\zn)/\((ρ ((↑(zas I):Int) > (1200:Int)))=φ->([],aR.no (2:Int))=zb)/\((ρ ((↑(zas I):Int) > (1200:Int)))=ψ->(zl/\zn)/\(bytesOf (zar I),aR.nil)=zb))))))) κ ?_
 dsimp -iota -proj -eta only;refine⟨ba,iB (fun h0=>(by rw[KB (fun e=>by rw[aZ.2 e]at h0;cases h0)])) (fun h0 h1=>⟨(⟨0,ω,⟨rfl,ba⟩,rfl,ba⟩),fun E q_0=>iL (fun h2=>⟨?a,?b,?c,?d,fun h3 h4=>⟨?e,(⟨E+1,ω,ω,⟨ω,ba⟩,rk (Kt ω),θ⟩)⟩⟩) (fun h2 h3=>⟨(⟨0,ω,⟨rfl,ba⟩,Fi (by rw[Kv,show E=o.1.length by omega]),ba⟩),fun F q_1=>iL (fun h4=>⟨?f,ba,?g,?h,?i,fun h5 h6=>⟨?j,(⟨F+1,ω,ω,⟨ω,ba⟩,rk (Ku ω),θ⟩)⟩⟩) (fun h4 h5=>⟨(⟨0,ω,⟨rfl,ba⟩,Fi (by rw[Ky,show F=o.2.1.length by omega]),ba⟩),fun G q_2=>iL (fun h6=>⟨?k,ba,?l,?m,?n,ba,?o,?p,?q,fun h7 h8=>⟨?r,(⟨G+1,ω,ω,⟨ω,ba⟩,rk (B1 ω),θ⟩)⟩⟩) (fun h6 h7=>⟨(⟨0,ω,⟨rfl,ba⟩,Fi (by rw[Kz,show G=o.2.2.1.length by omega]),ba⟩),fun I q_3=>iL (fun h8=>⟨?s,iQ (fun h9=>⟨ba,?t,?u,ba,?v,?w,?x,fun h10 h11=>⟨?y,(⟨I+1,ω,ω,⟨ω,ba⟩,rk (GS ω h9),θ⟩)⟩⟩) (fun h9=>iQ (fun h10=>⟨ba,?z,ba,?a0,?a1,ba,?a2,?a3,?a4,?a5,?a6,fun h11 h12=>⟨?a7,(⟨I+1,ω,ω,⟨ω,ba⟩,rk (zM ω h9 h10),θ⟩)⟩⟩) (fun h10=>⟨ba,?a8,ba,?a9,?aa,ba,?ab,?ac,?ad,?ae,?af,fun h11 h12=>⟨?ag,(⟨I+1,ω,ω,⟨ω,ba⟩,rk (zN ω h9 h10),θ⟩)⟩⟩))⟩) (fun h8=>⟨?ah,iL (fun h9=>(by rw[GU (aZ.1 h0) (show I=_ by omega) (by simp only[bw]at h9;omega)])) (fun h9=>⟨?ai,(by rw[zO (aZ.1 h0) (show I=_ by omega) (by simp only[bw]at h9;omega)];exact congrArg (·,aR.nil) (zA _))⟩)⟩)⟩)⟩)⟩)⟩)⟩
 case a|f|k|s=>omega
 case b|c=>have a:=B4 (iY (aZ.1 h0)) (i:=E) ω;simp only[bz,b3,b5,bw,aG];omega
 case d|i|q|x|a6|af=>exact⟨rfl,rfl,by first|(have a:=Fh (iY (aZ.1 h0)) (i:=I) ω;simp only[bz,b3,b5,bw,aG];omega)|(have a:=Fg (iY (aZ.1 h0)) (i:=G) ω;simp only[bz,b3,b5,bw,aG];omega)|(have a:=B5 (iY (aZ.1 h0)) (i:=F) ω;simp only[bz,b3,b5,bw,aG];omega)|(have a:=B4 (iY (aZ.1 h0)) (i:=E) ω;simp only[bz,b3,b5,bw,aG];omega)⟩
 case e|j|r|y|a7|ag=>simp only[aF,aG]at*;omega
 case g|h=>have a:=B5 (iY (aZ.1 h0)) (i:=F) ω;simp only[bz,b3,b5,bw,aG];omega
 case l|m|n|o|p=>have a:=Fg (iY (aZ.1 h0)) (i:=G) ω;simp only[bz,b3,b5,bw,aG];omega
 case t|u|v|w|z|a0|a1|a2|a3|a4|a5|a8|a9|aa|ab|ac|ad|ae=>have a:=Fh (iY (aZ.1 h0)) (i:=I) ω;simp only[bz,b3,b5,bw,aG];omega
 case ah|ai=>trivial
def Q5:aL:=bP [aB] [.str,.err] (fun _=>True) (fun o=>np o)
def afW:aW prog aE.eT aH 113 φ Q5:=
 aI (bO (B:=(gy aE [41,64,91,85,104,110,123,129])) (X:=aH) (bH.hint (l:=[41,64,91,85,104,110,123,129]) Yt) func113 κ (fun x=>Q4 x) (fun x hw hp=>afV x))
def Q6:List (FuncId×(Bool×aL)):=[(61,spZ0),(106,spZ2),(145,spZ3),(64,spZ4),(63,spZ5),(113,(φ,Q5)),(112,(ψ,QZ))]
def Yu:bH prog aE aH Q6:=
 aM (aI lV) (aM (aI s7) (aM (aI qa) (aM (aI mT) (aM (aI s9) (aM afW (aM afR (bK bJ)))))))
def Q7(s:aA):cP:=[(200000,fun st=>{X:=Nat×D aB×Bool,inv:=fun x=>od (parts 10 (bu s [10])) x.1 x.2.1 x.2.2,bG:=fun x=>bb (parts 10 (bu s [10]))-x.1,bB:=fun x=>[(19,sI x.1)],keep:=[0,2,3,4,5,17,18],aY:=vg,refs:=[(4,0),(5,5)],pd:=fun x=>pdL x.2})]
def aci(s:aA):(cH aE Q6 f74 (Q7 s) [.str] [aB,.err] (fun x y=>y=(fun s=>sf s) x) s).holds:=by
 refine ζ (p:=let za:=([],[],[],[],());let zb:=sf s;let zc:=bu s [(10:UInt8)];let zd:=parts (10:UInt8) zc;let ze:=@bc aA=@bc aA;let zf:=@bc Int=@bc Int;let zg:=@bc (aA×Int×Bool×Unit)=@bc (aA×Int×Bool×Unit);let zh:=@bc (Int×Int×Int×aA×Bool×Unit)=@bc (Int×Int×Int×aA×Bool×Unit);let zi:=aA;let zj:=Nat×(List zi×List Int×List (zi×Int×Bool×Unit)×List (Int×Int×Int×zi×Bool×Unit)×Unit)×Bool;let zk:=(ze/\zf/\zg/\zh/\True)/\zh/\zg/\zf/\ze/\True;let zl:=!ψ;let zm:=(zl&&(zl&&(zl&&(zl&&(zl&&φ)))))=φ;let zn:=fun(E:Nat×(List aA×List Int×List (aA×Int×Bool×Unit)×List (Int×Int×Int×aA×Bool×Unit)×Unit)×Bool)=>(↑E.1:Int)<(↑(bb zd):Int);let zo:=fun(E:Nat×(List aA×List Int×List (aA×Int×Bool×Unit)×List (Int×Int×Int×aA×Bool×Unit)×Unit)×Bool)=>E.2.1.2.2.1;let zp:=fun(E:Nat×(List aA×List Int×List (aA×Int×Bool×Unit)×List (Int×Int×Int×aA×Bool×Unit)×Unit)×Bool)=>E.2.1.2.2.2.1;let zq:=fun(E:Nat×(List aA×List Int×List (aA×Int×Bool×Unit)×List (Int×Int×Int×aA×Bool×Unit)×Unit)×Bool)=>iU (aex ((),E.2.1.1,E.2.1.2.1,zo E,zp E,(E.2.2,()),())) E.2.2 (nth Ty.str zd E.1);let zr:=fun(E:Nat×(List aA×List Int×List (aA×Int×Bool×Unit)×List (Int×Int×Int×aA×Bool×Unit)×Unit)×Bool)=>(zq E).1.2.2.2.1;let zs:=(za,aR.no 4)=zb;bb s<=aG->((ρ ((↑(bb s):Int) > 1200))=φ->(za,aR.no 2)=zb)/\((ρ ((↑(bb s):Int) > 1200))=ψ->True/\(bb zc<4294967281/\bb [(10:UInt8)]=1)/\(bb zd<=aG->(ze/\zf/\zg/\zh/\∃(x':zj),od zd (bh x') (bg x').1 (bg x').2/\True/\(0=(↑(bh x'):Int)/\True)/\zk/\zm/\((),[],[],[],[],(ψ,()),())=pdL (bg x'))/\∀E:Nat×(List aA×List Int×List (aA×Int×Bool×Unit)×List (Int×Int×Int×aA×Bool×Unit)×Unit)×Bool,od zd E.1 E.2.1 E.2.2->((ρ (zn E))=φ->(0<=(↑E.1:Int)/\zn E)/\E.2.1.1=E.2.1.1/\E.2.1.2.1=E.2.1.2.1/\zo E=zo E/\zp E=zp E/\(bb (nth Ty.str zd E.1)<=1000000/\bb E.2.1.1<=1000000/\bb E.2.1.2.1<=1000000/\bb (zo E)<=1000000/\bb (zp E)<=1000000)/\(True->aF (↑E.1:Int)->aF 1->aF ((↑E.1:Int)+1)/\(zq E).1.1=(zq E).1.1/\(zq E).1.2.1=(zq E).1.2.1/\(zq E).1.2.2.1=(zq E).1.2.2.1/\zr E=zr E/\∃(x':zj),od zd (bh x') (bg x').1 (bg x').2/\bb zd-bh x'<bb zd-E.1/\((↑E.1:Int)+1=(↑(bh x'):Int)/\True)/\zk/\zm/\((),(zq E).1.1,(zq E).1.2.1,(zq E).1.2.2.1,zr E,((zq E).2,()),())=pdL (bg x')))/\((ρ (zn E))=ψ->True/\((E.2.2)=φ->zs)/\((E.2.2)=ψ->((!aR.isNil (np E.2.1).2)=φ->zs)/\((!aR.isNil (np E.2.1).2)=ψ->((!(np E.2.1).1 == s)=φ->zs)/\((!(np E.2.1).1 == s)=ψ->(E.2.1,aR.nil)=zb))))))) κ ?_
 dsimp -iota -proj -eta only;refine fun h0=>iL (fun h1=>(Xh ω)) (fun h1=>⟨ba,(by have:=C9 s [10];exact⟨ω,rfl⟩),fun h2=>⟨(⟨rfl,rfl,rfl,rfl,(0,cD aB,ψ),od.zero _,ba,⟨rfl,ba⟩,⟨⟨rfl,rfl,rfl,rfl,ba⟩,rfl,rfl,rfl,rfl,ba⟩,rfl,rfl⟩),fun E q_0=>iL (fun h3=>⟨ω,rfl,rfl,rfl,rfl,?a,fun h4 h5 h6=>⟨(by simp only[aF,aG]at*;omega),(by exact⟨rfl,rfl,rfl,rfl,(E.1+1,iU E.2.1 E.2.2 (nth .str (parts 10 (bu s [10])) E.1)),q_0.next ω,by simp only;omega,⟨by simp only;omega,ba⟩,θ,rfl,rfl⟩)⟩⟩) (fun h3=>⟨ba,⟨fun h4=>(Ce q_0 ω ω (.inl h4)),fun h4=>iB (fun h5=>(Ce q_0 ω ω (.inr (.inl h5)))) (fun h5=>⟨fun h6 =>?b,fun h6 =>?c⟩)⟩⟩)⟩⟩)
 case a=>
  have hf:=aai s ω;have a0:=q_0.le;have a1:=q_0.l1;have a2:=q_0.l2;have a3:=q_0.l3;have a4:=q_0.l4;exact⟨b8 (Xi ω _) δ,ω,ω,ω,ω⟩
 case b=>
  simp only[bl,reduceCtorEq]at h6;exact Ce q_0 ω ω (.inr (.inr h6))
 case c=>
  simp only[bl,reduceCtorEq]at h6;exact aeE ω ‹aR.isNil _=φ› h6
def w4:aL:=bP [.str] [aB,.err] (fun _=>True) (fun s=>sf s)
def CK:aW prog aE.eT aH 74 φ w4:=
 aI (bO (X:=aH) Yu func74 κ (fun x=>Q7 x) (fun x hw hp=>aci x))
def acj:List (FuncId×(Bool×aL)):=[(70,(ψ,ta)),(74,(φ,w4)),(141,(φ,wa))]
def afX:bH prog aE aH acj:=
 aM v8 (aM CK (aM CJ (bK bJ)))
def ack(s:aA)(f:cU):cP:=[
 (0,fun st=>{X:=Nat×List aA×List (D aB),inv:=fun y=>l5 (aU f) s y.1 y.2.1 y.2.2,bG:=fun y=>7-y.1,bB:=fun y=>[(9,sI y.1),(7,.s (.one (.app .str y.2.1 (aS st 7)))),(8,.s (.one (.app aB y.2.2 (aS st 8))))],aK:=fun y=>[(aS st 7,.tok .str y.2.1),(aS st 8,.tok aB y.2.2)],keep:=[0],dU:=[aS st 7,aS st 8]}),
 (2,fun st=>{X:=Nat,inv:=fun k=>k<=bb (bI (.slice .str) st 50),bG:=fun k=>bb (bI (.slice .str) st 50)-k,bB:=fun k=>[(52,sI k),(7,.s (.one (.app .str (fZ (bI (.slice .str) st 7) (bf k (bI (.slice .str) st 50))) (aS st 7))))],aK:=fun k=>[(aS st 7,.tok .str (fZ (bI (.slice .str) st 7) (bf k (bI (.slice .str) st 50))))],keep:=[0,4,5,6,8,9,10,12,13,18,19,20,21,24,25,26,27,28,29,30,31,32,33,34,35,36,37,38,39,40,41,42,43,44,45,46,47,48,49,50,51],dU:=[aS st 7]})]
def VA:List (Alt bZ [.obj 0,.d .str]):=[{bQ:=bZ,res:=[.d (.slice .str),.d (.slice aB),.d .err],out:=fun _ x=>x,ret:=fun a x=>((aX (aU x) a.1).1,(aX (aU x) a.1).2.1,aP (aX (aU x) a.1).2.2,())}]
def Tz(s:aA)(f:cU)(hp:(fun _ x=>x.2.1.1.length<=6) (s,()) f):(cE (gy aE [17]) acj f108 (ack s f) bZ [.obj 0,.d .str] VA (s,()) f).holds:=by
 refine ζ (p:=let za:=aA;let zb:=Nat×List za×List (List za×List Int×List (za×Int×Bool×Unit)×List (Int×Int×Int×za×Bool×Unit)×Unit);let zc:=aU f;let zd:=fun(E:Nat×List aA×List (List aA×List Int×List (aA×Int×Bool×Unit)×List (Int×Int×Int×aA×Bool×Unit)×Unit))=>(↑E.1:Int)<(↑(bb E.2.1):Int);let ze:=fun(E:Nat×List aA×List (List aA×List Int×List (aA×Int×Bool×Unit)×List (Int×Int×Int×aA×Bool×Unit)×Unit))=>aU f (nth Ty.str E.2.1 E.1);let zf:=aX zc s;let zg:=(zf.1,zf.2.1,aP zf.2.2,());let zh:=fun(E:Nat×List aA×List (List aA×List Int×List (aA×Int×Bool×Unit)×List (Int×Int×Int×aA×Bool×Unit)×Unit))=>(bY (ze E).1).1.1;let zi:=fun(E:Nat×List aA×List (List aA×List Int×List (aA×Int×Bool×Unit)×List (Int×Int×Int×aA×Bool×Unit)×Unit))=>bb (zh E);let zj:=fun(E:Nat×List aA×List (List aA×List Int×List (aA×Int×Bool×Unit)×List (Int×Int×Int×aA×Bool×Unit)×Unit)) (F:Nat)=>fZ E.2.1 (bf F (zh E));let zk:=aF 1;let zl:=fun(F:Nat)=>(↑F:Int)+1;let zm:=@bc aA=@bc aA;let zn:=C.fS 1=C.fS 1/\f.1.1=f.1.1/\True;let zo:=f.2.1=f.2.1;let zp:=fun(E:Nat×List aA×List (List aA×List Int×List (aA×Int×Bool×Unit)×List (Int×Int×Int×aA×Bool×Unit)×Unit))=>E.2.2++[(bY (ze E).1).1];let zq:=@bc (List aA×List Int×List (aA×Int×Bool×Unit)×List (Int×Int×Int×aA×Bool×Unit)×Unit)=@bc (List aA×List Int×List (aA×Int×Bool×Unit)×List (Int×Int×Int×aA×Bool×Unit)×Unit);let zr:=fun(E:Nat×List aA×List (List aA×List Int×List (aA×Int×Bool×Unit)×List (Int×Int×Int×aA×Bool×Unit)×Unit))=>(zh E=zh E/\(bY (ze E).1).1.2.1=(bY (ze E).1).1.2.1/\(bY (ze E).1).1.2.2.1=(bY (ze E).1).1.2.2.1/\(bY (ze E).1).1.2.2.2.1=(bY (ze E).1).1.2.2.2.1/\True)/\@bc (Int×Int×Int×aA×Bool×Unit)=@bc (Int×Int×Int×aA×Bool×Unit)/\@bc (aA×Int×Bool×Unit)=@bc (aA×Int×Bool×Unit)/\@bc Int=@bc Int/\zm/\zn/\zo/\zp E=zp E/\zq/\zm/\True;(∃(x:zb),l5 zc s (bh x) (bg x).1 (bg x).2/\(0=(↑(bh x):Int)/\[s]=(bg x).1/\@bc (List aA×List Int×List (aA×Int×Bool×Unit)×List (Int×Int×Int×aA×Bool×Unit)×Unit)=(bg x).2/\True)/\[s]=(bg x).1/\@bc (List aA×List Int×List (aA×Int×Bool×Unit)×List (Int×Int×Int×aA×Bool×Unit)×Unit)=(bg x).2/\True)/\∀E:Nat×List aA×List (List aA×List Int×List (aA×Int×Bool×Unit)×List (Int×Int×Int×aA×Bool×Unit)×Unit),l5 zc s E.1 E.2.1 E.2.2->bb E.2.1<=aG->((ρ (zd E))=φ->(0<=(↑E.1:Int)/\zd E)/\True/\(True->((!aR.isNil (aP (ze E).2.2))=φ->True/\f=f/\([],[],aP (ze E).2.2,())=zg)/\((!aR.isNil (aP (ze E).2.2))=ψ->True/\((!aR.isNil (aP (bY (ze E).1).2))=φ->True/\f=f/\([],[],aP (bY (ze E).1).2,())=zg)/\((!aR.isNil (aP (bY (ze E).1).2))=ψ->(E.2.2=E.2.2/\bb E.2.2+bb [(bY (ze E).1).1]<=1000000000)/\(zi E<=aG->(∃(x:Nat),x<=zi E/\(0=(↑x:Int)/\E.2.1=fZ E.2.1 (bf x (zh E))/\True)/\E.2.1=fZ E.2.1 (bf x (zh E))/\True)/\∀F:Nat,F<=zi E->((ρ ((↑F:Int)<(↑(zi E):Int)))=φ->(0<=(↑F:Int)/\(↑F:Int)<(↑(zi E):Int))/\True/\((!dd (zj E F) fun(x:za)=>x == nth Ty.str (zh E) F)=φ->(zj E F=zj E F/\bb (zj E F)+bb [nth Ty.str (zh E) F]<=1000000000)/\(aF (↑F:Int)->zk->aF (zl F)/\∃(x':Nat),x'<=zi E/\zi E-x'<zi E-F/\(zl F=(↑x':Int)/\zj E F++[nth Ty.str (zh E) F]=fZ E.2.1 (bf x' (zh E))/\True)/\zj E F++[nth Ty.str (zh E) F]=fZ E.2.1 (bf x' (zh E))/\zr E))/\((!dd (zj E F) fun(x:za)=>x == nth Ty.str (zh E) F)=ψ->aF (↑F:Int)->zk->aF (zl F)/\∃(x':Nat),x'<=zi E/\zi E-x'<zi E-F/\(zl F=(↑x':Int)/\zj E F=fZ E.2.1 (bf x' (zh E))/\True)/\zj E F=fZ E.2.1 (bf x' (zh E))/\zr E))/\((ρ ((↑F:Int)<(↑(zi E):Int)))=ψ->aF (↑E.1:Int)->zk->aF ((↑E.1:Int)+1)/\∃(x':zb),l5 zc s (bh x') (bg x').1 (bg x').2/\7-bh x'<7-E.1/\((↑E.1:Int)+1=(↑(bh x'):Int)/\zj E F=(bg x').1/\zp E=(bg x').2/\True)/\zj E F=(bg x').1/\zp E=(bg x').2/\zq/\zm/\zn/\zo/\True))))))/\((ρ (zd E))=ψ->True/\f=f/\(E.2.1,E.2.2,aR.nil,())=zg)) κ ?_
 dsimp -iota -proj -eta only;refine⟨(⟨(0,[s],[]),l5.zero _ _,⟨rfl,rfl,rfl,ba⟩,θ⟩),fun E q_0 h0=>iL (fun h1=>⟨?a,ba,fun h2=>iB (fun h3=>(by rw[q_0.Pp (lF hp) ω (fun e=>by rw[aZ.2 e]at h3;cases h3)];exact⟨ba,rfl,rfl⟩)) (fun h3=>⟨ba,iB (fun h4=>(by rw[q_0.UP ω (aZ.1 h3) (fun e=>by rw[aZ.2 e]at h4;cases h4)];exact⟨ba,rfl,rfl⟩)) (fun h4=>⟨⟨rfl,q_0.I8⟩,fun h5=>⟨(⟨0,ca _,⟨rfl,rfl,ba⟩,rfl,ba⟩),fun F q_1=>iL (fun h6=>⟨?b,ba,iB (fun h7=>⟨⟨rfl,q_0.aao (lF hp) (u7 (aZ.1 h3) (aZ.1 h4)) _⟩,fun h8 h9=>⟨?c,(⟨F+1,ω,ω,⟨ω,Db ω η,ba⟩,Db ω η,θ⟩)⟩⟩) (fun h7 h8 h9=>⟨?d,(⟨F+1,ω,ω,⟨ω,Dc ω η,ba⟩,Dc ω η,θ⟩)⟩)⟩) (fun h6 h7 h8=>⟨?e,(by exact⟨(E.1+1,_,_),q_0.next (lF hp) ω (u7 (aZ.1 h3) (aZ.1 h4)),by have:=q_0.room (lF hp) ω (u7 (aZ.1 h3) (aZ.1 h4));simp only;omega,⟨by simp only;omega,Dd ω,rfl,ba⟩,Dd ω,rfl,θ⟩)⟩)⟩⟩)⟩)⟩) (fun h1=>(by rw[q_0.done ω];exact⟨ba,rfl,rfl⟩))⟩
 case a|b=>omega
 case c|d|e=>simp only[aF,aG]at*;omega
def Es:aL:=bU bZ [.obj 0,.d .str] (fun _ x=>x.2.1.1.length<=6) VA
def TA:aW prog aE.eT aH 108 ψ Es:=
 bA (B:=(gy aE [17])) (X:=aH) (bH.hint (l:=[17]) afX) func108 κ (fun(a:CD [.obj 0,.d .str]) (x:PD bZ)=>ack a.1 x) (fun a x hw hp=>Tz a.1 x hp)
def afY(n:Int)(hp:(fun n=>0<=n/\n<=1000000) n):(cH aE [] f142 [] [.int .i64] [.int .i64] (fun x y=>y=(fun n=>cS n) x) n).holds:=by
 refine ζ (p:=let za:=aF (16:Int);let zb:=aF (n+(16:Int));let zc:=n+(16:Int)-(1:Int);aF n->za->zb/\(zb->aF (1:Int)->aF zc/\(16:Int)≠(0:Int)/\∀E:Int,E=Int.tdiv zc (16:Int)->aF zc->za->aF E/\∀F:Int,F=E*(16:Int)->aF E->za->aF F/\F=cS n)) κ ?_
 dsimp -iota -proj -eta only;refine fun h0 h1=>⟨?a,fun h2 h3=>⟨?b,ω,fun E q_0 h4 h5=>⟨?c,fun F q_1 h6 h7=>⟨?d,?e⟩⟩⟩⟩
 case a|b=>simp only[aF]at*;omega
 case c|d|e=>subst_vars;rw[Int.tdiv_eq_ediv_of_nonneg ω];(try unfold cS);(try simp only[aF]);omega
def Av:aL:=bP [.int .i64] [.int .i64] (fun n=>0<=n/\n<=1000000) (fun n=>cS n)
def afZ:aW prog aE.eT aH 142 φ Av:=
 aI (bO (X:=aH) (bK bJ) func142 κ (fun _=>[]) (fun x hw hp=>afY x hp))
def af0(a:Int×Int×Unit)(b:Int×Int×Unit)(hp:(fun x=>uA x.1/\uA x.2) (a,b)):(cH aE [] f188 [] [bE,bE] [.bool] (fun x y=>y=(fun x=>kf x.1 x.2) x) (a,b)).holds:=by
 refine ζ (p:=let za:=φ=kf a b;let zb:=a.1+a.2.1;let zc:=b.1+b.2.1;((ρ (a.2.1<=0))=φ->za)/\((ρ (a.2.1<=0))=ψ->((ρ (b.2.1<=0))=φ->za)/\((ρ (b.2.1<=0))=ψ->aF a.1->aF a.2.1->aF zb/\((ρ (zb<=b.1))=φ->za)/\((ρ (zb<=b.1))=ψ->aF b.1->aF b.2.1->aF zc/\ρ (zc<=a.1)=kf a b)))) κ ?_
 dsimp -iota -proj -eta only;dsimp only at hp;simp only[uA]at hp;refine iE (fun h0 =>?a) (fun h0=>iE (fun h1 =>?b) (fun h1 h2 h3=>⟨?c,iE (fun h4 =>?d) (fun h4 h5 h6=>⟨?e,?f⟩)⟩))
 case a|b|d|f=>rw[dk];simp only[kf,Bool.or_eq_true,decide_eq_true_eq,true_iff];omega
 case c|e=>simp only[aF]at*;omega
def FR:aL:=bP [bE,bE] [.bool] (fun x=>uA x.1/\uA x.2) (fun x=>kf x.1 x.2)
def Q8:aW prog aE.eT aH 188 φ FR:=
 aI (bO (X:=aH) (bK bJ) func188 κ (fun _=>[]) (fun x hw hp=>af0 x.1 x.2 hp))
def LZ:List (FuncId×(Bool×aL)):=[(188,(φ,FR))]
def TB:bH prog aE aH LZ:=
 aM Q8 (bK bJ)
def Q9:List (FuncId×(Bool×aL)):=[(187,(ψ,iI aE LZ f187 []))]
def Yv:bH prog aE aH Q9:=
 aM (fF TB func187 κ []) (bK bJ)
def L0:cP:=[(0,fun st=>{X:=Nat,inv:=fun i=>i<=(bI (.slice bE) st 0).length/\∀j,j<i->kf (ad0 bE st (WB st 1 0)) (nth bE (bI (.slice bE) st 0) j)=φ,bG:=fun i=>(bI (.slice bE) st 0).length-i,bB:=fun i=>[(8,sI i)],keep:=[0,1,7]})]
def Ra:List (FuncId×(Bool×aL)):=[(217,(ψ,iI aE Q9 Tryz.f217 L0))]
def Yw:bH prog aE aH Ra:=
 aM (fF Yv func217 κ L0) (bK bJ)
def Rb:List (FuncId×(Bool×aL)):=[(186,(ψ,iI aE Ra f186 []))]
def Yx:bH prog aE aH Rb:=
 aM (fF Yw func186 κ []) (bK bJ)
def aij(r:Int×Int×Unit)(l:List (D bE))(hp:(fun x=>uA x.1/\∀y∈x.2,uA y) (r,l)):(cH aE Rb Tryz.f143 [] [bE,.slice bE] [.bool] (fun x y=>y=(fun x=>jN x.1 x.2) x) (r,l)).holds:=by
 refine ζ (p:=let za:=bb l;za<=aG->(∃(x:Nat),(x<=za/\∀(j:Nat),j<x->kf r (nth bE l j)=φ)/\(0=(↑x:Int)/\True)/\True)/\∀E:Nat,(E<=za/\∀(j:Nat),j<E->kf r (nth bE l j)=φ)->((ρ ((↑E:Int)<(↑za:Int)))=φ->(0<=(↑E:Int)/\(↑E:Int)<(↑za:Int))/\(uA r/\uA (nth bE l E))/\((!kf r (nth bE l E))=φ->(!ρ ((↑E:Int)>=0))=jN r l)/\((!kf r (nth bE l E))=ψ->aF (↑E:Int)->aF 1->aF ((↑E:Int)+1)/\∃(x':Nat),(x'<=za/\∀(j:Nat),j<x'->kf r (nth bE l j)=φ)/\za-x'<za-E/\((↑E:Int)+1=(↑x':Int)/\True)/\(r.1=r.1/\r.2.1=r.2.1/\True)/\True))/\((ρ ((↑E:Int)<(↑za:Int)))=ψ->(!ρ ((-1:Int)>=0))=jN r l)) κ ?_
 dsimp -iota -proj -eta only;dsimp only at hp;refine fun h0=>⟨?a,fun E q_0=>iL (fun h1=>⟨ω,⟨hp.1,hp.2 _ (eG ω)⟩,iB (fun h2=>(by rw[DN (j:=E) ω h2];simp)) (fun h2 h3 h4=>⟨(by simp only[aF,aG]at*;omega),(by exact⟨E+1,⟨ω,fun j hj=>by by_cases e:j=E;(subst e;exact h2);exact q_0.2 j ω⟩,ω,⟨ω,ba⟩,θ⟩)⟩)⟩) (fun h1=>(by rw[GF fun j hj=>q_0.2 j ω];simp))⟩
 case a=>refine⟨0,?_⟩;(repeat' (first|exact trivial|rfl|omega|assumption|apply ec))
def VB:aL:=bP [bE,.slice bE] [.bool] (fun x=>uA x.1/\∀y∈x.2,uA y) (fun x=>jN x.1 x.2)
def aik:aW prog aE.eT aH 143 φ VB:=
 aI (bO (X:=aH) Yx func143 κ (fun _=>[]) (fun x hw hp=>aij x.1 x.2 hp))
def Rc:List (FuncId×(Bool×aL)):=[(49,(φ,jD)),(50,(φ,fO)),(156,(φ,kG)),(83,(φ,jq)),(11,(φ,lk)),(142,(φ,Av)),(188,(φ,FR)),(143,(φ,VB))]
def Yy:bH prog aE aH Rc:=
 aM kx (aM gA (aM lj (aM jE (aM lO (aM afZ (aM Q8 (aM aik (bK bJ))))))))
def Re(s:List Int)(l:List (D bE)):cP:=[
 (0,fun st=>{X:=Nat,inv:=fun i=>i<=s.length/\∀j,j<i->1<=(nth (.int .i64) s j:Int)/\(nth (.int .i64) s j:Int)<=40,bG:=fun i=>s.length-i,bB:=fun i=>[(26,sI i)],keep:=[0,1,24,25]}),
 (2,fun st=>{X:=Nat,inv:=fun i=>i<=l.length/\∀j,j<i->kI (nth bE l j),bG:=fun i=>l.length-i,bB:=fun i=>[(40,sI i)],keep:=[0,1,38,39]}),
 (4,fun st=>{X:=Nat×List (D bE)×List Int,inv:=fun x=>x.1<=s.length/\gv x.2.1 (s.drop x.1) x.2.2=gv l s []/\(∀y∈x.2.1,kI y)/\x.2.1.length=l.length+x.1/\x.2.2.length=x.1,bG:=fun x=>s.length-x.1,bB:=fun x=>[(68,sI x.1),(10,.s (.one (.app bE x.2.1 (aS st 10)))),(11,.s (.one (.app (.int .i64) x.2.2 (aS st 11))))],aK:=fun x=>[(aS st 10,.tok bE x.2.1),(aS st 11,.tok (.int .i64) x.2.2)],keep:=[66,67],dU:=[aS st 10,aS st 11]}),
 (6,fun st=>{X:=Nat,inv:=fun j=>j<=32/\gV (bI (.slice bE) st 10) (Wq (.int .i64) st (aS st 14) 1) (40-j) (16*(j:Int))=gV (bI (.slice bE) st 10) (Wq (.int .i64) st (aS st 14) 1) 40 0,bG:=fun j=>40-j,bB:=fun j=>[],aK:=fun j=>[(aS st 14,.cells 226 [.d (.int .i64) (16*(j:Int)),.d (.int .i64) (Wq (.int .i64) st (aS st 14) 1)])],keep:=[4,5,10,11,13,14,66,67,68,69,70,71,72,73,74],dU:=[aS st 14]})]
def af1(s:List Int)(l:List (D bE)):(cH (gy aE [65]) Rc f109 (Re s l) [.slice (.int .i64),.slice bE] [.slice (.int .i64),.err] (fun x y=>y=(fun x=>cF x) x) (s,l)).holds:=by
 refine ζ (p:=let za:=bb s;let zb:=za<=aG;let zc:=(↑za:Int);let zd:=cF (s,l);let ze:=([],aR.no 2)=zd;let zf:=bb l;let zg:=Ty.int bo;let zh:=fun(E:Nat)=>(↑E:Int);let zi:=([],aR.no 1)=zd;let zj:=aF 1;let zk:=@bc Int=@bc Int/\True;let zl:=Int×Int×Unit;let zm:=Nat×List zl×List Int;let zn:=gv l s (@bc Int);let zo:=fun(G:Nat×List (Int×Int×Unit)×List Int)=>cS (nth zg s G.1);let zp:=fun(G:Nat×List (Int×Int×Unit)×List Int)=>gV G.2.1 (zo G) 40 0;let zq:=fun(I:Nat)=>16*zh I;zb->((ρ (zc > 6))=φ->ze)/\((ρ (zc > 6))=ψ->zf<=aG->((ρ ((↑zf:Int) > 20))=φ->ze)/\((ρ ((↑zf:Int) > 20))=ψ->zb->(∃(x:Nat),(x<=za/\∀(j:Nat),j<x->1<=nth zg s j/\nth zg s j<=40)/\(0=(↑x:Int)/\True)/\True)/\∀E:Nat,(E<=za/\∀(j:Nat),j<E->1<=nth zg s j/\nth zg s j<=40)->((ρ (zh E<zc))=φ->(0<=zh E/\zh E<zc)/\((ρ (nth zg s E<1))=φ->zi)/\((ρ (nth zg s E<1))=ψ->((ρ (nth zg s E > 40))=φ->zi)/\((ρ (nth zg s E > 40))=ψ->aF (zh E)->zj->aF (zh E+1)/\∃(x':Nat),(x'<=za/\∀(j:Nat),j<x'->1<=nth zg s j/\nth zg s j<=40)/\za-x'<za-E/\(zh E+1=(↑x':Int)/\True)/\zk)))/\((ρ (zh E<zc))=ψ->zf<=aG->(∃(x:Nat),(x<=zf/\∀(j:Nat),j<x->kI (nth bE l j))/\(0=(↑x:Int)/\True)/\True)/\∀F:Nat,(F<=zf/\∀(j:Nat),j<F->kI (nth bE l j))->((ρ (zh F<(↑zf:Int)))=φ->(0<=zh F/\zh F<(↑zf:Int))/\((ρ ((nth bE l F).1<0))=φ->zi)/\((ρ ((nth bE l F).1<0))=ψ->((ρ ((nth bE l F).1 > 256))=φ->zi)/\((ρ ((nth bE l F).1 > 256))=ψ->((ρ ((nth bE l F).2.1<0))=φ->zi)/\((ρ ((nth bE l F).2.1<0))=ψ->((ρ ((nth bE l F).2.1 > 256))=φ->zi)/\((ρ ((nth bE l F).2.1 > 256))=ψ->aF (zh F)->zj->aF (zh F+1)/\∃(x':Nat),(x'<=zf/\∀(j:Nat),j<x'->kI (nth bE l j))/\zf-x'<zf-F/\(zh F+1=(↑x':Int)/\True)/\zk)))))/\((ρ (zh F<(↑zf:Int)))=ψ->zf<=1000000000/\(zb->(∃(x:zm),(bh x<=za/\gv (bg x).1 (bm (bh x) s) (bg x).2=zn/\(∀(y:zl),y∈(bg x).1->kI y)/\bb (bg x).1=zf+bh x/\bb (bg x).2=bh x)/\(0=(↑(bh x):Int)/\l=(bg x).1/\@bc Int=(bg x).2/\True)/\l=(bg x).1/\@bc Int=(bg x).2/\True)/\∀G:Nat×List (Int×Int×Unit)×List Int,G.1<=za/\gv G.2.1 (bm G.1 s) G.2.2=zn/\(∀(y:zl),y∈G.2.1->kI y)/\bb G.2.1=zf+G.1/\bb G.2.2=G.1->((ρ ((↑G.1:Int)<zc))=φ->(0<=(↑G.1:Int)/\(↑G.1:Int)<zc)/\(0<=nth zg s G.1/\nth zg s G.1<=1000000)/\(∃(x:Nat),(x<=32/\gV G.2.1 (zo G) (40-x) (16*(↑x:Int))=zp G)/\True/\(0=16*(↑x:Int)/\zo G=zo G/\True)/\True)/\∀I:Nat,I<=32/\gV G.2.1 (zo G) (40-I) (zq I)=zp G->(uA (zq I,zo G,())/\∀(y:zl),y∈G.2.1->uA y)/\((!jN (zq I,zo G,()) G.2.1)=φ->aF (zq I)->aF 16->aF (zq I+16)/\∃(x':Nat),(x'<=32/\gV G.2.1 (zo G) (40-x') (16*(↑x':Int))=zp G)/\40-x'<40-I/\True/\(zq I+16=16*(↑x':Int)/\zo G=zo G/\True)/\G.2.1=G.2.1/\G.2.2=G.2.2/\zk)/\((!jN (zq I,zo G,()) G.2.1)=ψ->aF (zq I)->aF (zo G)->aF (zq I+zo G)/\((ρ (zq I+zo G > 256))=φ->([],aR.no 8)=zd)/\((ρ (zq I+zo G > 256))=ψ->(G.2.1=G.2.1/\bb G.2.1+bb [(zq I,zo G,())]<=1000000000)/\(G.2.2=G.2.2/\bb G.2.2+bb [zq I]<=1000000000)/\(aF (↑G.1:Int)->zj->aF ((↑G.1:Int)+1)/\∃(x':zm),(bh x'<=za/\gv (bg x').1 (bm (bh x') s) (bg x').2=zn/\(∀(y:zl),y∈(bg x').1->kI y)/\bb (bg x').1=zf+bh x'/\bb (bg x').2=bh x')/\za-bh x'<za-G.1/\((↑G.1:Int)+1=(↑(bh x'):Int)/\G.2.1++[(zq I,zo G,())]=(bg x').1/\G.2.2++[zq I]=(bg x').2/\True)/\G.2.1++[(zq I,zo G,())]=(bg x').1/\G.2.2++[zq I]=(bg x').2/\zk))))/\((ρ ((↑G.1:Int)<zc))=ψ->(G.2.2,aR.nil)=zd))))))) κ ?_
 dsimp -iota -proj -eta only;refine fun h0=>iL (fun h1 =>?a) (fun h1 h2=>iL (fun h3 =>?b) (fun h3 h4=>⟨?c,fun E q_0=>iL (fun h5=>⟨?d,iL (fun h6 =>?e) (fun h6=>iL (fun h7 =>?f) (fun h7 h8 h9=>⟨?g,(by(try dsimp only[D]at*);exact⟨E+1,⟨ω,fun j hj=>by by_cases e:j=E;(subst e;(try dsimp only[D]);omega);exact q_0.2 j ω⟩,ω,⟨ω,ba⟩,θ⟩)⟩))⟩) (fun h5 h6=>⟨?h,fun F q_1=>iL (fun h7=>⟨?i,iL (fun h8 =>?j) (fun h8=>iL (fun h9 =>?k) (fun h9=>iL (fun h10 =>?l) (fun h10=>iL (fun h11 =>?m) (fun h11 h12 h13=>⟨?n,(by(try dsimp only[D]at*);exact⟨F+1,⟨ω,fun j hj=>by by_cases e:j=F;(subst e;unfold kI;(try dsimp only[D]);omega);exact q_1.2 j ω⟩,ω,⟨ω,ba⟩,θ⟩)⟩))))⟩) (fun h7=>⟨?o,fun h8=>⟨(⟨(0,l,[]),⟨ca _,rfl,(fun y (hy:y∈l)=>by obtain⟨i,hi,e⟩:=gO (t:=bE) hy;rw[<-e];exact q_1.2 i ω),rfl,rfl⟩,θ,θ⟩),fun G q_2=>iL (fun h9=>⟨?p,(by have:=q_0.2 G.1 ω;(try dsimp only[D]at*);omega),?q,fun I q_3=>⟨?r,iB (fun h10 h11 h12=>⟨?s,?t⟩) (fun h10 h11 h12=>⟨?u,iL (fun h13 =>?v) (fun h13=>⟨?w,?x,fun h14 h15=>⟨?y,?z⟩⟩)⟩)⟩⟩) (fun h9=>(by rw[tV ω (fun j hj=>q_0.2 j ω) (fun j hj=>q_1.2 j ω),<-q_2.2.1,DO ω]))⟩⟩)⟩)⟩))
 case a|b=>rw[xm ω]
 case c|h|q=>refine⟨0,?_⟩;(repeat' (first|exact trivial|rfl|omega|assumption|apply ec))
 case d|i|o|p=>omega
 case e|f=>(try dsimp only[D]at*);rw[xn ω (i:=E) ω (by(try dsimp only[D]);omega)]
 case g|n|s|y=>simp only[aF,aG]at*;omega
 case j|k|l|m=>(try dsimp only[D]at*);rw[vF ω (i:=F) ω (by unfold kI;(try dsimp only[D]);omega)]
 case r=>
  have hs:=q_0.2 G.1 ω;have hr:=eM hs.1 hs.2;exact⟨by refine⟨?_,?_,?_,?_⟩ <;> simp only <;> omega,fun y hy=>(q_2.2.2.1 y hy).uA⟩
 case t=>
  have hf:jN (16*(I:Int),cS (nth (.int .i64) s G.1),()) G.2.1=ψ:=by assumption
  have hn:=J7 q_2.2.2.1 hf;exact⟨I+1,⟨ω,by rw[<-q_3.2,show 40-I=(40-(I+1))+1 by omega,J8 hf,show 16*((I+1:Nat):Int)=16*(I:Int)+16 by omega]⟩,ω,ba,⟨ω,rfl,ba⟩,θ⟩
 case u=>
  have hs:=q_0.2 G.1 ω;have hr:=eM hs.1 hs.2;have hf:jN (16*(I:Int),cS (nth (.int .i64) s G.1),()) G.2.1=φ:=by assumption
  have hb:=q_3.2.symm.trans (tx hf);simp only[aF];omega
 case v=>
  have hs:=q_0.2 G.1 ω;have hr:=eM hs.1 hs.2;have hf:jN (16*(I:Int),cS (nth (.int .i64) s G.1),()) G.2.1=φ:=by assumption
  have hb:=q_3.2.symm.trans (tx hf);rw[tV ω (fun j hj=>q_0.2 j ω) (fun j hj=>q_1.2 j ω),<-q_2.2.1,pP ω,π (by rw[hb];omega)]
 case w|x=>simp only[b9,true_and];omega
 case z=>
  have hs:=q_0.2 G.1 ω;have hr:=eM hs.1 hs.2;have hf:jN (16*(I:Int),cS (nth (.int .i64) s G.1),()) G.2.1=φ:=by assumption
  have hb:=q_3.2.symm.trans (tx hf);exact⟨(G.1+1,_,_),⟨ω,by rw[<-q_2.2.1,pP (k:=G.1) ω,ε (by rw[hb];omega),hb],Oy q_2.2.2.1 (by refine⟨?_,?_,?_,?_⟩ <;> simp only <;> omega),by simp only[bz,b9];omega,by simp only[bz,b9];omega⟩,by simp only;omega,⟨by simp only;omega,rfl,rfl,ba⟩,θ⟩
def Rf:aL:=bP [.slice (.int .i64),.slice bE] [.slice (.int .i64),.err] (fun _=>True) (fun x=>cF x)
def af2:aW prog aE.eT aH 109 φ Rf:=
 aI (bO (B:=(gy aE [65])) (X:=aH) (bH.hint (l:=[65]) Yy) func109 κ (fun x=>Re x.1 x.2) (fun x hw hp=>af1 x.1 x.2))
def Rg(a:List aA)(b:List aA):cP:=[(0,fun st=>{X:=Nat,inv:=fun i=>i<=a.length/\∀j,j<i->nth .str a j=nth .str b j,bG:=fun i=>a.length-i,bB:=fun i=>[(5,sI i)],keep:=[0,1]})]
def Rh(a:List aA)(b:List aA):(cH aE [] f23 (Rg a b) [.slice .str,.slice .str] [.bool] (fun x y=>y=(fun x=>oE x.1 x.2) x) (a,b)).holds:=by
 refine ζ (p:=let za:=bb a;let zb:=(↑(bb b):Int);let zc:=ψ=oE a b;za<=aG->bb b<=aG->(((↑za:Int) != zb)=φ->zc)/\(((↑za:Int) != zb)=ψ->(∃(x:Nat),(x<=za/\∀(j:Nat),j<x->nth Ty.str a j=nth Ty.str b j)/\(0=(↑x:Int)/\True)/\True)/\∀E:Nat,(E<=za/\∀(j:Nat),j<E->nth Ty.str a j=nth Ty.str b j)->za<=aG->((ρ ((↑E:Int)<(↑za:Int)))=φ->(0<=(↑E:Int)/\(↑E:Int)<(↑za:Int))/\(0<=(↑E:Int)/\(↑E:Int)<zb)/\((!nth Ty.str a E == nth Ty.str b E)=φ->zc)/\((!nth Ty.str a E == nth Ty.str b E)=ψ->aF (↑E:Int)->aF 1->aF ((↑E:Int)+1)/\∃(x':Nat),(x'<=za/\∀(j:Nat),j<x'->nth Ty.str a j=nth Ty.str b j)/\za-x'<za-E/\((↑E:Int)+1=(↑x':Int)/\True)/\True))/\((ρ ((↑E:Int)<(↑za:Int)))=ψ->φ=oE a b))) κ ?_
 dsimp -iota -proj -eta only;refine fun h0 h1=>iN (fun h2=>(ZJ η)) (fun h2=>⟨(⟨0,⟨ω,fun j hj=>by omega⟩,⟨rfl,ba⟩,ba⟩),fun E q_0 h3=>iL (fun h4=>⟨?a,?b,⟨fun h5 =>?c,fun h5 h6 h7=>⟨?d,?e⟩⟩⟩) (fun h4=>(WL η (fun i hi=>q_0.2 i ω)))⟩)
 case a|b=>omega
 case c=>
  simp only[bl,reduceCtorEq]at h5;exact ad7 (i:=E) η
 case d=>
  simp only[bl,reduceCtorEq]at h5;simp only[aF,aG]at*;omega
 case e=>
  simp only[bl,reduceCtorEq]at h5;exact⟨E+1,⟨ω,Kb q_0.2 η⟩,ω,⟨ω,ba⟩,θ⟩
def wb:aL:=bP [.slice .str,.slice .str] [.bool] (fun _=>True) (fun x=>oE x.1 x.2)
def CL:aW prog aE.eT aH 23 φ wb:=
 aI (bO (X:=aH) (bK bJ) func23 κ (fun x=>Rg x.1 x.2) (fun x hw hp=>Rh x.1 x.2))
def Ri(l:List (D aB))(s:aA):cP:=[
 (0,fun st=>{X:=Nat×Int×Int,inv:=fun x=>x.1<=l.length/\kM l s x.1 0 x.2.1 x.2.2,bG:=fun x=>l.length-x.1,bB:=fun x=>[(14,sI x.1),(6,sI x.2.1),(7,sI x.2.2)],keep:=[1,12,13]}),
 (2,fun st=>{X:=Nat×Int×Int,inv:=fun x=>x.1<=(nth aB l (bI (.int .i64) st 14).toNat).2.2.1.length/\kM l s (bI (.int .i64) st 14).toNat x.1 x.2.1 x.2.2,bG:=fun x=>(nth aB l (bI (.int .i64) st 14).toNat).2.2.1.length-x.1,bB:=fun x=>[(22,sI x.1),(6,sI x.2.1),(7,sI x.2.2)],keep:=[1,8,9,12,13,14,15,16,17,18,19,20,21]})]
def af3(l:List (D aB))(s:aA):(cH aE [] Tryz.f218 (Ri l s) [.slice aB,.str] [.int .i64,.int .i64] (fun x y=>y=(fun x=>eE x) x) (l,s)).holds:=by
 refine ζ (p:=let za:=bb l;let zb:=Nat×Int×Int;let zc:=fun(E:Nat×Int×Int)=>(↑E.1:Int);let zd:=fun(E:Nat×Int×Int)=>(nth aB l E.1).2.2.1;let ze:=fun(E:Nat×Int×Int)=>bb (zd E);let zf:=aF 1;let zg:=fun(F:Nat×Int×Int)=>zc F+1;let zh:=fun(E:Nat×Int×Int)=>(nth aB l E.1).2.2.2.1;let zi:=fun(E:Nat×Int×Int)=>((nth aB l E.1).1=(nth aB l E.1).1/\(nth aB l E.1).2.1=(nth aB l E.1).2.1/\zd E=zd E/\zh E=zh E/\True)/\@bc (Int×Int×Int×aA×Bool×Unit)=@bc (Int×Int×Int×aA×Bool×Unit)/\@bc (aA×Int×Bool×Unit)=@bc (aA×Int×Bool×Unit)/\@bc Int=@bc Int/\@bc aA=@bc aA/\True;let zj:=fun(F:Nat×Int×Int) (E:Nat×Int×Int)=>aF (zc F)->zf->aF (zg F)/\∃(x':zb),(bh x'<=ze E/\kM l s E.1 (bh x') (bg x').1 (bg x').2)/\ze E-bh x'<ze E-F.1/\(zg F=(↑(bh x'):Int)/\F.2.1=(bg x').1/\F.2.2=(bg x').2/\True)/\zi E;let zk:=eE (l,s);za<=aG->(∃(x:zb),(bh x<=za/\kM l s (bh x) 0 (bg x).1 (bg x).2)/\(0=(↑(bh x):Int)/\(-1:Int)=(bg x).1/\(-1:Int)=(bg x).2/\True)/\True)/\∀E:Nat×Int×Int,E.1<=za/\kM l s E.1 0 E.2.1 E.2.2->((ρ (zc E<(↑za:Int)))=φ->(0<=zc E/\zc E<(↑za:Int))/\(ze E<=aG->(∃(x:zb),(bh x<=ze E/\kM l s E.1 (bh x) (bg x).1 (bg x).2)/\(0=(↑(bh x):Int)/\E.2.1=(bg x).1/\E.2.2=(bg x).2/\True)/\True)/\∀F:Nat×Int×Int,F.1<=ze E/\kM l s E.1 F.1 F.2.1 F.2.2->((ρ (zc F<(↑(ze E):Int)))=φ->(0<=zc F/\zc F<(↑(ze E):Int))/\((!(nth aT (zd E) F.1).1 == s)=φ->zj F E)/\((!(nth aT (zd E) F.1).1 == s)=ψ->((!(nth aT (zd E) F.1).2.2.1)=φ->(zc E,zc F)=zk)/\((!(nth aT (zd E) F.1).2.2.1)=ψ->((ρ (F.2.1<0))=φ->aF (zc F)->zf->aF (zg F)/\∃(x':zb),(bh x'<=ze E/\kM l s E.1 (bh x') (bg x').1 (bg x').2)/\ze E-bh x'<ze E-F.1/\(zg F=(↑(bh x'):Int)/\zc E=(bg x').1/\zc F=(bg x').2/\True)/\zi E)/\((ρ (F.2.1<0))=ψ->zj F E))))/\((ρ (zc F<(↑(ze E):Int)))=ψ->aF (zc E)->zf->aF (zg E)/\∃(x':zb),(bh x'<=za/\kM l s (bh x') 0 (bg x').1 (bg x').2)/\za-bh x'<za-E.1/\(zg E=(↑(bh x'):Int)/\F.2.1=(bg x').1/\F.2.2=(bg x').2/\True)/\True)))/\((ρ (zc E<(↑za:Int)))=ψ->E.2=zk)) κ ?_
 dsimp -iota -proj -eta only;refine fun h0=>⟨(⟨(0,-1,-1),⟨ω,kM.start l s⟩,⟨rfl,rfl,rfl,ba⟩,ba⟩),fun E q_0=>iL (fun h1=>⟨?a,fun h2=>⟨(⟨(0,E.2),⟨ω,q_0.2⟩,⟨rfl,rfl,rfl,ba⟩,ba⟩),fun F q_1=>iL (fun h3=>⟨?b,⟨fun h4 h5 h6=>⟨?c,?d⟩,fun h4=>iB (fun h5 =>?e) (fun h5=>iL (fun h6 h7 h8=>⟨?f,?g⟩) (fun h6 h7 h8=>⟨?h,?i⟩))⟩⟩) (fun h3 h4 h5=>⟨(by simp only[aF,aG]at*;omega),(by exact⟨(E.1+1,F.2),⟨ω,q_1.2.row ω⟩,by simp only;omega,⟨by simp only;omega,rfl,rfl,ba⟩,θ⟩)⟩)⟩⟩) (fun h1=>((q_0.2.done ω).symm))⟩
 case a|b=>omega
 case c|f|h=>
  simp only[bl,reduceCtorEq]at h4;simp only[aF,aG]at*;omega
 case d=>
  simp only[bl,reduceCtorEq]at h4;exact⟨(F.1+1,F.2),⟨ω,q_1.2.skip η⟩,by simp only;omega,⟨by simp only;omega,rfl,rfl,ba⟩,θ⟩
 case e=>
  simp only[bl,reduceCtorEq]at h4;exact(q_1.2.aiZ ω ω η η).symm
 case g=>
  simp only[bl,reduceCtorEq]at h4;exact⟨(F.1+1,_,_),⟨ω,q_1.2.IU ω ω η (by simp_all) ω⟩,by simp only;omega,⟨by simp only;omega,rfl,rfl,ba⟩,θ⟩
 case i=>
  simp only[bl,reduceCtorEq]at h4;exact⟨(F.1+1,F.2),⟨ω,q_1.2.more (by simp_all) ω⟩,by simp only;omega,⟨by simp only;omega,rfl,rfl,ba⟩,θ⟩
def Aw:aL:=bP [.slice aB,.str] [.int .i64,.int .i64] (fun _=>True) (fun x=>eE x)
def af4:aW prog aE.eT aH 218 φ Aw:=
 aI (bO (X:=aH) (bK bJ) func218 κ (fun x=>Ri x.1 x.2) (fun x hw hp=>af3 x.1 x.2))
def Rj:List (FuncId×(Bool×aL)):=[(49,(φ,jD)),(50,(φ,fO)),(156,(φ,kG)),(83,(φ,jq)),(11,(φ,lk)),(218,(φ,Aw))]
def Yz:bH prog aE aH Rj:=
 aM kx (aM gA (aM lj (aM jE (aM lO (aM af4 (bK bJ))))))
end Go.Proofs.YtgokjhhcfemnhabGreatDoor

