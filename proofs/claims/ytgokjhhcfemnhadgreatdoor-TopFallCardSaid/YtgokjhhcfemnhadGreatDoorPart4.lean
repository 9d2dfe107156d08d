/- A part of the proof that the law TopFallCard holds of the given program: facts that are used there. -/
import Derived.Test.YtgokjhhcfemnhadGreatDoorPart3
import Derived.Test.YtgokjhhcfemnhadGreatDoorChecked
import Derived.Lib.LaidTab
import Derived.Lib.ItoaNum
import Derived.Shelf.Strconv.Itoa3
import Derived.Shelf.Strconv.AtoiAll
import Derived.Shelf.Strings.Split
import Derived.Shelf.Small.Wraps
import Derived.Shelf.Strings.Prefix
import Derived.Shelf.LaysM
import Derived.Shelf.LaysC
import Derived.Sort.Grow
import Derived.Lib.SplitLaws
import Derived.Lib.Builder
import Derived.Lib.UnsafeStr
import Derived.Lib.Strings
import Derived.Lib.Slices
import Derived.Lib.Walk
import Derived.Laws.Externs
import Derived.Deep.Heap
import Derived.Shelf.RegionOpenPlain
import Derived.RangeFuncLeaves
import Derived.Shelf.Abstract
import Derived.WalkKit
import Derived.OwnWalkIn
import Derived.TacticsInMore
import Derived.LoopNIn
import Derived.LoopIn
import Derived.BigRegionIn
import Derived.Deep.LoopGhost
import Derived.Deep.RegionLaw
import Derived.Lib.SliceRun
import Derived.Shelf.SlicesG.Delete
import Derived.Deep.Upon
set_option linter.unusedSimpArgs false
set_option linter.unusedVariables false
set_option maxRecDepth 100000
set_option maxHeartbeats 4000000
set_option linter.defProp false
noncomputable section
open True renaming intro->ba
open List renaming length->bb,nil->bc,take->bd,drop->bj,map->bo,length_append->bt,length_singleton->bw,length_cons->bx,length_map->bz,length_nil->b3,length_take->b5,replicate->ch,length_replicate->cp,range->cr,drop_zero->c6,set->c7,take_of_length_le->c8,any->da,length_eq_zero_iff->dk,length_eq_one_iff->dn,length_drop->dw,mem_of_getElem?->ef,length_set->en,range_succ->ep,take_zero->er
open Int renaming toNat->bf,fdiv->cf,tmod->db,le_refl->dh,one_mul->du,le_of_lt_add_one->dz,toNat_natCast->e0
open Prod renaming snd->bg,fst->bh
open Go.IntKind renaming wrap->bk,i64->bm,u64->bu,u8->cd,bits->cj
open Go.Lib renaming itoa->bp,countB->bq,trimSuffix->br,splitB->b8,trimPrefix->cb,cell_of_heap->cc,hasPrefix->cy,atoiAll->dc,frozen_of_heap->de,TabIs->di,pow10Tab->dj,atoiSat->dm,nDigits_small->dT,decDigits_length->ec,splitB_all->ed,splitB_data->ee,run_unsafeSliceData_row->ej
open Nat renaming le_trans->b4,zero_le->b7,le_refl->b9,min->cg,not_lt_zero->cu,add_zero->dp,lt_div_iff_mul_lt->eo
open UInt8 renaming toNat->b6
open BitVec renaming ofInt->ca,toNat->cq
open Option renaming isNone->ck,map_eq_some_iff->cz,map_some->eg
open Go.Builtin renaming zeroCells->cm,clear_->dx,unsafeSliceData_->ei,unsafeString_->ek
open Go.Value renaming string->cn
open Bool renaming noConfusion->ct,eq_iff_iff->dy
open Go.Shelf renaming Ren->cw
open ByteArray renaming size->dd
open Array renaming length_toList->df
open Go.Result renaming andThen->dq
open Go.Oper renaming upon_value->dr
open Go.Deep renaming nblk_setCell->ds,blk_setCell_other->dt
open And renaming intro->dv
open Go.World renaming shape?->eh,os_setCells->eu,output_setCells->ew,heap_setCells_other->ey
open Go.Proofs.Lays renaming n103->e5,n102->e9,n146->fa
open Go.Proofs.LaysM renaming n171->e7
open Go.Proofs.LaysC renaming n172->e8
open Go.Extern.AbiNoEscape renaming same->fb
namespace Go.Proofs.YtgokjhhcfemnhadGreatDoor
open Go.Vg
def Tryz.B:Cx:={eT:=94,τ:=[(2,(.int .i64)),(3,(.int .i64)),(4,.bool),(5,(.int .u8)),(7,(.prod (.int .i64) (.prod (.int .i64) (.prod .bool (.prod (.int .u8) .unit))))),(9,.str),(12,(.int .u64)),(13,(.prod .str (.prod (.int .u64) .unit))),(18,(.prod .gG .unit)),(21,(.int .i32)),(22,(.slice bT)),(23,.gG),(24,.gG),(25,.gG),(30,.err),(31,.err),(33,(.slice dG)),(36,(.slice .str)),(37,(.slice aB)),(40,(.slice (.int .i64))),(48,(.int .u64)),(50,(.slice aG)),(51,(.slice aR)),(52,aC),(53,aC),(54,bT),(55,bT),(66,.gG),(74,(.prod .gG (.prod .gG .unit))),(75,(.prod .gG (.prod .gG .unit))),(81,(.slice aS)),(82,(.slice bD)),(83,aB),(84,aB),(88,(.prod .str (.prod (.int .i64) .unit))),(89,(.prod .str (.prod (.int .i64) .unit))),(91,.gG),(92,(.prod .gG (.prod (.int .i64) .unit))),(93,(.prod .gG (.prod (.int .i64) .unit))),(94,(.int .i64)),(96,(.slice fG)),(97,UP),(98,UP),(99,fG),(100,fG),(107,dG),(108,dG),(112,aG),(113,aG),(114,(.slice aC)),(116,(.prod .gG (.prod (.int .i64) (.prod (.slice aC) .unit)))),(117,(.prod .gG (.prod (.int .i64) (.prod (.slice aC) .unit)))),(138,(.slice (.slice (.int .i64)))),(148,aR),(149,aR),(157,(.slice (.int .u8))),(162,aS),(163,aS),(164,bD),(165,bD),(168,(.prod .gG (.prod (.slice (.int .u8)) .unit))),(169,(.prod .gG (.prod (.slice (.int .u8)) .unit))),(175,(.int .u64)),(179,(.slice aZ)),(180,aZ),(181,aZ),(197,(.int .u32)),(214,(.int .i64)),(227,(.prod (.int .u8) (.prod (.int .u8) .unit))),(228,(.prod (.int .u8) (.prod (.int .u8) .unit))),(233,(.prod .str (.prod .str (.prod .err .unit)))),(234,(.prod .str (.prod .str (.prod .err .unit)))),(242,(.prod .str .unit)),(243,(.prod .str .unit))],Ap:=[(221,(24,5)),(226,(256,5)),(229,(16,228)),(236,(20,48)),(237,(65,5)),(245,(32,5)),(246,(64,5)),(249,(0,16))],Γ:=[],N:=0,eqs:=[],oK:=[25,66,167],qE:=[(91,(9,89))],sG:=[(169,5)]}
def Tryz.bQ:TyOK Tryz.prog Tryz.B:=Vq (n:=16) (by kernel_rfl)
structure Tryz.W6 (w:World):Prop where
 pow:di Tryz.prog w "internal/strconv.uint64pow10" .u64 dj
 max:∃m,w.cell? ⟨0,0,none⟩=some (.int .i64 m)
 XU:∃ev,w.cell? ⟨3,0,none⟩=some ev/\(ev=.nilIface\/∃te pe,ev=.iface te pe)
 XV:∃ev,w.cell? ⟨4,0,none⟩=some ev/\(ev=.nilIface\/∃te pe,ev=.iface te pe)
def Tryz.W7:Tryz.prog.globalNamed "internal/strconv.uint64pow10" =some 5:=by kernel_rfl
def yL{w:World}{b o:Nat}{v:Value}(h:w.cell? ⟨b,o,none⟩=some v):b<w.heap.size:=by
 unfold World.cell? at h;by_cases hb:b<w.heap.size
 ·exact hb
 ·have h0:w.heap[b]?=none:=Array.getElem?_eq_none (by omega)
  simp[h0]at h
def vS{w w':World}{b o:Nat}(h:w'.heap[b]?=w.heap[b]?):w'.cell? ⟨b,o,none⟩=w.cell? ⟨b,o,none⟩:=by
 unfold World.cell?;rw[h]
def Rf{P:Program}{w w':World}{nm:String}{g:Nat}(hg:P.globalNamed nm=some g)(h:w'.heap[g]?=w.heap[g]?):w'.var? P nm=w.var? P nm:=by
 unfold World.var?;rw[hg];simp[h]
def Tryz.X:Ext:=
 {Xs with
  wm:=Tryz.W6
  D6:=[5,0,3,4]
  GJ:=fun{w} h b hb=>by
   obtain⟨h1,⟨m,h2⟩,⟨e3,h3,_⟩,⟨e4,h4,_⟩⟩:=h;simp only[List.mem_cons,List.not_mem_nil,or_false]at hb;rcases hb with rfl|rfl|rfl|rfl
   ·have h1':=World.var?_cell Tryz.W7 h1 0
    exact yL (v:=.int .u64 1) (by simpa[dj]using h1')
   ·exact yL h2
   ·exact yL h3
   ·exact yL h4
  Bz:=fun{w w'} h hb=>by
   obtain⟨h1,⟨m,h2⟩,⟨e3,h3,h5⟩,⟨e4,h4,h6⟩⟩:=h;refine⟨?_,⟨m,?_⟩,⟨e3,?_,h5⟩,⟨e4,?_,h6⟩⟩
   ·unfold di at h1 ⊢
    rw[Rf Tryz.W7 (hb 5 (by simp))];exact h1
   ·rw[vS (hb 0 (by simp))];exact h2
   ·rw[vS (hb 3 (by simp))];exact h3
   ·rw[vS (hb 4 (by simp))];exact h4}
end Go.Proofs.YtgokjhhcfemnhadGreatDoor

namespace Go.Proofs.YtgokjhhcfemnhadGreatDoor
open Go.Vg Go.Mrl
def I8(s:List UInt8):dX:=[(0,fun st=>{X:=Nat,inv:=fun i=>i<=s.length/\∀j,j<i->ko j (dW s j)=false,cB:=fun i=>s.length-i,bM:=fun i=>[(15,.s (.one (.d (.int .i64) i)))],aF:=fun _=>[],keep:=[0,14],gU:=[]})]
def T4(s:List UInt8)(hw:gM [.str] s):(dL Tryz.B [] Tryz.f45 (I8 s) [.str] [.err] (fun x y=>y=(fun s=>aI (aP s)) x) s).holds:=by
 refine holds_of (p:=
  let za:=aI (aP s)
  let zb:=aK.no 1=za
  let zc:=bb s
  let zd:=fun(F:Nat)=>(↑(b6 (dW s F)):Int)
  let ze:=aK.no 3=za
  let zf:=fun(F:Nat)=>aJ (↑F:Int)->aJ 1->aJ ((↑F:Int)+1)/\∃(x':Nat),(x'<=zc/\∀(j:Nat),j<x'->ko j (dW s j)=false)/\zc-x'<zc-F/\((↑F:Int)+1=(↑x':Int)/\True)/\True
  let zg:=fun(F:Nat)=>((zd F != 95)=true->ze)/\((zd F != 95)=false->zf F)
  let zh:=fun(F:Nat)=>(((↑F:Int) == 0)=true->ze)/\(((↑F:Int) == 0)=false->((decide (zd F<48))=true->zg F)/\((decide (zd F<48))=false->((decide (zd F > 57))=true->zg F)/\((decide (zd F > 57))=false->zf F)))
  ((s == @bc UInt8)=true->zb)/\((s == @bc UInt8)=false->zc<=aM->((decide ((↑zc:Int) > 8))=true->zb)/\((decide ((↑zc:Int) > 8))=false->zc<=aM->(∃(x:Nat),(x<=zc/\∀(j:Nat),j<x->ko j (dW s j)=false)/\(0=(↑x:Int)/\True)/\True)/\∀F:Nat,(F<=zc/\∀(j:Nat),j<F->ko j (dW s j)=false)->((decide ((↑F:Int)<(↑zc:Int)))=true->(0<=(↑F:Int)/\(↑F:Int)<(↑zc:Int))/\((decide (zd F<97))=true->zh F)/\((decide (zd F<97))=false->((decide (zd F > 122))=true->zh F)/\((decide (zd F > 122))=false->zf F)))/\((decide ((↑F:Int)<(↑zc:Int)))=false->aK.nil=za)))) (by kernel_rfl) ?_
 dsimp -iota -proj -eta only;refine iQ (fun h0 =>?a) (fun h0 h1=>iL (fun h2 =>?b) (fun h2 h3=>⟨(⟨0,⟨by omega,fun j hj=>by omega⟩,⟨rfl,ba⟩,ba⟩),fun F q_0=>iL (fun h4=>⟨?c,iL (fun h5=>iQ (fun h6 =>?d) (fun h6=>iL (fun h7=>iN (fun h8 =>?e) (fun h8 h9 h10=>⟨?f,?g⟩)) (fun h7=>iL (fun h8=>iN (fun h9 =>?h) (fun h9 h10 h11=>⟨?i,?j⟩)) (fun h8 h9 h10=>⟨?k,?l⟩)))) (fun h5=>iL (fun h6=>iQ (fun h7 =>?m) (fun h7=>iL (fun h8=>iN (fun h9 =>?n) (fun h9 h10 h11=>⟨?o,?p⟩)) (fun h8=>iL (fun h9=>iN (fun h10 =>?q) (fun h10 h11 h12=>⟨?r,?s⟩)) (fun h9 h10 h11=>⟨?t,?u⟩)))) (fun h6 h7 h8=>⟨?v,?w⟩))⟩) (fun h4 =>?x)⟩))
 case a|b=>rw[Gh (by first|omega|simp[h0])];rfl
 case c|f|o|r|t=>omega
 case d|e|h|m|n|q=>
  have hl:s.length≠0:=fun e=>h0 (dk.1 e)
  rw[Cd (i:=F) (by omega) (by omega) (EE.2 (by omega))];rfl
 case g|j|l|p|s|u|w=>exact⟨F+1,⟨by omega,SW q_0.2 (Kb.2 (by omega))⟩,by omega,⟨by omega,ba⟩,ba⟩
 case i|k|v=>simp only[aJ,aM]at*;omega
 case x=>
  have hl:s.length≠0:=fun e=>h0 (dk.1 e)
  rw[Dy (by omega) (fun i hi=>q_0.2 i (by omega))];rfl
def Tryz.jt:bW Tryz.prog Tryz.B.eT Tryz.X 45 [.str] [.err] (fun _=>True) (fun x y=>y=(fun s=>aI (aP s)) x):=
 cD (X:=Tryz.X) (bR Tryz.bQ) Tryz.func45 (by kernel_rfl) (fun x=>I8 x) (fun x hw hp=>T4 x hw)
def Rg(e:aK)(hw:gM [.err] e):(dL Tryz.B [] Tryz.f17 [] [.err] [.int .i64] (fun x y=>y=(fun e=>jq e) x) e).holds:=by
 refine holds_of (p:=
  ((aK.isNil e)=true->0=jq e)/\((aK.isNil e)=false->((!aK.Ml e)=true->(-1:Int)=jq e)/\((!aK.Ml e)=false->aK.num e=jq e))) (by kernel_rfl) ?_
 refine⟨fun h0 =>?a,fun h0=>iB (fun h1 =>?b) (fun h1 =>?c)⟩
 case a|b|c=>cases e <;> simp_all [aK.isNil,aK.Ml,aK.num,jq]
def Tryz.iw:bW Tryz.prog Tryz.B.eT Tryz.X 17 [.err] [.int .i64] (fun _=>True) (fun x y=>y=(fun e=>jq e) x):=
 cD (X:=Tryz.X) (bR Tryz.bQ) Tryz.func17 (by kernel_rfl) (fun _=>[]) (fun x hw hp=>Rg x hw)
def Tryz.spZ0:Bool×aT:=(true,cC [.str] [.err] (fun _=>True) (fun s=>aI (aP s)))
def Tryz.spZ1:Bool×aT:=(true,cC [.err] [.int .i64] (fun _=>True) (fun e=>jq e))
def Tryz.LS:List (FuncId×(Bool×aT)):=[(45,Tryz.spZ0),(17,Tryz.spZ1)]
def Tryz.Rh:bP Tryz.prog Tryz.B Tryz.X Tryz.LS:=
 aO (aE Tryz.jt) (aO (aE Tryz.iw) (bR Tryz.bQ))
def LU(e:D aC):dX:=[
 (0,fun st=>{X:=Nat,inv:=fun i=>i<=bb e.2.1/\∀j,j<i->eM (nth aG e.2.1 j)=0,cB:=fun i=>bb e.2.1-i,bM:=fun i=>[(34,sI i)],keep:=[1,32,33]}),
 (2,fun st=>{X:=Nat,inv:=fun i=>i<=bb e.2.2.1/\∀j,j<i->eR e.2.1.length (nth aR e.2.2.1 j)=0,cB:=fun i=>bb e.2.2.1-i,bM:=fun i=>[(73,sI i)],keep:=[1,71,72]})]
def Ri(e:D aC)(hw:gM [aC] e):(dL Tryz.B Tryz.LS Tryz.f46 (LU e) [aC] [.err] (fun x y=>y=(fun e=>aI (bC e)) x) e).holds:=by
 refine holds_of (p:=
  let za:=aI (aP e.1)
  let zb:=aI (bC e)
  let zc:=e.2.1
  let zd:=bb zc
  let ze:=zd<=aM
  let zf:=(↑zd:Int)
  let zg:=aK.no (2:Int)=zb
  let zh:=e.2.2.1
  let zi:=bb zh
  let zj:=fun(F:Nat)=>aI (aP (nth aG zc F).1)
  let zk:=aK.no (1:Int)=zb
  let zl:=fun(F:Nat)=>(nth aG zc F).2.2.1
  let zm:=fun(F:Nat)=>(↑F:Int)+(1:Int)
  let zn:=(e.1=e.1/\zc=zc/\zh=zh/\True)/\True
  True/\((!aK.isNil za)=true->za=zb)/\((!aK.isNil za)=false->ze->((decide (zf<(1:Int)))=true->zg)/\((decide (zf<(1:Int)))=false->ze->((decide (zf > (6:Int)))=true->zg)/\((decide (zf > (6:Int)))=false->zi<=aM->((decide ((↑zi:Int) > (36:Int)))=true->zg)/\((decide ((↑zi:Int) > (36:Int)))=false->ze->(∃(x:Nat),(x<=zd/\∀(j:Nat),j<x->eM (nth aG zc j)=(0:Int))/\((0:Int)=(↑x:Int)/\True)/\True)/\∀F:Nat,(F<=zd/\∀(j:Nat),j<F->eM (nth aG zc j)=(0:Int))->((decide ((↑F:Int)<zf))=true->((0:Int)<=(↑F:Int)/\(↑F:Int)<zf)/\True/\((!aK.isNil (zj F))=true->zj F=zb)/\((!aK.isNil (zj F))=false->((decide ((nth aG zc F).2.1<(1:Int)))=true->zk)/\((decide ((nth aG zc F).2.1<(1:Int)))=false->((decide ((nth aG zc F).2.1 > (1000000:Int)))=true->zk)/\((decide ((nth aG zc F).2.1 > (1000000:Int)))=false->((decide (zl F<(0:Int)))=true->zk)/\((decide (zl F<(0:Int)))=false->((decide (zl F>=(256:Int)))=true->zk)/\((decide (zl F>=(256:Int)))=false->(16:Int)≠(0:Int)/\∀G:Int,G=db (zl F) (16:Int)->((G != (0:Int))=true->zk)/\((G != (0:Int))=false->aJ (↑F:Int)->aJ (1:Int)->aJ (zm F)/\∃(x':Nat),(x'<=zd/\∀(j:Nat),j<x'->eM (nth aG zc j)=(0:Int))/\zd-x'<zd-F/\(zm F=(↑x':Int)/\True)/\zn)))))))/\((decide ((↑F:Int)<zf))=false->zi<=aM->(∃(x:Nat),(x<=zi/\∀(j:Nat),j<x->eR zd (nth aR zh j)=(0:Int))/\((0:Int)=(↑x:Int)/\True)/\True)/\∀G:Nat,(G<=zi/\∀(j:Nat),j<G->eR zd (nth aR zh j)=(0:Int))->((decide ((↑G:Int)<(↑zi:Int)))=true->((0:Int)<=(↑G:Int)/\(↑G:Int)<(↑zi:Int))/\((decide ((nth aR zh G).1<(0:Int)))=true->zk)/\((decide ((nth aR zh G).1<(0:Int)))=false->ze->((decide ((nth aR zh G).1>=zf))=true->zk)/\((decide ((nth aR zh G).1>=zf))=false->((decide ((nth aR zh G).2.1<(0:Int)))=true->zk)/\((decide ((nth aR zh G).2.1<(0:Int)))=false->((decide ((nth aR zh G).2.1>=(40:Int)))=true->zk)/\((decide ((nth aR zh G).2.1>=(40:Int)))=false->((decide ((nth aR zh G).2.2.1<(-2147483648:Int)))=true->zk)/\((decide ((nth aR zh G).2.2.1<(-2147483648:Int)))=false->((decide ((nth aR zh G).2.2.1 > (2147483647:Int)))=true->zk)/\((decide ((nth aR zh G).2.2.1 > (2147483647:Int)))=false->aJ (↑G:Int)->aJ (1:Int)->aJ (zm G)/\∃(x':Nat),(x'<=zi/\∀(j:Nat),j<x'->eR zd (nth aR zh j)=(0:Int))/\zi-x'<zi-G/\(zm G=(↑x':Int)/\True)/\zn)))))))/\((decide ((↑G:Int)<(↑zi:Int)))=false->aK.nil=zb))))))) (by kernel_rfl) ?_
 dsimp -iota -proj -eta only;refine⟨ba,iB (fun h0=>(by rw[zV (nf (fA _) h0)])) (fun h0 h1=>iL (fun h2=>(by rw[qA (dI (by assumption:(aI (aP e.1)).isNil=true)) (.inl (by omega))];rfl)) (fun h2 h3=>iL (fun h4=>(by rw[qA (dI (by assumption:(aI (aP e.1)).isNil=true)) (.inr (.inl (by omega)))];rfl)) (fun h4 h5=>iL (fun h6=>(by rw[qA (dI (by assumption:(aI (aP e.1)).isNil=true)) (.inr (.inr (by omega)))];rfl)) (fun h6 h7=>⟨?a,fun F q_0=>iL (fun h8=>⟨?b,ba,iB (fun h9=>(by have hp:=nf (fA _) h9;rw[(jE (dI (by assumption:(aI (aP e.1)).isNil=true)) (iS (by omega) (by omega) (by omega)) q_0.2 (by omega) (NF hp) (by omega))])) (fun h9=>iL (fun h10=>(by rw[(jE (dI (by assumption:(aI (aP e.1)).isNil=true)) (iS (by omega) (by omega) (by omega)) q_0.2 (by omega) (qQ (dI h9) (.inl ‹_›)) (by decide))];rfl)) (fun h10=>iL (fun h11=>(by rw[(jE (dI (by assumption:(aI (aP e.1)).isNil=true)) (iS (by omega) (by omega) (by omega)) q_0.2 (by omega) (qQ (dI h9) (.inr (.inl ‹_›))) (by decide))];rfl)) (fun h11=>iL (fun h12=>(by rw[(jE (dI (by assumption:(aI (aP e.1)).isNil=true)) (iS (by omega) (by omega) (by omega)) q_0.2 (by omega) (qQ (dI h9) (.inr (.inr (.inl ‹_›)))) (by decide))];rfl)) (fun h12=>iE (fun h13=>(by rw[(jE (dI (by assumption:(aI (aP e.1)).isNil=true)) (iS (by omega) (by omega) (by omega)) q_0.2 (by omega) (qQ (dI h9) (.inr (.inr (.inr (.inl ‹_›))))) (by decide))];rfl)) (fun h13=>⟨(by trivial),fun G q_1=>iN (fun h14=>(by have hb:=Im h12 q_1;rw[(jE (dI (by assumption:(aI (aP e.1)).isNil=true)) (iS (by omega) (by omega) (by omega)) q_0.2 (by omega) (qQ (dI h9) (.inr (.inr (.inr (.inr (by rw[hb]at h14;exact(Int.lt_iff_le_and_ne.2 ⟨Int.emod_nonneg _ (by decide),fun e'=>h14 e'.symm⟩))))))) (by decide))];rfl)) (fun h14 h15 h16=>⟨?c,(by have hb:=Im h12 q_1;exact⟨F+1,⟨by omega,lY q_0.2 (Il (dI h9) h10 h11 h12 (dz (show _<(255:Int)+1 from h13)) (hb.symm.trans h14))⟩,by omega,⟨by omega,ba⟩,(by trivial)⟩)⟩)⟩)))))⟩) (fun h8 h9=>⟨?d,fun G q_1=>iL (fun h10=>⟨?e,iL (fun h11=>(by rw[(jG (dI (by assumption:(aI (aP e.1)).isNil=true)) (iS (by omega) (by omega) (by omega)) (fun j hj=>q_0.2 j (by omega)) q_1.2 (by omega) (o4 (.inl ‹_›)))];rfl)) (fun h11 h12=>iE (fun h13=>(by rw[(jG (dI (by assumption:(aI (aP e.1)).isNil=true)) (iS (by omega) (by omega) (by omega)) (fun j hj=>q_0.2 j (by omega)) q_1.2 (by omega) (o4 (.inr (.inl ‹_›))))];rfl)) (fun h13=>iL (fun h14=>(by rw[(jG (dI (by assumption:(aI (aP e.1)).isNil=true)) (iS (by omega) (by omega) (by omega)) (fun j hj=>q_0.2 j (by omega)) q_1.2 (by omega) (o4 (.inr (.inr (.inl ‹_›)))))];rfl)) (fun h14=>iE (fun h15=>(by rw[(jG (dI (by assumption:(aI (aP e.1)).isNil=true)) (iS (by omega) (by omega) (by omega)) (fun j hj=>q_0.2 j (by omega)) q_1.2 (by omega) (o4 (.inr (.inr (.inr (.inl ‹_›))))))];rfl)) (fun h15=>iL (fun h16=>(by rw[(jG (dI (by assumption:(aI (aP e.1)).isNil=true)) (iS (by omega) (by omega) (by omega)) (fun j hj=>q_0.2 j (by omega)) q_1.2 (by omega) (o4 (.inr (.inr (.inr (.inr (.inl ‹_›)))))))];rfl)) (fun h16=>iL (fun h17=>(by rw[(jG (dI (by assumption:(aI (aP e.1)).isNil=true)) (iS (by omega) (by omega) (by omega)) (fun j hj=>q_0.2 j (by omega)) q_1.2 (by omega) (o4 (.inr (.inr (.inr (.inr (.inr ‹_›)))))))];rfl)) (fun h17 h18 h19=>⟨?f,(⟨G+1,⟨by omega,lY q_1.2 (CB ‹_› ‹_› ‹_› (dz (show _<(39:Int)+1 from h15)) ‹_› ‹_›)⟩,by omega,⟨by omega,ba⟩,(by trivial)⟩)⟩))))))⟩) (fun h10=>(by rw[E7 (dI (by assumption:(aI (aP e.1)).isNil=true)) (iS (by omega) (by omega) (by omega)) (fun j hj=>q_0.2 j (by omega)) (fun j hj=>q_1.2 j (by omega))];rfl))⟩)⟩))))⟩
 case a|d=>exact⟨0,⟨b7 _,fun j hj=>absurd hj (cu _)⟩,⟨rfl,ba⟩,ba⟩
 case b|e=>omega
 case c|f=>simp only[aJ,aM]at*;omega
def Tryz.FB:bW Tryz.prog Tryz.B.eT Tryz.X 46 [aC] [.err] (fun _=>True) (fun x y=>y=(fun e=>aI (bC e)) x):=
 cD (X:=Tryz.X) Tryz.Rh Tryz.func46 (by kernel_rfl) (fun x=>LU x) (fun x hw hp=>Ri x hw)
end Go.Proofs.YtgokjhhcfemnhadGreatDoor

namespace Go.Proofs.YtgokjhhcfemnhadGreatDoor
open Go.Shelf
def Tryz.KG:cw:=⟨fun|103=>81|210=>102|206=>119|n=>n,fun|9=>9|4=>4|24=>159|3=>3|n=>n,fun|n=>n⟩
def Tryz.VX:e5 Tryz.prog Tryz.KG:={
 mixed:=by kernel_rfl
 f103:=Tryz.func81.trans (congrArg some (by kernel_rfl))
 f206:=Tryz.func119.trans (congrArg some (by kernel_rfl))
 f210:=Tryz.func102.trans (congrArg some (by kernel_rfl))
 t3:=Tryz.underlying3
 a3:=Tryz.isAgg3
 z3:=Tryz.sizeOf3
 v3:=Tryz.zeroValue3
 t4:=Tryz.underlying4
 a4:=Tryz.isAgg4
 z4:=Tryz.sizeOf4
 v4:=Tryz.zeroValue4
 t9:=Tryz.underlying9
 a9:=Tryz.isAgg9
 z9:=Tryz.sizeOf9
 v9:=Tryz.zeroValue9
 t24:=Tryz.underlying159
 a24:=Tryz.isAgg159
 z24:=Tryz.sizeOf159
 v24:=Tryz.zeroValue159}
open Go.RowKit in
def Tryz.strings_CutPrefix(s p:ByteArray)(w:World) :
  Calls Tryz.prog 81 #[.string s,.string p] w fun e w'=>e=.returned (.tuple #[.string ⟨(cb s.data.toList p.data.toList).toArray⟩,.bool (cy s.data.toList p.data.toList)])/\w'=w:=Any.strings_CutPrefix Tryz.VX s p w
def Tryz.I9:cw:=⟨fun|171=>84|243=>107|246=>124|283=>139|284=>140|285=>141|286=>142|129=>149|317=>148|318=>150|319=>151|320=>152|337=>155|338=>156|n=>n,fun|3=>3|9=>9|2=>2|4=>4|171=>221|0=>0|53=>48|37=>157|5=>5|173=>224|212=>236|51=>197|20=>20|213=>237|46=>175|232=>245|233=>246|n=>n,fun|17=>5|18=>6|19=>7|n=>n⟩
def Tryz.T5:e7 Tryz.prog Tryz.I9:={
 mixed:=by kernel_rfl
 f129:=Tryz.func149.trans (congrArg some (by kernel_rfl))
 f171:=Tryz.func84.trans (congrArg some (by kernel_rfl))
 f243:=Tryz.func107.trans (congrArg some (by kernel_rfl))
 f246:=Tryz.func124.trans (congrArg some (by kernel_rfl))
 f283:=Tryz.func139.trans (congrArg some (by kernel_rfl))
 f284:=Tryz.func140.trans (congrArg some (by kernel_rfl))
 f285:=Tryz.func141.trans (congrArg some (by kernel_rfl))
 f286:=Tryz.func142.trans (congrArg some (by kernel_rfl))
 f317:=Tryz.func148.trans (congrArg some (by kernel_rfl))
 f318:=Tryz.func150.trans (congrArg some (by kernel_rfl))
 f319:=Tryz.func151.trans (congrArg some (by kernel_rfl))
 f320:=Tryz.func152.trans (congrArg some (by kernel_rfl))
 f337:=Tryz.func155.trans (congrArg some (by kernel_rfl))
 f338:=Tryz.func156.trans (congrArg some (by kernel_rfl))
 t0:=Tryz.underlying0
 a0:=Tryz.isAgg0
 z0:=Tryz.sizeOf0
 v0:=Tryz.zeroValue0
 t2:=Tryz.underlying2
 a2:=Tryz.isAgg2
 z2:=Tryz.sizeOf2
 v2:=Tryz.zeroValue2
 t3:=Tryz.underlying3
 a3:=Tryz.isAgg3
 z3:=Tryz.sizeOf3
 v3:=Tryz.zeroValue3
 t4:=Tryz.underlying4
 a4:=Tryz.isAgg4
 z4:=Tryz.sizeOf4
 v4:=Tryz.zeroValue4
 t5:=Tryz.underlying5
 a5:=Tryz.isAgg5
 z5:=Tryz.sizeOf5
 v5:=Tryz.zeroValue5
 t9:=Tryz.underlying9
 a9:=Tryz.isAgg9
 z9:=Tryz.sizeOf9
 v9:=Tryz.zeroValue9
 t20:=Tryz.underlying20
 a20:=Tryz.isAgg20
 z20:=Tryz.sizeOf20
 v20:=Tryz.zeroValue20
 t37:=Tryz.underlying157
 a37:=Tryz.isAgg157
 z37:=Tryz.sizeOf157
 v37:=Tryz.zeroValue157
 t46:=Tryz.underlying175
 a46:=Tryz.isAgg175
 z46:=Tryz.sizeOf175
 v46:=Tryz.zeroValue175
 t51:=Tryz.underlying197
 a51:=Tryz.isAgg197
 z51:=Tryz.sizeOf197
 v51:=Tryz.zeroValue197
 t53:=Tryz.underlying48
 a53:=Tryz.isAgg48
 z53:=Tryz.sizeOf48
 v53:=Tryz.zeroValue48
 t171:=Tryz.underlying221
 a171:=Tryz.isAgg221
 z171:=Tryz.sizeOf221
 v171:=Tryz.zeroValue221
 t173:=Tryz.underlying224
 a173:=Tryz.isAgg224
 z173:=Tryz.sizeOf224
 v173:=Tryz.zeroValue224
 t212:=Tryz.underlying236
 a212:=Tryz.isAgg236
 z212:=Tryz.sizeOf236
 v212:=Tryz.zeroValue236
 t213:=Tryz.underlying237
 a213:=Tryz.isAgg237
 z213:=Tryz.sizeOf237
 t232:=Tryz.underlying245
 a232:=Tryz.isAgg245
 z232:=Tryz.sizeOf245
 v232:=Tryz.zeroValue245
 t233:=Tryz.underlying246
 a233:=Tryz.isAgg246
 z233:=Tryz.sizeOf246
 v233:=Tryz.zeroValue246
 g17:=by kernel_rfl
 g18:=by kernel_rfl
 g19:=by kernel_rfl
 i0:=by kernel_rfl
 i2:=by kernel_rfl
 i3:=by kernel_rfl
 i4:=by kernel_rfl
 i5:=by kernel_rfl
 i9:=by kernel_rfl
 i20:=by kernel_rfl
 i37:=by kernel_rfl
 i46:=by kernel_rfl
 i51:=by kernel_rfl
 i53:=by kernel_rfl
 i171:=by kernel_rfl
 i173:=by kernel_rfl
 i212:=by kernel_rfl
 i232:=by kernel_rfl
 i233:=by kernel_rfl
 m17:=by kernel_rfl
 m18:=by kernel_rfl
 m19:=by kernel_rfl}
open Go.RowKit Go.Sort Go.Lib in
def Tryz.strconv_Itoa(n:Int)(h0 : -9223372036854775808<=n)(h1:n<=9223372036854775807)(w:World)(htab:di Tryz.prog w "internal/strconv.uint64pow10" .u64 dj) :
  Calls Tryz.prog 84 #[.int .i64 n] w fun e w'=>e=.returned (.string ⟨(bp n).toArray⟩)/\∃k os,w'=grow (w.drewN k) os:=Any.strconv_Itoa Tryz.T5 n h0 h1 w htab
def Tryz.Ja:cw:=⟨fun|172=>103|244=>120|245=>121|247=>133|279=>134|280=>135|281=>136|282=>137|287=>145|316=>146|171=>84|205=>147|321=>153|322=>154|243=>107|246=>124|283=>139|284=>140|285=>141|286=>142|129=>149|317=>148|318=>150|319=>151|320=>152|337=>155|338=>156|n=>n,fun|9=>9|3=>3|75=>31|76=>171|4=>4|5=>5|167=>214|37=>157|0=>0|85=>215|2=>2|168=>217|53=>48|175=>231|46=>175|210=>234|127=>192|145=>243|143=>241|21=>21|171=>221|173=>224|212=>236|51=>197|20=>20|213=>237|232=>245|233=>246|80=>174|n=>n,fun|15=>3|16=>4|17=>5|18=>6|19=>7|n=>n⟩
def Tryz.Bi:e8 Tryz.prog Tryz.Ja:={
 mixed:=by kernel_rfl
 f129:=Tryz.func149.trans (congrArg some (by kernel_rfl))
 f171:=Tryz.func84.trans (congrArg some (by kernel_rfl))
 f172:=Tryz.func103.trans (congrArg some (by kernel_rfl))
 f205:=Tryz.func147.trans (congrArg some (by kernel_rfl))
 f243:=Tryz.func107.trans (congrArg some (by kernel_rfl))
 f244:=Tryz.func120.trans (congrArg some (by kernel_rfl))
 f245:=Tryz.func121.trans (congrArg some (by kernel_rfl))
 f246:=Tryz.func124.trans (congrArg some (by kernel_rfl))
 f247:=Tryz.func133.trans (congrArg some (by kernel_rfl))
 f279:=Tryz.func134.trans (congrArg some (by kernel_rfl))
 f280:=Tryz.func135.trans (congrArg some (by kernel_rfl))
 f281:=Tryz.func136.trans (congrArg some (by kernel_rfl))
 f282:=Tryz.func137.trans (congrArg some (by kernel_rfl))
 f283:=Tryz.func139.trans (congrArg some (by kernel_rfl))
 f284:=Tryz.func140.trans (congrArg some (by kernel_rfl))
 f285:=Tryz.func141.trans (congrArg some (by kernel_rfl))
 f286:=Tryz.func142.trans (congrArg some (by kernel_rfl))
 f287:=Tryz.func145.trans (congrArg some (by kernel_rfl))
 f316:=Tryz.func146.trans (congrArg some (by kernel_rfl))
 f317:=Tryz.func148.trans (congrArg some (by kernel_rfl))
 f318:=Tryz.func150.trans (congrArg some (by kernel_rfl))
 f319:=Tryz.func151.trans (congrArg some (by kernel_rfl))
 f320:=Tryz.func152.trans (congrArg some (by kernel_rfl))
 f321:=Tryz.func153.trans (congrArg some (by kernel_rfl))
 f322:=Tryz.func154.trans (congrArg some (by kernel_rfl))
 f337:=Tryz.func155.trans (congrArg some (by kernel_rfl))
 f338:=Tryz.func156.trans (congrArg some (by kernel_rfl))
 t0:=Tryz.underlying0
 a0:=Tryz.isAgg0
 z0:=Tryz.sizeOf0
 v0:=Tryz.zeroValue0
 t2:=Tryz.underlying2
 a2:=Tryz.isAgg2
 z2:=Tryz.sizeOf2
 v2:=Tryz.zeroValue2
 t3:=Tryz.underlying3
 a3:=Tryz.isAgg3
 z3:=Tryz.sizeOf3
 v3:=Tryz.zeroValue3
 t4:=Tryz.underlying4
 a4:=Tryz.isAgg4
 z4:=Tryz.sizeOf4
 v4:=Tryz.zeroValue4
 t5:=Tryz.underlying5
 a5:=Tryz.isAgg5
 z5:=Tryz.sizeOf5
 v5:=Tryz.zeroValue5
 t9:=Tryz.underlying9
 a9:=Tryz.isAgg9
 z9:=Tryz.sizeOf9
 v9:=Tryz.zeroValue9
 t20:=Tryz.underlying20
 a20:=Tryz.isAgg20
 z20:=Tryz.sizeOf20
 v20:=Tryz.zeroValue20
 t21:=Tryz.underlying21
 a21:=Tryz.isAgg21
 z21:=Tryz.sizeOf21
 v21:=Tryz.zeroValue21
 t37:=Tryz.underlying157
 a37:=Tryz.isAgg157
 z37:=Tryz.sizeOf157
 v37:=Tryz.zeroValue157
 t46:=Tryz.underlying175
 a46:=Tryz.isAgg175
 z46:=Tryz.sizeOf175
 v46:=Tryz.zeroValue175
 t51:=Tryz.underlying197
 a51:=Tryz.isAgg197
 z51:=Tryz.sizeOf197
 v51:=Tryz.zeroValue197
 t53:=Tryz.underlying48
 a53:=Tryz.isAgg48
 z53:=Tryz.sizeOf48
 v53:=Tryz.zeroValue48
 t75:=Tryz.underlying31
 a75:=Tryz.isAgg31
 z75:=Tryz.sizeOf31
 v75:=Tryz.zeroValue31
 t76:=Tryz.underlying171
 a76:=Tryz.isAgg171
 z76:=Tryz.sizeOf171
 v76:=Tryz.zeroValue171
 t85:=Tryz.underlying215
 a85:=Tryz.isAgg215
 z85:=Tryz.sizeOf215
 v85:=Tryz.zeroValue215
 t127:=Tryz.underlying192
 a127:=Tryz.isAgg192
 z127:=Tryz.sizeOf192
 v127:=Tryz.zeroValue192
 t143:=Tryz.underlying241
 a143:=Tryz.isAgg241
 z143:=Tryz.sizeOf241
 v143:=Tryz.zeroValue241
 t145:=Tryz.underlying243
 a145:=Tryz.isAgg243
 z145:=Tryz.sizeOf243
 v145:=Tryz.zeroValue243
 t167:=Tryz.underlying214
 a167:=Tryz.isAgg214
 z167:=Tryz.sizeOf214
 v167:=Tryz.zeroValue214
 t168:=Tryz.underlying217
 a168:=Tryz.isAgg217
 z168:=Tryz.sizeOf217
 v168:=Tryz.zeroValue217
 t171:=Tryz.underlying221
 a171:=Tryz.isAgg221
 z171:=Tryz.sizeOf221
 v171:=Tryz.zeroValue221
 t173:=Tryz.underlying224
 a173:=Tryz.isAgg224
 z173:=Tryz.sizeOf224
 v173:=Tryz.zeroValue224
 t175:=Tryz.underlying231
 a175:=Tryz.isAgg231
 z175:=Tryz.sizeOf231
 v175:=Tryz.zeroValue231
 t210:=Tryz.underlying234
 a210:=Tryz.isAgg234
 z210:=Tryz.sizeOf234
 v210:=Tryz.zeroValue234
 t212:=Tryz.underlying236
 a212:=Tryz.isAgg236
 z212:=Tryz.sizeOf236
 v212:=Tryz.zeroValue236
 t213:=Tryz.underlying237
 a213:=Tryz.isAgg237
 z213:=Tryz.sizeOf237
 t232:=Tryz.underlying245
 a232:=Tryz.isAgg245
 z232:=Tryz.sizeOf245
 v232:=Tryz.zeroValue245
 t233:=Tryz.underlying246
 a233:=Tryz.isAgg246
 z233:=Tryz.sizeOf246
 v233:=Tryz.zeroValue246
 g15:=by kernel_rfl
 g16:=by kernel_rfl
 g17:=by kernel_rfl
 g18:=by kernel_rfl
 g19:=by kernel_rfl
 t80:=Tryz.underlying174
 a80:=Tryz.isAgg174
 z80:=Tryz.sizeOf174
 v80:=Tryz.zeroValue174
 i0:=by kernel_rfl
 i2:=by kernel_rfl
 i3:=by kernel_rfl
 i4:=by kernel_rfl
 i5:=by kernel_rfl
 i9:=by kernel_rfl
 i20:=by kernel_rfl
 i21:=by kernel_rfl
 i37:=by kernel_rfl
 i46:=by kernel_rfl
 i51:=by kernel_rfl
 i53:=by kernel_rfl
 i75:=by kernel_rfl
 i76:=by kernel_rfl
 i80:=by kernel_rfl
 i85:=by kernel_rfl
 i127:=by kernel_rfl
 i143:=by kernel_rfl
 i145:=by kernel_rfl
 i167:=by kernel_rfl
 i168:=by kernel_rfl
 i171:=by kernel_rfl
 i173:=by kernel_rfl
 i175:=by kernel_rfl
 i210:=by kernel_rfl
 i212:=by kernel_rfl
 i232:=by kernel_rfl
 i233:=by kernel_rfl
 m15:=by kernel_rfl
 m16:=by kernel_rfl
 m17:=by kernel_rfl
 m18:=by kernel_rfl
 m19:=by kernel_rfl
 c0:=by kernel_rfl
 c2:=by kernel_rfl
 c3:=by kernel_rfl
 c4:=by kernel_rfl
 c5:=by kernel_rfl
 c9:=by kernel_rfl
 c20:=by kernel_rfl
 c21:=by kernel_rfl
 c37:=by kernel_rfl
 c46:=by kernel_rfl
 c51:=by kernel_rfl
 c53:=by kernel_rfl
 c75:=by kernel_rfl
 c76:=by kernel_rfl
 c80:=by kernel_rfl
 c85:=by kernel_rfl
 c127:=by kernel_rfl
 c143:=by kernel_rfl
 c145:=by kernel_rfl
 c167:=by kernel_rfl
 c168:=by kernel_rfl
 c171:=by kernel_rfl
 c173:=by kernel_rfl
 c175:=by kernel_rfl
 c210:=by kernel_rfl
 c212:=by kernel_rfl
 c213:=by kernel_rfl
 c232:=by kernel_rfl
 c233:=by kernel_rfl}
open Go.RowKit in
def Tryz.strconv_Atoi_ok(s:ByteArray)(hmax:s.size<=9223372036854775806)(v:Int)(h:dc s.data.toList=.ok v)(w:World) :
  Calls Tryz.prog 103 #[.string s] w fun e w'=>e=.returned (.tuple #[.int .i64 v,.nilIface])/\(w'=w\/∃t,w'=Lib.bytesWorld w 5 t):=Any.strconv_Atoi_ok Tryz.Bi s hmax v h w
open Go.RowKit in
def Tryz.strconv_Atoi_syntax(s:ByteArray)(hlim:s.size<=281474976710656)(h:dc s.data.toList=Go.Lib.NumEnd.syntax)(ev:Value)(w:World)(hv:w.cell? ⟨3,0,none⟩=some ev)(hev:ev=.nilIface\/∃te pe,ev=.iface te pe) :
  Calls Tryz.prog 103 #[.string s] w fun e w'=>∃N,e=.returned (.tuple #[.int .i64 (0),.iface 217 (.pointer (some ⟨N,0,none⟩))])/\w.heap.size<=N/\w'.heap[N]?=some (.cells #[.string ⟨#[65,116,111,105]⟩,.string s,ev] 234 (0,0))/\Below w.heap.size w w':=Any.strconv_Atoi_syntax Tryz.Bi s hlim h ev w hv hev
open Go.RowKit in
def Tryz.strconv_Atoi_range(s:ByteArray)(hlim:s.size<=281474976710656)(h:dc s.data.toList=.range)(ev:Value)(w:World)(hv:w.cell? ⟨4,0,none⟩=some ev)(hev:ev=.nilIface\/∃te pe,ev=.iface te pe) :
  Calls Tryz.prog 103 #[.string s] w fun e w'=>∃N,e=.returned (.tuple #[.int .i64 (dm s.data.toList),.iface 217 (.pointer (some ⟨N,0,none⟩))])/\w.heap.size<=N/\w'.heap[N]?=some (.cells #[.string ⟨#[65,116,111,105]⟩,.string s,ev] 234 (0,0))/\Below w.heap.size w w':=Any.strconv_Atoi_range Tryz.Bi s hlim h ev w hv hev
def Tryz.KH:cw:=⟨fun|102=>52|209=>80|207=>101|n=>n,fun|9=>9|4=>4|3=>3|n=>n,fun|n=>n⟩
def Tryz.VY:e9 Tryz.prog Tryz.KH:={
 mixed:=by kernel_rfl
 f102:=Tryz.func52.trans (congrArg some (by kernel_rfl))
 f207:=Tryz.func101.trans (congrArg some (by kernel_rfl))
 f209:=Tryz.func80.trans (congrArg some (by kernel_rfl))
 t3:=Tryz.underlying3
 a3:=Tryz.isAgg3
 z3:=Tryz.sizeOf3
 v3:=Tryz.zeroValue3
 t4:=Tryz.underlying4
 a4:=Tryz.isAgg4
 z4:=Tryz.sizeOf4
 v4:=Tryz.zeroValue4
 t9:=Tryz.underlying9
 a9:=Tryz.isAgg9
 z9:=Tryz.sizeOf9
 v9:=Tryz.zeroValue9}
open Go.RowKit Go.Lib in
def Tryz.strings_TrimSuffix(s p:ByteArray)(w:World)(hs:s.size<=9223372036854775807) :
  Calls Tryz.prog 52 #[.string s,.string p] w fun e w'=>e=.returned (.string ⟨(br s.data.toList p.data.toList).toArray⟩)/\w'=w:=Any.strings_TrimSuffix Tryz.VY s p w hs
def Tryz.KI:cw:=⟨fun|146=>51|221=>79|268=>98|138=>99|143=>100|195=>115|197=>116|218=>117|219=>118|260=>128|217=>129|225=>130|224=>131|267=>132|266=>143|314=>144|n=>n,fun|9=>9|31=>36|3=>3|4=>4|0=>0|105=>202|21=>21|5=>5|46=>175|119=>226|139=>229|138=>228|146=>198|51=>197|n=>n,fun|1=>0|3=>1|4=>2|n=>n⟩
def Tryz.LV:fa Tryz.prog Tryz.KI:={
 mixed:=by kernel_rfl
 f138:=Tryz.func99.trans (congrArg some (by kernel_rfl))
 f143:=Tryz.func100.trans (congrArg some (by kernel_rfl))
 f146:=Tryz.func51.trans (congrArg some (by kernel_rfl))
 f195:=Tryz.func115.trans (congrArg some (by kernel_rfl))
 f197:=Tryz.func116.trans (congrArg some (by kernel_rfl))
 f217:=Tryz.func129.trans (congrArg some (by kernel_rfl))
 f218:=Tryz.func117.trans (congrArg some (by kernel_rfl))
 f219:=Tryz.func118.trans (congrArg some (by kernel_rfl))
 f221:=Tryz.func79.trans (congrArg some (by kernel_rfl))
 f224:=Tryz.func131.trans (congrArg some (by kernel_rfl))
 f225:=Tryz.func130.trans (congrArg some (by kernel_rfl))
 f260:=Tryz.func128.trans (congrArg some (by kernel_rfl))
 f266:=Tryz.func143.trans (congrArg some (by kernel_rfl))
 f267:=Tryz.func132.trans (congrArg some (by kernel_rfl))
 f268:=Tryz.func98.trans (congrArg some (by kernel_rfl))
 f314:=Tryz.func144.trans (congrArg some (by kernel_rfl))
 t0:=Tryz.underlying0
 a0:=Tryz.isAgg0
 z0:=Tryz.sizeOf0
 v0:=Tryz.zeroValue0
 t3:=Tryz.underlying3
 a3:=Tryz.isAgg3
 z3:=Tryz.sizeOf3
 v3:=Tryz.zeroValue3
 t4:=Tryz.underlying4
 a4:=Tryz.isAgg4
 z4:=Tryz.sizeOf4
 v4:=Tryz.zeroValue4
 t5:=Tryz.underlying5
 a5:=Tryz.isAgg5
 z5:=Tryz.sizeOf5
 v5:=Tryz.zeroValue5
 t9:=Tryz.underlying9
 a9:=Tryz.isAgg9
 z9:=Tryz.sizeOf9
 v9:=Tryz.zeroValue9
 t21:=Tryz.underlying21
 a21:=Tryz.isAgg21
 z21:=Tryz.sizeOf21
 v21:=Tryz.zeroValue21
 t31:=Tryz.underlying36
 a31:=Tryz.isAgg36
 z31:=Tryz.sizeOf36
 v31:=Tryz.zeroValue36
 t46:=Tryz.underlying175
 a46:=Tryz.isAgg175
 z46:=Tryz.sizeOf175
 v46:=Tryz.zeroValue175
 t51:=Tryz.underlying197
 a51:=Tryz.isAgg197
 z51:=Tryz.sizeOf197
 v51:=Tryz.zeroValue197
 t105:=Tryz.underlying202
 a105:=Tryz.isAgg202
 z105:=Tryz.sizeOf202
 v105:=Tryz.zeroValue202
 t119:=Tryz.underlying226
 a119:=Tryz.isAgg226
 z119:=Tryz.sizeOf226
 t138:=Tryz.underlying228
 a138:=Tryz.isAgg228
 z138:=Tryz.sizeOf228
 v138:=Tryz.zeroValue228
 t139:=Tryz.underlying229
 a139:=Tryz.isAgg229
 z139:=Tryz.sizeOf229
 v139:=Tryz.zeroValue229
 t146:=Tryz.underlying198
 a146:=Tryz.isAgg198
 z146:=Tryz.sizeOf198
 v146:=Tryz.zeroValue198
 g1:=by kernel_rfl
 g3:=by kernel_rfl
 g4:=by kernel_rfl}
open Go.RowKit Go.Lib in
def Tryz.strings_Split(s sep:ByteArray)(m:Int)(w:World)(hs:s.size<4294967281)(hm:w.cell? ⟨0,0,none⟩=some (.int .i64 m))(h1:1<=sep.size) :
  Calls Tryz.prog 51 #[.string s,.string sep] w fun e w'=>
   e=.returned (.slice (some ⟨w.heap.size,0,none⟩) (bq s sep+1) (bq s sep+1))/\w'=w.alloc (.cells ((b8 sep 0 (bq s sep) s).map cn).toArray 9):=Any.strings_Split Tryz.LV (by kernel_rfl) s sep m w hs hm h1
end Go.Proofs.YtgokjhhcfemnhadGreatDoor

namespace Go.Proofs.YtgokjhhcfemnhadGreatDoor
open Go.Vg Go.Mrl
def Oa(w:World)(k:Nat)(os:Array Obj):Vg.Below w.heap.size w (Sort.grow (w.drewN k) os):=by
 refine⟨rfl,rfl,?_,fun i hi =>?_⟩
 ·show w.heap.size<=(w.heap++os).size
  simp
 ·show(w.heap++os)[i]?=w.heap[i]?
  rw[Array.getElem?_append,if_pos hi]
def VZ{eT:TypeId}{n:Int}{O:aH}{w:World}{v:Value}(h:VR eT (.int .i64) n O w v):v=.int .i64 n/\-9223372036854775808<=n/\n<=9223372036854775807:=by
 obtain⟨h1,h2,h3⟩:=VR.one rfl h;exact⟨by simpa using h1,h2,h3⟩
def nQ{eT:TypeId}{s:List UInt8}{O:aH}{w:World}{v:Value}(h:VR eT .str s O w v):v=.string ⟨s.toArray⟩/\s.length<=aM:=by
 obtain⟨h1,h2⟩:=VR.one rfl h;exact⟨by simpa using h1,h2⟩
def Jb{eT:TypeId}{s:List UInt8}{O:aH}{w:World}(h:s.length<=aM):VR eT .str s O w (.string ⟨s.toArray⟩):=VR.cI rfl ⟨rfl,h⟩
def vT:∀(k u:Nat),u<10^(k+1)->Lib.nDigits u<=k+1
 |0,u,h=>by rw[dT (by simpa using h)];exact b9 _
 |k+1,u,h=>by
  by_cases hu:u<10
  ·rw[dT hu];omega
  ·rw[Lib.nDigits_big hu]
   have:=vT k (u / 10) (by rw[Nat.pow_succ]at h;omega);omega
def T6{n:Int}(h0 : -9223372036854775808<=n)(h1:n<=9223372036854775807):(bp n).length<=21:=by
 unfold bp;split
 ·rw[bx,ec]
  have:=vT 19 n.natAbs (by omega);omega
 ·rw[ec]
  have:=vT 19 n.toNat (by omega);omega
def Tryz.oU:bW Tryz.prog Tryz.B.eT Tryz.X 84 [.int .i64] [.str] (fun _=>True) (fun n y=>y=bp n):=by
 refine⟨⟨Tryz.f84,Tryz.func84,by kernel_rfl,by kernel_rfl⟩,fun O w n vs hG hO ha _ =>?_⟩;obtain⟨v,rfl,hv⟩:=ha;obtain⟨rfl,h0,h1⟩:=VZ hv;refine(Tryz.strconv_Itoa n h0 h1 w hG.pow).mono ?_;rintro e w' ⟨rfl,k,os,rfl⟩;exact⟨[.string ⟨(bp n).toArray⟩],bp n,rfl,rfl,⟨_,rfl,Jb (by have:=T6 h0 h1;unfold aM;omega)⟩,Oa w k os⟩
def Tryz.sw:bW Tryz.prog Tryz.B.eT Tryz.X 103 [.str] [.int .i64,.err] (fun s=>s.length<=281474976710656) (fun s y=>y=eD s):=by
 refine⟨⟨Tryz.f103,Tryz.func103,by kernel_rfl,by kernel_rfl⟩,fun O w s vs hG hO ha hs =>?_⟩;obtain⟨v,rfl,hv⟩:=ha;obtain⟨rfl,hl⟩:=nQ hv;have hsz:(⟨s.toArray⟩:ByteArray).size=s.length:=by simp[dd]
 have hsl:(⟨s.toArray⟩:ByteArray).data.toList=s:=by simp
 cases ha:dc s with
 |ok n=>
  refine(Tryz.strconv_Atoi_ok ⟨s.toArray⟩ (by rw[hsz];omega) n (by rw[hsl];exact ha) w).mono ?_;rintro e w' ⟨rfl,hw⟩;obtain⟨b0,b1⟩:=Lib.atoiAll_bounds ha;refine⟨[.int .i64 n,.nilIface],(n,.nil),rfl,by unfold eD;rw[ha],⟨_,_,rfl,VR.cI rfl ⟨rfl,b0,b1⟩,⟨_,rfl,VR.cI rfl ⟨_,rfl,rfl⟩⟩⟩,?_⟩;rcases hw with rfl|⟨t,rfl⟩
  ·exact Vg.Below.refl _ _
  ·exact .of (Lib.bytesWorld_below _ _ _)
 |range=>
  obtain⟨ev,hv,he⟩:=hG.XV;obtain⟨b0,b1⟩:=Lib.atoiSat_bounds s;have hA:=Tryz.strconv_Atoi_range ⟨s.toArray⟩ (by rw[hsz];exact hs) (by rw[hsl];exact ha) ev w hv he;rw[hsl]at hA;refine hA.mono ?_;rintro e w' ⟨N,rfl,_,_,hb⟩;exact⟨[.int .i64 (dm s),_],(dm s,.other),rfl,by unfold eD;rw[ha],⟨_,_,rfl,VR.cI rfl ⟨rfl,b0,b1⟩,⟨_,rfl,VR.cI rfl ⟨_,rfl,_,_,rfl,by decide+kernel⟩⟩⟩,.of hb⟩
 |_=>
  obtain⟨ev,hv,he⟩:=hG.XU;refine(Tryz.strconv_Atoi_syntax ⟨s.toArray⟩ (by rw[hsz];exact hs) (by rw[hsl];exact ha) ev w hv he).mono ?_;rintro e w' ⟨N,rfl,_,_,hb⟩;exact⟨[.int .i64 0,_],(0,.other),rfl,by unfold eD;rw[ha],⟨_,_,rfl,VR.cI rfl ⟨rfl,by decide,by decide⟩,⟨_,rfl,VR.cI rfl ⟨_,rfl,_,_,rfl,by decide+kernel⟩⟩⟩,.of hb⟩
def Tryz.nu:bW Tryz.prog Tryz.B.eT Tryz.X 81 [.str,.str] [.str,.bool] (fun _=>True) (fun x y=>y=(cb x.1 x.2,cy x.1 x.2)):=by
 refine⟨⟨Tryz.f81,Tryz.func81,by kernel_rfl,by kernel_rfl⟩,fun O w x vs hG hO ha _ =>?_⟩;obtain⟨s,p⟩:=x;obtain⟨v,vs',rfl,hv,u,rfl,hu⟩:=ha;obtain⟨rfl,hl⟩:=nQ hv;obtain⟨rfl,_⟩:=nQ hu;refine(Tryz.strings_CutPrefix ⟨s.toArray⟩ ⟨p.toArray⟩ w).mono ?_;rintro e w' ⟨rfl,rfl⟩;have hle:(cb s p).length<=s.length:=by unfold cb;split <;> simp
 exact⟨[.string ⟨(cb s p).toArray⟩,.bool (cy s p)],_,rfl,rfl,⟨_,_,rfl,Jb (b4 hle hl),_,rfl,VR.cI rfl rfl⟩,Vg.Below.refl _ _⟩
def Tryz.mv:bW Tryz.prog Tryz.B.eT Tryz.X 52 [.str,.str] [.str] (fun _=>True) (fun x y=>y=br x.1 x.2):=by
 refine⟨⟨Tryz.f52,Tryz.func52,by kernel_rfl,by kernel_rfl⟩,fun O w x vs hG hO ha _ =>?_⟩;obtain⟨s,p⟩:=x;obtain⟨v,vs',rfl,hv,u,rfl,hu⟩:=ha;obtain⟨rfl,hl⟩:=nQ hv;obtain⟨rfl,_⟩:=nQ hu;have hl:s.length<=aM:=hl;have hsz:(⟨s.toArray⟩:ByteArray).size=s.length:=by simp[dd]
 refine(Tryz.strings_TrimSuffix ⟨s.toArray⟩ ⟨p.toArray⟩ w (by rw[hsz];exact hl)).mono ?_;rintro e w' ⟨rfl,rfl⟩;have hle:(br s p).length<=s.length:=by unfold br;split <;> simp
 exact⟨[.string ⟨(br s p).toArray⟩],_,rfl,rfl,⟨_,rfl,Jb (b4 hle hl)⟩,Vg.Below.refl _ _⟩
def Tryz.sx:bW Tryz.prog Tryz.B.eT Tryz.X 51 [.str,.str] [.slice .str] (fun x=>x.1.length<4294967281/\x.2.length=1) (fun x y=>y=parts (HT x.2) x.1):=by
 refine⟨⟨Tryz.f51,Tryz.func51,by kernel_rfl,by kernel_rfl⟩,fun O w x vs hG hO ha hp =>?_⟩;obtain⟨s,p⟩:=x;obtain⟨hs,hp⟩:=hp;obtain⟨c,rfl⟩:∃c,p=[c]:=dn.1 hp
 obtain⟨v,vs',rfl,hv,u,rfl,hu⟩:=ha;obtain⟨rfl,hl⟩:=nQ hv;obtain⟨rfl,_⟩:=nQ hu;obtain⟨m,hm⟩:=hG.max;have hsz:(⟨s.toArray⟩:ByteArray).size=s.length:=by simp[dd]
 have h1:1<=(⟨#[c]⟩:ByteArray).size:=b9 1;refine(Tryz.strings_Split ⟨s.toArray⟩ ⟨#[c]⟩ m w (by rw[hsz];exact hs) hm h1).mono ?_;rintro e w' ⟨rfl,rfl⟩;have hlen:=ed ⟨#[c]⟩ h1 0 _ ⟨s.toArray⟩ rfl;have hdat:=ee ⟨#[c]⟩ 0 (bq ⟨s.toArray⟩ ⟨#[c]⟩) ⟨s.toArray⟩;have hcb:=Lib.countB_le ⟨#[c]⟩ h1 _ ⟨s.toArray⟩ (b9 _);have hd:(b8 ⟨#[c]⟩ 0 (bq ⟨s.toArray⟩ ⟨#[c]⟩) ⟨s.toArray⟩).map (·.data.toList)=parts c s:=by rw[hdat,<-sh,<-Lib.count_one]
 have hlf:(parts c s).length=bq ⟨s.toArray⟩ ⟨#[c]⟩ +1:=by rw[<-hd,bz,hlen]
 refine⟨[_],parts c s,rfl,rfl,⟨_,rfl,VR.cI rfl ⟨_,rfl,?_,.inr ⟨w.heap.size,0,bq ⟨s.toArray⟩ ⟨#[c]⟩ +1,by rw[hlf],by rw[hlf];exact b9 _,fun i y hy =>?_⟩⟩⟩,(Vg.Below.refl _ w).alloc (b9 _) _⟩
 ·rw[hlf];have hs:s.length<4294967281:=hs;rw[hsz]at hcb;unfold aM;omega
 ·have hyl:=oO c s y (ef hy)
  refine⟨[.string ⟨y.toArray⟩],⟨rfl,b4 hyl hl⟩,fun j u hj=>⟨?_,fun hh =>?_⟩⟩
  ·have hj0:j=0:=by
    rcases j with _|j
    ·rfl
    ·simp at hj
   subst hj0;simp at hj;subst hj;rw[<-hd,List.getElem?_map,cz]at hy;obtain⟨q,hq,rfl⟩:=hy;have hh:(w.alloc (.cells ((b8 ⟨#[c]⟩ 0 (bq ⟨s.toArray⟩ ⟨#[c]⟩) ⟨s.toArray⟩).map cn).toArray 9)).heap[w.heap.size]?=some (.cells ((b8 ⟨#[c]⟩ 0 (bq ⟨s.toArray⟩ ⟨#[c]⟩) ⟨s.toArray⟩).map cn).toArray 9 (0,0)):=heap_alloc_new w _;rw[cc hh];simp only[Ty.size,Nat.mul_one,Nat.zero_add,dp,List.getElem?_toArray,List.getElem?_map,hq,eg]
  ·have:=hO _ _ hh
   simp at this
def Tryz.spZ2:Bool×aT:=(true,cC [.int .i64] [.str] (fun _=>True) (fun n=>bp n))
def Tryz.spZ3:Bool×aT:=(true,cC [aC] [.err] (fun _=>True) (fun e=>aI (bC e)))
def Tryz.Jc:List (FuncId×(Bool×aT)):=[(45,Tryz.spZ0),(17,Tryz.spZ1),(84,Tryz.spZ2),(46,Tryz.spZ3)]
def Tryz.Oc:bP Tryz.prog Tryz.B Tryz.X Tryz.Jc:=
 aO (aE Tryz.jt) (aO (aE Tryz.iw) (aO (aE Tryz.oU) (aO (aE Tryz.FB) (bR Tryz.bQ))))
def Jd(e:D aC):dX:=[
 (0,fun st=>{X:=Nat,inv:=fun i=>i<=bb e.2.1,cB:=fun i=>bb e.2.1-i,bM:=fun i=>[(35,sI i),(6,sS (jL e i))],keep:=[1,2,3,5,33,34]}),
 (2,fun st=>{X:=Nat,inv:=fun i=>i<=bb e.2.2.1,cB:=fun i=>bb e.2.2.1-i,bM:=fun i=>[(60,sI i),(6,sS (jy e i))],keep:=[2,3,5,58,59]})]
def T7(e:D aC)(hw:gM [aC] e):(dL (nF Tryz.B [23,30,47,53,68,74,80]) Tryz.Jc Tryz.f90 (Jd e) [aC] [.str,.err] (fun x y=>y=(fun e=>dK e) x) e).holds:=by
 refine holds_of (p:=
  let za:=aI (bC e)
  let zb:=[(32:UInt8)]
  let zc:=bb zb
  let zd:=e.2.1
  let ze:=bb zd
  let zf:=e.2.2.1
  let zg:=bb zf
  let zh:=bp (↑ze:Int)
  let zi:=e.1++zb++zh
  let zj:=bp (↑zg:Int)
  let zk:=fun(F:Nat)=>zb++(nth aG zd F).1
  let zl:=fun(F:Nat)=>bp (nth aG zd F).2.1
  let zm:=fun(F:Nat)=>zk F++zb++zl F++zb
  let zn:=fun(F:Nat)=>bp (nth aG zd F).2.2.1
  let zo:=fun(F:Nat)=>(↑F:Int)+1
  let zp:=(e.1=e.1/\zd=zd/\zf=zf/\True)/\True
  let zq:=fun(G:Nat)=>zb++bp (nth aR zf G).1
  let zr:=fun(G:Nat)=>zq G++zb++bp (nth aR zf G).2.1
  let zs:=fun(G:Nat)=>bp (nth aR zf G).2.2.1
  True/\((!aK.isNil za)=true->([],za)=dK e)/\((!aK.isNil za)=false->bb e.1+zc<=aM/\(ze<=aM->zg<=aM->True/\bb (e.1++zb)+bb zh<=aM/\bb zi+zc<=aM/\True/\bb (zi++zb)+bb zj<=aM/\(ze<=aM->(∃(x:Nat),x<=ze/\(0=(↑x:Int)/\zi++zb++zj=jL e x/\True)/\True)/\∀F:Nat,F<=ze->((decide ((↑F:Int)<(↑ze:Int)))=true->(0<=(↑F:Int)/\(↑F:Int)<(↑ze:Int))/\zc+bb (nth aG zd F).1<=aM/\bb (zk F)+zc<=aM/\True/\bb (zk F++zb)+bb (zl F)<=aM/\bb (zk F++zb++zl F)+zc<=aM/\True/\bb (zm F)+bb (zn F)<=aM/\bb (jL e F)+bb (zm F++zn F)<=aM/\(aJ (↑F:Int)->aJ 1->aJ (zo F)/\∃(x':Nat),x'<=ze/\ze-x'<ze-F/\(zo F=(↑x':Int)/\jL e F++(zm F++zn F)=jL e x'/\True)/\zp))/\((decide ((↑F:Int)<(↑ze:Int)))=false->zg<=aM->(∃(x:Nat),x<=zg/\(0=(↑x:Int)/\jL e F=jy e x/\True)/\True)/\∀G:Nat,G<=zg->((decide ((↑G:Int)<(↑zg:Int)))=true->(0<=(↑G:Int)/\(↑G:Int)<(↑zg:Int))/\True/\zc+bb (bp (nth aR zf G).1)<=aM/\bb (zq G)+zc<=aM/\True/\bb (zq G++zb)+bb (bp (nth aR zf G).2.1)<=aM/\bb (zr G)+zc<=aM/\True/\bb (zr G++zb)+bb (zs G)<=aM/\bb (jy e G)+bb (zr G++zb++zs G)<=aM/\(aJ (↑G:Int)->aJ 1->aJ (zo G)/\∃(x':Nat),x'<=zg/\zg-x'<zg-G/\(zo G=(↑x':Int)/\jy e G++(zr G++zb++zs G)=jy e x'/\True)/\zp))/\((decide ((↑G:Int)<(↑zg:Int)))=false->bb (jy e G)+bb [(10:UInt8)]<=aM/\(jy e G++[(10:UInt8)],aK.nil)=dK e)))))) (by kernel_rfl) ?_
 dsimp -iota -proj -eta only;refine⟨ba,iB (fun h0=>(NO (fun e=>by rw[aQ.2 e]at h0;cases h0))) (fun h0=>⟨?a,fun h1 h2=>⟨ba,?b,?c,ba,?d,fun h3=>⟨(⟨0,by omega,⟨rfl,(NG e).symm,ba⟩,ba⟩),fun F q_0=>iL (fun h4=>⟨?e,?f,?g,ba,?h,?i,ba,?j,?k,fun h5 h6=>⟨?l,(⟨F+1,by omega,by omega,⟨by omega,NM (by omega),ba⟩,(by trivial)⟩)⟩⟩) (fun h4 h5=>⟨(⟨0,by omega,⟨rfl,by rw[NH,show F=e.2.1.length by omega],ba⟩,ba⟩),fun G q_1=>iL (fun h6=>⟨?m,ba,?n,?o,ba,?p,?q,ba,?r,?s,fun h7 h8=>⟨?t,(⟨G+1,by omega,by omega,⟨by omega,NN (by omega),ba⟩,(by trivial)⟩)⟩⟩) (fun h6=>⟨(by have a:=(lH (aQ.1 h0)).AU G;simp only[bt,bx,b3,aM];omega),(Ql (aQ.1 h0) (by omega))⟩)⟩)⟩⟩⟩)⟩
 case a|b|c|d=>have a:=(lH (aQ.1 h0)).lens;simp only[bt,bx,b3,aM];omega
 case e|m=>omega
 case f|g|h|i|j|k=>have a:=(lH (aQ.1 h0)).Xu (i:=F) (by omega);simp only[bt,bx,b3,aM];omega
 case l|t=>simp only[aJ,aM]at*;omega
 case n|o|p|q|r|s=>have a:=(lH (aQ.1 h0)).Xv (i:=G) (by omega);simp only[bt,bx,b3,aM];omega
def Tryz.Je:bW Tryz.prog Tryz.B.eT Tryz.X 90 [aC] [.str,.err] (fun _=>True) (fun x y=>y=(fun e=>dK e) x):=
 cD (B:=(nF Tryz.B [23,30,47,53,68,74,80])) (X:=Tryz.X) (bP.hint (l:=[23,30,47,53,68,74,80]) Tryz.Oc) Tryz.func90 (by kernel_rfl) (fun x=>Jd x) (fun x hw hp=>T7 x hw)
end Go.Proofs.YtgokjhhcfemnhadGreatDoor

namespace Go.Proofs.YtgokjhhcfemnhadGreatDoor
open Go.RowKit Go.Vg
def Tryz.XI:(Tryz.prog.info? 169).map (·.size)=some 2:=by kernel_rfl
def Tryz.XW:liesAt Tryz.prog Tryz.prog.depth 169 (2 / Tryz.prog.cellsOf 169) 0 169 1=true:=by kernel_rfl
set_option maxHeartbeats 1000000 in
set_option maxRecDepth 100000 in
def Tryz.Od(b:Nat)(v:Value)(w:World)(hb:w.heap[b]?=some (.cells #[.pointer (some ⟨b,0,none⟩),v] 169 (0,0))) :
  Calls Tryz.prog 108 #[.pointer (some ⟨b,0,none⟩)] w fun e w'=>e=.returned (.tuple #[])/\w'=w:=by
 obtain⟨j,hj,_⟩:=cz.1 Tryz.XI;have h0:w.cell? ⟨b,0,none⟩=some (.pointer (some ⟨b,0,none⟩)):=by rw[cc hb];rfl
 go_enter Tryz.func108,Tryz.ntmps108
 go_wp2
 rw[Lib.run_neq_ptr_same w _ Tryz.underlying167 hj]
 go_wp2
 go_end0
 exact⟨rfl,rfl⟩
set_option maxHeartbeats 1000000 in
set_option maxRecDepth 100000 in
def Tryz.KJ(b:Nat)(v:Value)(w:World)(hb:w.heap[b]?=some (.cells #[.pointer none,v] 169 (0,0))) :
  Calls Tryz.prog 108 #[.pointer (some ⟨b,0,none⟩)] w fun e w'=>e=.returned (.tuple #[])/\w'=w.setCell ⟨b,0,none⟩ (.pointer (some ⟨b,0,none⟩)):=by
 obtain⟨j,hj,hjs⟩:=cz.1 Tryz.XI;have h0:w.cell? ⟨b,0,none⟩=some (.pointer none):=by rw[cc hb];rfl
 have hsh:w.shape? b=some (169,2):=by simp[eh,hb]
 have hfz:w.frozen? ⟨b,0,none⟩=false:=de hb 0
 go_enter Tryz.func108,Tryz.ntmps108
 go_wp2
 rw[Lib.run_to_unsafe w ⟨b,0,none⟩ Tryz.underlying167 Tryz.underlying209 hj (by rw[hjs];decide) hsh (Nat.zero_lt_succ 1)];simp only[dq];rw[dr]
 go_wp2
 rw[run_callFunc_extern Tryz.func125 (by kernel_rfl) (by kernel_rfl) (by kernel_rfl) (e:=fb) (by kernel_rfl)];rw[Lib.run_noEscape];simp only[dq];rw[dr]
 go_wp2
 rw[Lib.run_from_unsafe w ⟨b,0,none⟩ Tryz.underlying209 Tryz.underlying167 hj hsh Tryz.XW];simp only[dq];rw[dr]
 go_wp2
 go_end0
 exact⟨rfl,rfl⟩
def Tryz.XX:(Tryz.prog.info? 5).map (fun i=>(i.zero,i.size,i.bytes))=some (some (.int .u8 0),1,1):=by kernel_rfl
def Tryz.XR:Tryz.prog.cellsOf 5=1:=by kernel_rfl
set_option maxHeartbeats 2000000 in
set_option maxRecDepth 100000 in
def Tryz.Rj(b:Nat)(p v:Value)(xs:List Value)(s:ByteArray)(w:World)(hb:w.heap[b]?=some (.cells #[p,v] 169 (0,0)))(hp:p=.pointer none\/p=.pointer (some ⟨b,0,none⟩))
  (hown:w.ownsRow 0 5 1 v xs.length xs)(hne:v.ownBlock≠some b)(hcap:∀a n c,v=.slice (some a) n c->0<c)(hlen:xs.length+s.size<=140737488355328) :
  Calls Tryz.prog 85 #[.pointer (some ⟨b,0,none⟩),.string s] w fun e w'=>e=.returned (.tuple #[.int .i64 s.size,.nilIface])/\
   ∃v',w'.heap[b]?=some (.cells #[.pointer (some ⟨b,0,none⟩),v'] 169 (0,0))/\w'.ownsRow 0 5 1 v' (xs.length+s.size) (xs++Lib.strCells s)/\v'.ownBlock≠some b/\Kept b v w w'/\
    (∀a n c,v'=.slice (some a) n c->0<c)/\(∀g,v'.ownBlock=some g->v.ownBlock=some g\/w.heap.size<=g):=by
 obtain⟨i0,hi,hz0⟩:=cz.1 Tryz.XX;simp only[Prod.mk.injEq]at hz0;obtain⟨hz0,hz1,hz2⟩:=hz0;have hchk:Calls Tryz.prog 108 #[.pointer (some ⟨b,0,none⟩)] w fun e w1=>e=.returned (.tuple #[])/\w1.heap[b]?=some (.cells #[.pointer (some ⟨b,0,none⟩),v] 169 (0,0))/\
   w1.os=w.os/\w1.output=w.output/\w1.heap.size=w.heap.size/\∀k,k≠b->w1.heap[k]?=w.heap[k]?:=by
  rcases hp with rfl|rfl
  ·refine(Tryz.KJ b v w hb).mono ?_
   rintro e w1 ⟨rfl,rfl⟩;exact⟨rfl,(SS hb).trans (by simp),rfl,rfl,ds _ _ _,fun k hk=>dt _ _ _ _ hk⟩
  ·refine(Tryz.Od b v w hb).mono ?_
   rintro e w1 ⟨rfl,rfl⟩;exact⟨rfl,hb,rfl,rfl,rfl,fun _ _=>rfl⟩
 go_enter Tryz.func85,Tryz.ntmps85
 go_wp2_with (go_at_call 108;refine hchk.mono ?_)
 rintro e w1 ⟨rfl,hb1,ho1,hu1,hs1,hk1⟩;have hown1:w1.ownsRow 0 5 1 v xs.length xs:=by
  refine⟨hown.1,?_⟩;rcases hown.2 with h|⟨g,cap,cur,h1,h2,h3,h4⟩
  ·exact .inl h
  ·refine .inr ⟨g,cap,cur,h1,h2,?_,h4⟩
   rw[hk1 g (fun e=>hne (by rw[h1,e];rfl))];exact h3
 have c0:w1.cell? ⟨b,0,none⟩=some (.pointer (some ⟨b,0,none⟩)):=by rw[cc hb1];rfl
 have c1:w1.cell? ⟨b,1,none⟩=some v:=by rw[cc hb1];rfl
 obtain⟨v',w2,hrun,hown',hgrow,hcap',hnew⟩:=Vr (t:=157) (u:=9) (ty:=157) Tryz.underlying157 Tryz.underlying9 hi hz0 hz1 hz2 hown1 hcap s hlen;have hlt:b<w1.heap.size:=(Array.getElem?_eq_some_iff.1 hb1).1;have hb2:w2.heap[b]?=some (.cells #[.pointer (some ⟨b,0,none⟩),v] 169 (0,0)):=by rw[hgrow.block b hlt (fun e=>hne e.symm)];exact hb1
 have d1:w2.cell? ⟨b,1,none⟩=some v:=by rw[cc hb2];rfl
 have f1:w2.frozen? ⟨b,1,none⟩=false:=de hb2 1;have hne':v'.ownBlock≠some b:=by
  intro e;rcases hown'.2 with⟨h,_⟩|⟨g',cap,cur,h,_,h3,_⟩
  ·rw[h]at e;cases e
  ·rw[h]at e
   cases e;rw[hb2]at h3;cases h3
 have hv1:∃a n c,v'=.slice a n c:=by
  rcases hown'.2 with⟨h,_⟩|⟨g',cap,cur,h,_⟩ <;> exact⟨_,_,_,h⟩
 obtain⟨va,vn,vc,rfl⟩:=hv1;rw[hs1]at hnew
 go_wp2_with (at_builtin;refine yO rfl _ _ 157 9 rfl rfl rfl hrun ?_)
 go_ret2
 refine⟨rfl,.slice va vn vc,(SS hb2).trans (by simp),⟨hown'.1,?_⟩,hne',⟨hgrow.os.trans ho1,hgrow.output.trans hu1,?_,fun k h1 h2 h3 =>?_⟩,hcap',hnew⟩
 ·rcases hown'.2 with h|⟨g,cap,cur,h1,h2,h3,h4⟩
  ·exact .inl h
  ·refine .inr ⟨g,cap,cur,h1,h2,?_,h4⟩
   rw[dt _ _ _ _ (fun e=>hne' (by rw[h1,show g=b from e];rfl))];exact h3
 ·rw[ds];have:=hgrow.size;omega
 ·rw[dt _ _ _ _ (show k≠b from h2),hgrow.block k (by omega) (fun e=>h3 e.symm),hk1 k h2]
set_option maxHeartbeats 2000000 in
set_option maxRecDepth 100000 in
def Tryz.Oe(b:Nat)(p v:Value)(l:List UInt8)(w:World)(hb:w.heap[b]?=some (.cells #[p,v] 169 (0,0)))(hown:w.ownsRow 0 5 1 v l.length (l.map fun c=>Value.int .u8 c.toNat))(hcap:∀a n c,v=.slice (some a) n c->0<c) :
  Calls Tryz.prog 88 #[.pointer (some ⟨b,0,none⟩)] w fun e w'=>e=.returned (.string ⟨l.toArray⟩)/\MV v w w':=by
 have c1:w.drew.cell? ⟨b,1,none⟩=some v:=by
  have:w.drew.heap[b]?=some (.cells #[p,v] 169 (0,0)):=hb;rw[cc this];rfl
 have mixed:Tryz.prog.follows .mixedOrders=true:=by kernel_rfl
 by_cases h0:l=[]
 ·subst h0
  obtain⟨q,n,c,rfl,hn,hSD⟩:∃q n c,v=.slice q n c/\n=0/\(ei #[157] 192 #[v]).run Tryz.prog w.drew=.ok (.pointer q) w.drew:=by
   rcases hown.2 with⟨rfl,_⟩|⟨g,cap,cur,rfl,_⟩
   ·exact⟨none,0,0,rfl,rfl,Lib.run_unsafeSliceData_nil _ _ _ _ _⟩
   ·exact⟨_,_,_,rfl,rfl,ej _ _ _ _ _ _ (by have:=hcap _ _ _ rfl;omega)⟩
  subst hn;have hUS:(ek #[192,3] 9 #[.pointer q,.int .i64 0]).run Tryz.prog w.drew=.ok (.string .empty) w.drew:=Lib.run_unsafeString_none _ _ _ _ q
  go_enter Tryz.func88,Tryz.ntmps88
  go_wp2
  go_region_o
  all_goals (go_wp2;go_ret;exact⟨rfl,rfl,rfl,rfl,fun _ _=>rfl⟩)
 ·have hl0:l.length≠0:=by simpa using h0
  rcases hown.2 with⟨_,hz⟩|⟨g,cap,cur,rfl,hbg,hg,hnc,hcm,hcs,htake⟩
  ·exact absurd hz hl0
  have hSD:(ei #[157] 192 #[.slice (some ⟨g,0,none⟩) l.length cap]).run Tryz.prog w.drew=.ok (.pointer (some ⟨g,0,none⟩)) w.drew:=ej _ _ _ _ _ _ (by omega);have hUS:(ek #[192,3] 9 #[.pointer (some ⟨g,0,none⟩),.int .i64 l.length]).run Tryz.prog w.drew=.ok (.string ⟨l.toArray⟩) (w.drew.freeze ⟨g,0,none⟩ l.length):=by
   refine Lib.run_unsafeString_row w.drew 192 3 9 5 Tryz.underlying192 Tryz.XR g cur.size (by have hg':w.drew.heap[g]?=some (.cells cur 5 (0,0)):=hg;simp[eh,hg']) l h0 (by omega) (by unfold maxLen at hcm;omega) ?_;intro j x hx;exact hown.cells (g:=g) rfl j (.int .u8 x.toNat) (by simp[hx])
  go_enter Tryz.func88,Tryz.ntmps88
  go_wp2
  go_region_o
  all_goals (go_wp2;go_ret;exact⟨rfl,J9⟩)
def Tryz.V0(b:Nat)(p _q:Value)(a:Option Addr)(n c:Nat)(w:World)(hb:w.heap[b]?=some (.cells #[p,.slice a n c] 169 (0,0))) :
  Calls Tryz.prog 87 #[.pointer (some ⟨b,0,none⟩)] w fun r w'=>r=.returned (.int .i64 n)/\w'=w:=by
 have c1:w.cell? ⟨b,1,none⟩=some (.slice a n c):=by rw[cc hb];rfl
 go_enter Tryz.func87,Tryz.ntmps87
 go_wp2
 go_ret
 exact⟨rfl,rfl⟩
def Tryz.Ai:bX Tryz.prog Tryz.B.eT Tryz.X 85 false (sb 169 5):=
 Cc ⟨Tryz.f85,Tryz.func85,by kernel_rfl,by kernel_rfl⟩ Tryz.Rj
def Tryz.xX:bX Tryz.prog Tryz.B.eT Tryz.X 88 false (qN 169 5):=
 AM ⟨Tryz.f88,Tryz.func88,by kernel_rfl,by kernel_rfl⟩ Tryz.Oe
def Tryz.FC:bX Tryz.prog Tryz.B.eT Tryz.X 87 true (w6 169 5):=
 Gg ⟨Tryz.f87,Tryz.func87,by kernel_rfl,by kernel_rfl⟩ Tryz.V0
end Go.Proofs.YtgokjhhcfemnhadGreatDoor

namespace Go.Proofs.YtgokjhhcfemnhadGreatDoor
open Go.Vg Go.Mrl
@[reducible] def Tryz.bB:List Ob:=[.box 98 [.obj 1,.obj 2,.obj 3,.d (.int .i64),.d .bool],.row true .str,.row true .str,.tok fG]
def V1(s:List UInt8)(hw:gM [.str] s)(hp:(fun s=>s.length<=64) s):(dL Tryz.B [] Tryz.f68 [] [.str] [.str] (fun x y=>y=(fun s=>cV s) x) s).holds:=by
 refine holds_of (p:=
  let za:=bb s
  let zb:=64-(↑za:Int)
  let zc:=ch (bf zb) (bY (Ty.int cd))
  za<=aM->aJ 64->aJ (↑za:Int)->aJ zb/\(0<=zb/\zb=zb/\zb<=1000000000)/\bb zc<=aM/\za+bb (bytesOf zc)<=aM/\s++bytesOf zc=cV s) (by kernel_rfl) ?_
 dsimp -iota -proj -eta only;exact fun h0 h1 h2=>⟨(by simp only[aJ,aM]at*;omega),(by omega),(by simp only[cp,GH];omega),(by simp only[bytesOf,bz,cp,GH];omega),(by show s++bytesOf (ch _ 0)=_;rw[M0,cV,show bf (64-(s.length:Int))=64-s.length by omega])⟩
def Tryz.LW:bW Tryz.prog Tryz.B.eT Tryz.X 68 [.str] [.str] (fun s=>s.length<=64) (fun x y=>y=(fun s=>cV s) x):=
 cD (X:=Tryz.X) (bR Tryz.bQ) Tryz.func68 (by kernel_rfl) (fun _=>[]) (fun x hw hp=>V1 x hw hp)
def T8(x:Int)(y:Int)(hw:gM [.int .u64,.int .u64] (x,y))(hp:(fun z=>z.1=1/\0<=z.2/\z.2<=1000000) (x,y)):(dL Tryz.B [] Tryz.f114 [] [.int .u64,.int .u64] [.int .u64,.int .u64] (fun x y=>y=(fun z=>xn z) x) (x,y)).holds:=by
 refine holds_of (p:=
  let za:=cj bu
  let zb:=ca za (4294967295:Int)
  let zc:=(0:Int)<=(32:Int)
  let zd:=(2:Int)^min 32 za
  let ze:=fun(Q M:Int)=>Q=bk bu M
  ∀F:Int,F=bk bu (↑(cq (ca za x&&&zb)):Int)->zc/\∀G:Int,G=cf x zd->∀I:Int,I=bk bu (↑(cq (ca za y&&&zb)):Int)->zc/\∀K:Int,K=cf y zd->∀M:Int,M=F*I->∀Q:Int,ze Q M->∀U:Int,U=G*I->∀V:Int,ze V U->zc/\∀x_8:Int,x_8=cf Q zd->∀R:Int,R=bk bu (V+x_8)->∀Y:Int,Y=bk bu (↑(cq (ca za R&&&zb)):Int)->zc/\∀x_11:Int,x_11=cf R zd->∀Z:Int,Z=F*K->∀x_13:Int,ze x_13 Z->∀x_14:Int,x_14=bk bu (Y+x_13)->∀x_15:Int,x_15=G*K->∀x_16:Int,ze x_16 x_15->∀x_17:Int,x_17=bk bu (x_16+x_11)->zc/\∀x_18:Int,x_18=cf x_14 zd->∀x_19:Int,x_19=bk bu (x_17+x_18)->∀x_20:Int,x_20=x*y->∀x_21:Int,ze x_21 x_20->(x_19,x_21)=xn (x,y)) (by kernel_rfl) ?_
 dsimp -iota -proj -eta only;dsimp only at hp;refine fun F q_0=>⟨?a,fun G q_1 I q_2=>⟨?b,fun K q_3 M q_4 Q q_5 U q_6 V q_7=>⟨?c,fun x_8 q_8 R q_9 Y q_10=>⟨?d,fun x_11 q_11 Z q_12 x_13 q_13 x_14 q_14 x_15 q_15 x_16 q_16 x_17 q_17=>⟨?e,fun x_18 q_18 x_19 q_19 x_20 q_20 x_21 q_21 =>?f⟩⟩⟩⟩⟩
 case a|b|c|d|e=>trivial
 case f=>
  have a0:=S9 q_0 (by omega) (by omega);have a1:=HJ q_1 rfl (by omega) (by omega);have a2:=S9 q_2 (by omega) (by omega);have a3:=HJ q_3 rfl (by omega) (by omega);have a4:M=y:=by rw[q_4,a0,a2,hp.1,du]
  have a5:Q=y:=by rw[q_5,a4];exact lC (by omega) (by omega)
  have a6:U=0:=by rw[q_6,a1,Int.zero_mul]
  have a7:V=0:=by rw[q_7,a6];rfl
  have a8:=HJ q_8 rfl (by omega) (by omega);have a9:R=0:=by rw[q_9,a7,a8];rfl
  have a10:Y=0:=by rw[S9 q_10 (by omega) (by omega)];exact a9
  have a11:=HJ q_11 rfl (by omega) (by omega);have a12:Z=0:=by rw[q_12,a3,Int.mul_zero]
  have a13:x_13=0:=by rw[q_13,a12];rfl
  have a14:x_14=0:=by rw[q_14,a10,a13];rfl
  have a15:x_15=0:=by rw[q_15,a1,Int.zero_mul]
  have a16:x_16=0:=by rw[q_16,a15];rfl
  have a17:x_17=0:=by rw[q_17,a16,a11];rfl
  have a18:=HJ q_18 rfl (by omega) (by omega);have a19:x_19=0:=by rw[q_19,a17,a18];rfl
  have a21:x_21=y:=by rw[q_21,q_20,hp.1,du];exact lC (by omega) (by omega)
  rw[a19,a21];simp[xn,hp.1]
def Tryz.T9:bW Tryz.prog Tryz.B.eT Tryz.X 114 [.int .u64,.int .u64] [.int .u64,.int .u64] (fun z=>z.1=1/\0<=z.2/\z.2<=1000000) (fun x y=>y=(fun z=>xn z) x):=
 cD (X:=Tryz.X) (bR Tryz.bQ) Tryz.func114 (by kernel_rfl) (fun _=>[]) (fun x hw hp=>T8 x.1 x.2 hw hp)
def Tryz.spZ4:Bool×aT:=(true,cC [.int .u64,.int .u64] [.int .u64,.int .u64] (fun z=>z.1=1/\0<=z.2/\z.2<=1000000) (fun z=>xn z))
def Tryz.Jf:List (FuncId×(Bool×aT)):=[(114,Tryz.spZ4)]
def Tryz.Of:bP Tryz.prog Tryz.B Tryz.X Tryz.Jf:=
 aO (aE Tryz.T9) (bR Tryz.bQ)
def W8(x:Int)(y:Int)(hw:gM [.int .u64,.int .u64] (x,y))(hp:(fun z=>z.1=1/\0<=z.2/\z.2<=1000000) (x,y)):(dL Tryz.B Tryz.Jf Tryz.f94 [] [.int .u64,.int .u64] [.int .u64,.int .u64] (fun x y=>y=(fun z=>xn z) x) (x,y)).holds:=by
 refine holds_of (p:=
  (x=1/\0<=y/\y<=1000000)/\(0,x*y)=xn (x,y)) (by kernel_rfl) ?_
 dsimp only at hp;refine⟨?a,?b⟩
 case a|b=>trivial
def Tryz.W9:bW Tryz.prog Tryz.B.eT Tryz.X 94 [.int .u64,.int .u64] [.int .u64,.int .u64] (fun z=>z.1=1/\0<=z.2/\z.2<=1000000) (fun x y=>y=(fun z=>xn z) x):=
 cD (X:=Tryz.X) Tryz.Of Tryz.func94 (by kernel_rfl) (fun _=>[]) (fun x hw hp=>W8 x.1 x.2 hw hp)
def Tryz.Rl:List (FuncId×(Bool×aT)):=[(94,Tryz.spZ4)]
def Tryz.Ua:bP Tryz.prog Tryz.B Tryz.X Tryz.Rl:=
 aO (aE Tryz.W9) (bR Tryz.bQ)
def FD(x:List (List UInt8))(n:Int):dX:=[(0,fun st=>{X:=Nat,inv:=fun k=>1<=k/\k<=n.toNat,cB:=fun k=>n.toNat-k,bM:=fun k=>[(8,sI k)],aF:=fun k=>[(bJ st 7,.aV .str (l6 (nth .str x 0) n.toNat k))],keep:=[4,7],ib:=[bJ st 7]})]
def vU:List (Alt [] [.d (.slice .str),.d (.int .i64)]):=[{bO:=[.row false .str],res:=[.obj 0],out:=fun a _=>(ch a.2.1.toNat (nth .str a.1 0),()),ret:=fun _ _=>()}]
def Rm(x:List (List UInt8))(n:Int)(hw:hU [.d (.slice .str),.d (.int .i64)] (x,n,()))(hp:(fun a _=>a.1.length=1/\1<=a.2.1/\a.2.1<=1000000) (x,n,()) ()):(dA Tryz.B Tryz.Rl Tryz.f67 (FD x n) [] [.d (.slice .str),.d (.int .i64)] vU (x,n,()) ()).holds:=by
 refine holds_of (p:=
  let za:=bb x
  let zb:=bk bu (↑za:Int)
  let zc:=bk bu n
  let zd:=bk bm (zb*zc)
  let ze:=ch (bf zd) (bY Ty.str)
  let zf:=bb ze
  let zg:=bf n
  let zh:=min za zf
  let zi:=nth Ty.str x 0
  let zj:=fun(F:Nat)=>l6 zi zg F
  let zk:=fun(F:Nat)=>bb (zj F)
  let zl:=fun(F:Nat)=>(↑(zk F):Int)
  let zm:=fun(F:Nat)=>bd (F-0) (bj 0 (zj F))
  let zn:=fun(F:Nat)=>min (bb (zm F)) (zk F-F)
  let zo:=fun(F:Nat)=>(↑F:Int)+(↑(zn F):Int)
  ((decide (n<(0:Int)))=true->False)/\((decide (n<(0:Int)))=false->za<=aM->(zb=(1:Int)/\(0:Int)<=zc/\zc<=(1000000:Int))/\((decide ((0:Int) > (0:Int)))=true->False)/\((decide ((0:Int) > (0:Int)))=false->((decide (zb*zc > (9223372036854775807:Int)))=true->False)/\((decide (zb*zc > (9223372036854775807:Int)))=false->((0:Int)<=zd/\zd=zd/\zd<=(1000000000:Int))/\(True/\0+zf<=zf)/\(∃(G:Nat),(1<=G/\G<=zg)/\((↑zh:Int)=(↑G:Int)/\True)/\bd 0 ze++bd zh x++bj (0+zh) ze=l6 zi zg G/\True)/\∀F:Nat,1<=F/\F<=zg->zk F<=aM->((decide ((↑F:Int)<zl F))=true->((0:Int)<=(↑F:Int)/\(↑F:Int)<=zl F/\zl F<=zl F)/\((0:Int)<=(0:Int)/\(0:Int)<=(↑F:Int)/\(↑F:Int)<=zl F)/\(0+(F-0)<=zk F/\F+(zk F-F)<=zk F)/\(aJ (↑F:Int)->aJ (↑(zn F):Int)->aJ (zo F)/\∃(x':Nat),(1<=x'/\x'<=zg)/\zg-x'<zg-F/\(zo F=(↑x':Int)/\True)/\bd F (zj F)++bd (zn F) (zm F)++bj (F+zn F) (zj F)=l6 zi zg x'/\@bc (List UInt8)=@bc (List UInt8)/\True))/\((decide ((↑F:Int)<zl F))=false->True/\(zj F,())=(ch zg zi,())/\()=()))))) (by kernel_rfl) ?_
 dsimp -iota -proj -eta only;dsimp only at hp;have e1:bk bu n=n:=lC (by omega) (by omega);have e2:bk bu (x.length:Int)=1:=by rw[hp.1];exact lC (by decide) (by decide)
 have e3:bk bm (1*n)=n:=by rw[du];exact lD (by omega) (by omega)
 refine iL (fun h0 =>?a) (fun h0 h1=>⟨(by rw[e1,e2];omega),⟨fun h2=>absurd (show false=true from h2) (by decide),fun h2=>iL (fun h3=>(by rw[e1,e2]at*;omega)) (fun h3=>⟨(by rw[e1,e2,e3];omega),(by simp_all),?b,fun F q_0 h4=>iL (fun h5=>⟨?c,?d,?e,fun h6 h7=>⟨(by simp only[aJ,aM]at*;omega),?f⟩⟩) (fun h5=>(by rw[show F=bf n by have hl:=HK (s:=nth .str x 0) (n:=bf n) (k:=F) (by omega);omega,PI];exact⟨ba,rfl,rfl⟩))⟩)⟩⟩)
 case a|c|d|e=>omega
 case b=>
  rw[e1,e2,e3];obtain⟨s,rfl⟩:=dn.1 hp.1;refine⟨1,by omega,⟨?_,ba⟩,?_,(by trivial)⟩
  ·simp only[bw,cp];omega
  ·have hm:min (bb [s]) (bb (ch (bf n) (bY Ty.str)))=1:=by simp only[bw,cp];omega
   rw[hm];exact M1 (n:=bf n) (by omega) rfl [s] rfl
 case f=>
  have hl:=HK (s:=nth .str x 0) (n:=bf n) (k:=F) (by omega);have e6:min (bb (bd (F-0) (bj 0 (l6 (nth .str x 0) (bf n) F)))) (bb (l6 (nth .str x 0) (bf n) F)-F)=min F (bf n-F):=by
   simp only[b5,c6];omega
  rw[e6];refine⟨F+min F (bf n-F),by omega,by omega,⟨by omega,ba⟩,?_,(by trivial)⟩;rw[Nat.sub_zero,c6];exact PH (by omega) (by omega)
def Tryz.Rn:bX Tryz.prog Tryz.B.eT Tryz.X 67 false (aX [] [.d (.slice .str),.d (.int .i64)] (fun a _=>a.1.length=1/\1<=a.2.1/\a.2.1<=1000000) vU):=
 bH (X:=Tryz.X) Tryz.Ua Tryz.func67 (by kernel_rfl) (fun(a:CD [.d (.slice .str),.d (.int .i64)]) (x:PD [])=>FD a.1 a.2.1) (fun(a:CD [.d (.slice .str),.d (.int .i64)]) (x:PD []) hw hp=>Rm a.1 a.2.1 hw hp)
def xY:List (Alt [.row true .str] [.obj 0]):=[{bO:=[.row true .str,.row false .str],res:=[.obj 1],ok:=fun _ x=>x.1≠[],out:=fun _ x=>(x.1,x.1,()),ret:=fun _ _=>()}]
def Ro(l:List (List UInt8))(hw:hU [.obj 0] ())(hp:(fun _ x=>x.1≠[]/\x.1.length<=1000000) () (l,())):(dA Tryz.B [] Tryz.f69 [] [.row true .str] [.obj 0] xY () (l,())).holds:=by
 refine holds_of (p:=
  ∀F:Bool,(0<bb l->F=false)->(F=true->False)/\(F=false->bb l<=1000000000/\l≠@bc (List UInt8)/\(l,l,())=(l,l,())/\()=())) (by kernel_rfl) ?_
 dsimp only at hp;refine fun F q_0=>⟨fun h0 =>?a,fun h0=>⟨(by omega),?b⟩⟩
 case a|b=>simp_all
def Tryz.Rp:bX Tryz.prog Tryz.B.eT Tryz.X 69 false (aX [.row true .str] [.obj 0] (fun _ x=>x.1≠[]/\x.1.length<=1000000) xY):=
 bH (X:=Tryz.X) (bR Tryz.bQ) Tryz.func69 (by kernel_rfl) (fun(a:CD [.obj 0]) (x:PD [.row true .str])=>[]) (fun(a:CD [.obj 0]) (x:PD [.row true .str]) hw hp=>Ro x.1 hw hp)
def Tryz.spZ5:Bool×aT:=(true,cC [.str] [.str] (fun s=>s.length<=64) (fun s=>cV s))
def Tryz.Jg:List (FuncId×(Bool×aT)):=[(68,Tryz.spZ5),(67,(false,aX [] [.d (.slice .str),.d (.int .i64)] (fun a _=>a.1.length=1/\1<=a.2.1/\a.2.1<=1000000) vU)),(69,(false,aX [.row true .str] [.obj 0] (fun _ x=>x.1≠[]/\x.1.length<=1000000) xY))]
def Tryz.Og:bP Tryz.prog Tryz.B Tryz.X Tryz.Jg:=
 aO (aE Tryz.LW) (aO (Tryz.Rn) (aO (Tryz.Rp) (bR Tryz.bQ)))
def Tryz.Bj:List (Alt Tryz.bB [.obj 0]):=[{bO:=Tryz.bB,res:=[.d .err],out:=fun _ x=>(stepOf x).1,ret:=fun _ x=>(aI (stepOf x).2,())}]
def V2(d:Dk)(hw:hU [.obj 0] ())(hp:(fun _ x =>-1<=x.1.1) () d):(dA Tryz.B [] Tryz.f95 [] Tryz.bB [.obj 0] Tryz.Bj () d).holds:=by
 refine holds_of (p:=
  let za:=d.2.2.2.1=d.2.2.2.1
  let zb:=(-1:Int)
  let zc:=(stepOf d).1
  let zd:=(aI (stepOf d).2,())
  let ze:=(aK.no 9,())=zd
  let zf:=zb-1
  let zg:=(aK.nil,())=zd
  let zh:=d.1.1-1
  let zi:=((d.1.2.1)=true->za/\True/\d=zc/\ze)/\((d.1.2.1)=false->aJ d.1.1->aJ 1->aJ zh/\za/\True/\((if zb > zh then zb else zh,d.1.2),d.2)=zc/\zg)
  ((!d.1.2.1)=true->((d.1.1 == 0)=true->(true=true->za/\True/\((zb,true,()),d.2)=zc/\ze)/\(true=false->aJ zb->aJ 1->aJ zf/\za/\True/\((if zb > zf then zb else zf,true,()),d.2)=zc/\zg))/\((d.1.1 == 0)=false->zi))/\((!d.1.2.1)=false->zi)) (by kernel_rfl) ?_
 dsimp -iota -proj -eta only;refine iB (fun h0=>iQ (fun h1=>⟨fun h2=>(by rw[zJ (by simp_all) ‹_›];exact⟨rfl,ba,rfl,rfl⟩),fun h2=>absurd (show true=false from h2) (by decide)⟩) (fun h1=>⟨fun h2 =>?a,fun h2 h3 h4=>⟨?b,(by rw[EJ (by simp_all) ‹_› hp];exact⟨rfl,ba,rfl,rfl⟩)⟩⟩)) (fun h0=>⟨fun h1 =>?c,fun h1 h2 h3=>⟨?d,(by simp_all)⟩⟩)
 case a|c=>rw[Kl (by simp_all)];exact⟨rfl,ba,rfl,rfl⟩
 case b|d=>simp only[aJ]at*;omega
def Tryz.V3:bX Tryz.prog Tryz.B.eT Tryz.X 95 false (aX Tryz.bB [.obj 0] (fun _ x =>-1<=x.1.1) Tryz.Bj):=
 bH (X:=Tryz.X) (bR Tryz.bQ) Tryz.func95 (by kernel_rfl) (fun(a:CD [.obj 0]) (x:PD Tryz.bB)=>[]) (fun(a:CD [.obj 0]) (x:PD Tryz.bB) hw hp=>V2 x hw hp)
def Tryz.Bk:List (FuncId×(Bool×aT)):=[(68,Tryz.spZ5),(95,(false,aX Tryz.bB [.obj 0] (fun _ x =>-1<=x.1.1) Tryz.Bj))]
def Tryz.CW:bP Tryz.prog Tryz.B Tryz.X Tryz.Bk:=
 aO (aE Tryz.LW) (aO (Tryz.V3) (bR Tryz.bQ))
def Tryz.xZ:List (Alt Tryz.bB [.obj 0,.d (.int .i64),.d .str]):=[{bO:=Tryz.bB,res:=[.d .err],out:=fun a x=>(bK x a.1 a.2.1).1,ret:=fun a x=>(aI (bK x a.1 a.2.1).2,())}]
def Rq(at_:Int)(s:List UInt8)(d:Dk)(hw:hU [.obj 0,.d (.int .i64),.d .str] (at_,s,()))(hp:(fun _ x =>-1<=x.1.1/\x.2.2.2.1.length<=900000000) (at_,s,()) d):(dA Tryz.B Tryz.Bk Tryz.f70 [] Tryz.bB [.obj 0,.d (.int .i64),.d .str] Tryz.xZ (at_,s,()) d).holds:=by
 refine holds_of (p:=
  let za:=d.2.2.2.1=d.2.2.2.1
  let zb:=bK d at_ s
  let zc:=(aI zb.2,())
  let zd:=za/\True/\d=zb.1/\(aK.no 1,())=zc
  let ze:=bb d.2.2.1
  let zf:=bb s
  let zg:=aI (stepOf d).2
  let zh:=(stepOf d).1
  let zi:=bb zh.2.2.1
  let zj:=bf at_
  let zk:=c7 zh.2.2.1 zj (cV s)
  let zl:=zh.2.2.2.1
  let zm:=[(at_,nth Ty.str zk zj,())]
  let zn:=zl++zm
  let zo:=(zg,())=zc
  ((decide (at_<0))=true->zd)/\((decide (at_<0))=false->ze<=aM->((decide (at_>=(↑ze:Int)))=true->zd)/\((decide (at_>=(↑ze:Int)))=false->zf<=aM->((decide ((↑zf:Int) > 64))=true->zd)/\((decide ((↑zf:Int) > 64))=false->za/\(-1:Int)<=d.1.1/\(True->((aK.isNil zg)=true->zf<=64/\(0<=at_/\at_<(↑zi:Int))/\zj<zi/\(0<=at_/\at_<(↑(bb zk):Int))/\zj<bb zk/\(zl=zl/\bb zl+bb zm<=1000000000)/\zn=zn/\True/\(zh.1,zh.2.1,zk,zn,())=zb.1/\zo)/\((aK.isNil zg)=false->zl=zl/\True/\zh=zb.1/\zo)))))) (by kernel_rfl) ?_
 dsimp -iota -proj -eta only;refine iL (fun h0 =>?a) (fun h0 h1=>iE (fun h2 =>?b) (fun h2 h3=>iL (fun h4 =>?c) (fun h4=>⟨rfl,?d,fun h5=>⟨fun h6=>⟨?e,?f,?g,?h,?i,?j,?k⟩,fun h6=>(by rw[Kk (by omega) (fun h=>by have:=aQ.2 h;simp_all)];exact⟨rfl,ba,rfl,rfl⟩)⟩⟩)))
 case a|b|c=>rw[M3 (by omega)];exact⟨rfl,ba,rfl,rfl⟩
 case d|e=>omega
 case f|g=>
  have hlen:(stepOf d).fst.snd.snd.fst=d.snd.snd.fst:=congrArg (fun z=>z.2.1) (fB d);have hwt:(stepOf d).fst.snd.snd.snd.fst=d.snd.snd.snd.fst:=congrArg (fun z=>z.2.2.1) (fB d);have hkp:(stepOf d).fst.snd.fst=d.snd.fst:=congrArg (fun z=>z.1) (fB d);rw[hlen];omega
 case h|i=>
  have hlen:(stepOf d).fst.snd.snd.fst=d.snd.snd.fst:=congrArg (fun z=>z.2.1) (fB d);have hwt:(stepOf d).fst.snd.snd.snd.fst=d.snd.snd.snd.fst:=congrArg (fun z=>z.2.2.1) (fB d);have hkp:(stepOf d).fst.snd.fst=d.snd.fst:=congrArg (fun z=>z.1) (fB d);rw[en,hlen];omega
 case j=>
  have hlen:(stepOf d).fst.snd.snd.fst=d.snd.snd.fst:=congrArg (fun z=>z.2.1) (fB d);have hwt:(stepOf d).fst.snd.snd.snd.fst=d.snd.snd.snd.fst:=congrArg (fun z=>z.2.2.1) (fB d);have hkp:(stepOf d).fst.snd.fst=d.snd.fst:=congrArg (fun z=>z.1) (fB d);rw[hwt];simp only[bw,true_and];omega
 case k=>
  have hlen:(stepOf d).fst.snd.snd.fst=d.snd.snd.fst:=congrArg (fun z=>z.2.1) (fB d);have hwt:(stepOf d).fst.snd.snd.snd.fst=d.snd.snd.snd.fst:=congrArg (fun z=>z.2.2.1) (fB d);have hkp:(stepOf d).fst.snd.fst=d.snd.fst:=congrArg (fun z=>z.1) (fB d);rw[PJ (by omega) (aQ.1 ‹_›),Vx (t:=.str) (by rw[hlen];omega),hlen,hwt,hkp];exact⟨rfl,ba,rfl,by simp[aQ.1 ‹(aI (stepOf d).snd).isNil=true›]⟩
def Tryz.tl:bX Tryz.prog Tryz.B.eT Tryz.X 70 false (aX Tryz.bB [.obj 0,.d (.int .i64),.d .str] (fun _ x =>-1<=x.1.1/\x.2.2.2.1.length<=900000000) Tryz.xZ):=
 bH (X:=Tryz.X) Tryz.CW Tryz.func70 (by kernel_rfl) (fun(a:CD [.obj 0,.d (.int .i64),.d .str]) (x:PD Tryz.bB)=>[]) (fun(a:CD [.obj 0,.d (.int .i64),.d .str]) (x:PD Tryz.bB) hw hp=>Rq a.1 a.2.1 x hw hp)
def Tryz.Bl:List (Alt Tryz.bB [.obj 0,.d (.int .i64)]):=[{bO:=Tryz.bB,res:=[.d .str,.d .err],out:=fun _ x=>x,ret:=fun a x=>((qx x a.1).1,aI (qx x a.1).2,())}]
def Ub(at_:Int)(d:Dk)(hw:hU [.obj 0,.d (.int .i64)] (at_,())):(dA Tryz.B [] Tryz.f58 [] Tryz.bB [.obj 0,.d (.int .i64)] Tryz.Bl (at_,()) d).holds:=by
 refine holds_of (p:=
  let za:=d.2.2.2.1=d.2.2.2.1
  let zb:=((qx d at_).1,aI (qx d at_).2,())
  let zc:=za/\True/\d=d/\([],aK.no 1,())=zb
  let zd:=bb d.2.2.1
  ((d.1.2.1)=true->za/\True/\d=d/\([],aK.no 9,())=zb)/\((d.1.2.1)=false->((decide (at_<0))=true->zc)/\((decide (at_<0))=false->zd<=aM->((decide (at_>=(↑zd:Int)))=true->zc)/\((decide (at_>=(↑zd:Int)))=false->(0<=at_/\at_<(↑zd:Int))/\bf at_<zd/\za/\True/\d=d/\(nth Ty.str d.2.2.1 (bf at_),aK.nil,())=zb)))) (by kernel_rfl) ?_
 dsimp -iota -proj -eta only;refine⟨fun h0=>(by rw[M4 ‹_›];exact⟨rfl,ba,rfl,rfl⟩),fun h0=>iL (fun h1 =>?a) (fun h1 h2=>iE (fun h3 =>?b) (fun h3=>⟨(by trivial),(by omega),(by rw[Td ‹_› (by omega)];exact⟨rfl,ba,rfl,rfl⟩)⟩))⟩
 case a|b=>rw[PL ‹_› (by omega)];exact⟨rfl,ba,rfl,rfl⟩
def Tryz.Jh:bX Tryz.prog Tryz.B.eT Tryz.X 58 false (aX Tryz.bB [.obj 0,.d (.int .i64)] (fun _ _=>True) Tryz.Bl):=
 bH (X:=Tryz.X) (bR Tryz.bQ) Tryz.func58 (by kernel_rfl) (fun(a:CD [.obj 0,.d (.int .i64)]) (x:PD Tryz.bB)=>[]) (fun(a:CD [.obj 0,.d (.int .i64)]) (x:PD Tryz.bB) hw hp=>Ub a.1 x hw)
def Tryz.x4:List (Alt Tryz.bB [.obj 0]):=[{bO:=Tryz.bB,res:=[.d .err],out:=fun _ x=>(bL x).1,ret:=fun _ x=>(aI (bL x).2,())}]
def Rr(d:Dk)(hw:hU [.obj 0] ())(hp:(fun _ x =>-1<=x.1.1/\x.2.1.length=x.2.2.1.length) () d):(dA Tryz.B Tryz.Bk Tryz.f71 [] Tryz.bB [.obj 0] Tryz.x4 () d).holds:=by
 refine holds_of (p:=
  let za:=aI (stepOf d).2
  let zb:=(stepOf d).1
  let zc:=bb zb.2.1
  let zd:=zb.2.2.1
  let ze:=min (bb zd) zc
  let zf:=(za,())=(aI (bL d).2,())
  d.2.2.2.1=d.2.2.2.1/\(-1:Int)<=d.1.1/\(True->((aK.isNil za)=true->(True/\0+zc<=zc)/\(@bc (Int×List UInt8×Unit)=@bc (Int×List UInt8×Unit)/\True/\(zb.1,bd 0 zb.2.1++bd ze zd++bj (0+ze) zb.2.1,zd,[],())=(bL d).1/\zf))/\((aK.isNil za)=false->zb.2.2.2.1=zb.2.2.2.1/\True/\zb=(bL d).1/\zf))) (by kernel_rfl) ?_
 dsimp -iota -proj -eta only;refine⟨rfl,(by omega),fun h0=>⟨fun h1=>⟨(by simp_all),?a⟩,fun h1=>(by rw[zK (fun h=>by have:=aQ.2 h;simp_all)];exact⟨rfl,ba,rfl,rfl⟩)⟩⟩
 case a=>
  have hlen:(stepOf d).fst.snd.snd.fst=d.snd.snd.fst:=congrArg (fun z=>z.2.1) (fB d);have hwt:(stepOf d).fst.snd.snd.snd.fst=d.snd.snd.snd.fst:=congrArg (fun z=>z.2.2.1) (fB d);have hkp:(stepOf d).fst.snd.fst=d.snd.fst:=congrArg (fun z=>z.1) (fB d);have h0:=aQ.1 ‹(aI (stepOf d).snd).isNil=true›;rw[EK h0,hlen,hkp,HM hp.2,h0];exact⟨rfl,ba,rfl,rfl⟩
def Tryz.tm:bX Tryz.prog Tryz.B.eT Tryz.X 71 false (aX Tryz.bB [.obj 0] (fun _ x =>-1<=x.1.1/\x.2.1.length=x.2.2.1.length) Tryz.x4):=
 bH (X:=Tryz.X) Tryz.CW Tryz.func71 (by kernel_rfl) (fun(a:CD [.obj 0]) (x:PD Tryz.bB)=>[]) (fun(a:CD [.obj 0]) (x:PD Tryz.bB) hw hp=>Rr x hw hp)
def Tryz.DT:List (Alt Tryz.bB [.obj 0,.d (.int .i64)]):=[{bO:=Tryz.bB,res:=[],out:=fun a x=>AR x a.1,ret:=fun _ _=>()}]
def V4(n:Int)(d:Dk)(hw:hU [.obj 0,.d (.int .i64)] (n,())):(dA Tryz.B [] Tryz.f18 [] Tryz.bB [.obj 0,.d (.int .i64)] Tryz.DT (n,()) d).holds:=by
 refine holds_of (p:=
  d.2.2.2.1=d.2.2.2.1/\True/\((if(-1:Int) > n then(-1:Int)else n,d.1.2),d.2)=AR d n/\()=()) (by kernel_rfl) ?_
 exact⟨rfl,ba,rfl,rfl⟩
def Tryz.LX:bX Tryz.prog Tryz.B.eT Tryz.X 18 false (aX Tryz.bB [.obj 0,.d (.int .i64)] (fun _ _=>True) Tryz.DT):=
 bH (X:=Tryz.X) (bR Tryz.bQ) Tryz.func18 (by kernel_rfl) (fun(a:CD [.obj 0,.d (.int .i64)]) (x:PD Tryz.bB)=>[]) (fun(a:CD [.obj 0,.d (.int .i64)]) (x:PD Tryz.bB) hw hp=>V4 a.1 x hw)
def Tryz.Bm:List (Alt Tryz.bB [.obj 0]):=[{bO:=Tryz.bB,res:=[.d .bool],out:=fun _ x=>x,ret:=fun _ x=>(x.1.2.1,())}]
def Uc(d:Dk)(hw:hU [.obj 0] ()):(dA Tryz.B [] Tryz.f19 [] Tryz.bB [.obj 0] Tryz.Bm () d).holds:=by
 refine holds_of (p:=
  d.2.2.2.1=d.2.2.2.1/\True/\d=d/\d.1.2=d.1.2) (by kernel_rfl) ?_
 exact(by trivial)
def Tryz.Bn:bX Tryz.prog Tryz.B.eT Tryz.X 19 false (aX Tryz.bB [.obj 0] (fun _ _=>True) Tryz.Bm):=
 bH (X:=Tryz.X) (bR Tryz.bQ) Tryz.func19 (by kernel_rfl) (fun(a:CD [.obj 0]) (x:PD Tryz.bB)=>[]) (fun(a:CD [.obj 0]) (x:PD Tryz.bB) hw hp=>Uc x hw)
def Tryz.tO:List (Alt Tryz.bB [.obj 0]):=[{bO:=Tryz.bB,res:=[.d (.int .i64)],out:=fun _ x=>x,ret:=fun _ x=>((x.2.2.1.length:Int),())}]
def KK(d:Dk)(hw:hU [.obj 0] ()):(dA Tryz.B [] Tryz.f57 [] Tryz.bB [.obj 0] Tryz.tO () d).holds:=by
 refine holds_of (p:=
  let za:=bb d.2.2.1
  let zb:=((↑za:Int),())
  za<=aM->d.2.2.2.1=d.2.2.2.1/\True/\d=d/\zb=zb) (by kernel_rfl) ?_
 dsimp -iota -proj -eta only;exact fun h0=>(by trivial)
def Tryz.qB:bX Tryz.prog Tryz.B.eT Tryz.X 57 false (aX Tryz.bB [.obj 0] (fun _ _=>True) Tryz.tO):=
 bH (X:=Tryz.X) (bR Tryz.bQ) Tryz.func57 (by kernel_rfl) (fun(a:CD [.obj 0]) (x:PD Tryz.bB)=>[]) (fun(a:CD [.obj 0]) (x:PD Tryz.bB) hw hp=>KK x hw)
def Tryz.ou:List (Alt Tryz.bB [.obj 0,.d (.int .u64)]):=[{bO:=Tryz.bB,res:=[],out:=fun a x=>gO x a.1,ret:=fun _ _=>()}]
def CX(k:Int)(d:Dk):dX:=[(0,fun st=>{X:=Nat,inv:=fun i=>i<=d.2.2.2.1.length,cB:=fun i=>d.2.2.2.1.length-i,bM:=fun i=>[(11,sI i)],aF:=fun i=>[(1,.aV .str (gB k d.2.2.2.1 d.2.1 i))],keep:=[0,1,9,10],ib:=[1]})]
def KL(k:Int)(d:Dk)(hw:hU [.obj 0,.d (.int .u64)] (k,()))(hp:(fun _ x=>x.2.1.length=x.2.2.1.length/\∀i,i<x.2.2.2.1.length->0<=((nth fG x.2.2.2.1 i).1:Int)/\((nth fG x.2.2.2.1 i).1:Int)<x.2.2.1.length) (k,()) d):(dA Tryz.B [] Tryz.f20 (CX k d) Tryz.bB [.obj 0,.d (.int .u64)] Tryz.ou (k,()) d).holds:=by
 refine holds_of (p:=
  let za:=d.2.2.2.1
  let zb:=bb za
  let zc:=d.2.1
  let zd:=fun(F:Nat)=>(nth fG za F).1
  let ze:=fun(F:Nat)=>gB k za zc F
  let zf:=fun(F:Nat)=>(↑F:Int)+(1:Int)
  let zg:=d.2.2.1
  let zh:=(C.aV 1=C.aV 1/\C.aV 2=C.aV 2/\za=za/\d.1.1=d.1.1/\d.1.2.1=d.1.2.1/\True)/\zg=zg/\za=za/\True
  let zi:=bb zg
  zb<=aM->(∃(x:Nat),x<=zb/\((0:Int)=(↑x:Int)/\True)/\zc=gB k za zc x/\True)/\∀F:Nat,F<=zb->((decide ((↑F:Int)<(↑zb:Int)))=true->((0:Int)<=(↑F:Int)/\(↑F:Int)<(↑zb:Int))/\(64:Int)≠(0:Int)/\∀G:Int,G=db (↑F:Int) (64:Int)->(0:Int)<=G/\∀I:Int,I=cf k ((2:Int)^min (bf G) (cj bu))->∀K:Int,K=bk bu (↑(cq (ca (cj bu) I&&&ca (cj bu) (1:Int))):Int)->((K == (1:Int))=true->((0:Int)<=zd F/\zd F<(↑(bb (ze F)):Int))/\bf (zd F)<bb (ze F)/\(aJ (↑F:Int)->aJ (1:Int)->aJ (zf F)/\∃(x':Nat),x'<=zb/\zb-x'<zb-F/\(zf F=(↑x':Int)/\True)/\c7 (ze F) (bf (zd F)) (nth fG za F).2.1=gB k za zc x'/\zh))/\((K == (1:Int))=false->aJ (↑F:Int)->aJ (1:Int)->aJ (zf F)/\∃(x':Nat),x'<=zb/\zb-x'<zb-F/\(zf F=(↑x':Int)/\True)/\ze F=gB k za zc x'/\zh))/\((decide ((↑F:Int)<(↑zb:Int)))=false->(True/\0+zi<=zi)/\(@bc (Int×List UInt8×Unit)=@bc (Int×List UInt8×Unit)/\True/\(((-1:Int),false,()),ze F,bd 0 zg++bd (min (bb (ze F)) zi) (ze F)++bj (0+min (bb (ze F)) zi) zg,[],())=gO d k/\()=()))) (by kernel_rfl) ?_
 dsimp -iota -proj -eta only;refine fun h0=>⟨?a,fun F q_0=>iL (fun h1=>⟨(by omega),(by trivial),fun G q_1=>⟨(by have:=UR F;rw[Int.tmod_eq_emod_of_nonneg (by omega)]at*;omega),fun I q_2 K q_3=>iQ (fun h2=>⟨?b,?c,fun h3 h4=>⟨?d,?e⟩⟩) (fun h2 h3 h4=>⟨?f,?g⟩)⟩⟩) (fun h1=>⟨(by simp_all),?h⟩)⟩
 case a=>refine⟨0,?_⟩;(repeat' (first|exact trivial|rfl|omega|assumption|apply dv))
 case b|c=>have:=hp.2 F (by omega);rw[o3];(try dsimp only[D]at*);omega
 case d|f=>simp only[aJ,aM]at*;omega
 case e|g=>
  have hb:=Ta (k:=k) (i:=F) (x:=I) (y:=K) ‹_› (by rw[‹G=_›];exact UR F) ‹_›
  first|exact⟨F+1,by omega,by omega,⟨by omega,ba⟩,Tb (hb.1 ‹_›),(by trivial)⟩|exact⟨F+1,by omega,by omega,⟨by omega,ba⟩,PK ((not_congr hb).1 ‹_›),(by trivial)⟩
 case h=>
  obtain rfl:F=d.2.2.2.1.length:=by omega
  rw[HM (by rw[o3];exact hp.1.symm)];exact⟨rfl,ba,rfl,rfl⟩
def Tryz.tP:bX Tryz.prog Tryz.B.eT Tryz.X 20 false (aX Tryz.bB [.obj 0,.d (.int .u64)] (fun _ x=>x.2.1.length=x.2.2.1.length/\∀i,i<x.2.2.2.1.length->0<=((nth fG x.2.2.2.1 i).1:Int)/\((nth fG x.2.2.2.1 i).1:Int)<x.2.2.1.length) Tryz.ou):=
 bH (X:=Tryz.X) (bR Tryz.bQ) Tryz.func20 (by kernel_rfl) (fun(a:CD [.obj 0,.d (.int .u64)]) (x:PD Tryz.bB)=>CX a.1 x) (fun(a:CD [.obj 0,.d (.int .u64)]) (x:PD Tryz.bB) hw hp=>KL a.1 x hw hp)
def Tryz.Bo:List (Alt [] [.d (.int .i64)]):=[
 {bO:=[],res:=[.ia,.d .err],ok:=fun a _=>a.1<1\/120<a.1,out:=fun _ _=>(),ret:=fun _ _=>(aK.no 1,())},
 {bO:=Tryz.bB,res:=[.obj 0,.d .err],ok:=fun a _=>1<=a.1/\a.1<=120,out:=fun a _=>rb a.1,ret:=fun _ _=>(aK.nil,())}]
def V5(n:Int)(hw:hU [.d (.int .i64)] (n,())):(dA Tryz.B Tryz.Jg Tryz.f43 [] [] [.d (.int .i64)] Tryz.Bo (n,()) ()).holds:=by
 refine holds_of (p:=
  let za:=(aK.no 1,())
  let zb:=(n<1\/120<n)/\()=()/\za=za
  let zc:=[cV (@bc UInt8)]
  let zd:=ch (bf n) (nth Ty.str zc 0)
  let ze:=zd≠@bc (List UInt8)
  ((decide (n<1))=true->zb)/\((decide (n<1))=false->((decide (n > 120))=true->zb)/\((decide (n > 120))=false->bb (@bc UInt8)<=64/\(bb zc=1/\1<=n/\n<=1000000)/\(True->(ze/\bb zd<=1000000)/\(ze->(@bc (Int×List UInt8×Unit)=@bc (Int×List UInt8×Unit)/\(1<=n/\n<=120)/\(((-1:Int),false,()),zd,zd,[],())=rb n/\(aK.nil,())=(aK.nil,()))))))) (by kernel_rfl) ?_
 dsimp -iota -proj -eta only;refine iL (fun h0 =>?a) (fun h0=>iL (fun h1 =>?b) (fun h1=>⟨(by trivial),⟨rfl,by omega,by omega⟩,fun h2=>⟨?c,fun h3=>⟨rfl,by omega,rfl,rfl⟩⟩⟩))
 case a|b=>exact⟨by omega,rfl,rfl⟩
 case c=>
  refine⟨fun h =>?_,by simp only[cp];omega⟩;have:=congrArg bb h;simp only[cp,b3]at this;omega
def Tryz.LY:bX Tryz.prog Tryz.B.eT Tryz.X 43 false (aX [] [.d (.int .i64)] (fun _ _=>True) Tryz.Bo):=
 bH (X:=Tryz.X) Tryz.Og Tryz.func43 (by kernel_rfl) (fun(a:CD [.d (.int .i64)]) (x:PD [])=>[]) (fun(a:CD [.d (.int .i64)]) (x:PD []) hw hp=>V5 a.1 hw)
def V6(n:Int)(hw:gM [.int .i64] n):(dL Tryz.B [] Tryz.f96 [] [.int .i64] [.str] (fun x y=>y=(fun n=>jW n) x) n).holds:=by
 refine holds_of (p:=
  (0:Int)<=(8:Int)/\∀F:Int,F=cf n ((2:Int)^min 8 (cj bm))->(0:Int)<=(16:Int)/\∀G:Int,G=cf n ((2:Int)^min 16 (cj bm))->(0:Int)<=(24:Int)/\∀I:Int,I=cf n ((2:Int)^min 24 (cj bm))->bb [bk cd n,bk cd F,bk cd G,bk cd I]<=aM/\bytesOf [bk cd n,bk cd F,bk cd G,bk cd I]=jW n) (by kernel_rfl) ?_
 refine⟨?a,fun F q_0=>⟨?b,fun G q_1=>⟨?c,fun I q_2=>⟨((by decide:4<=aM)),(by subst q_0;subst q_1;subst q_2;rfl)⟩⟩⟩⟩
 case a|b|c=>trivial
def Tryz.V7:bW Tryz.prog Tryz.B.eT Tryz.X 96 [.int .i64] [.str] (fun _=>True) (fun x y=>y=(fun n=>jW n) x):=
 cD (X:=Tryz.X) (bR Tryz.bQ) Tryz.func96 (by kernel_rfl) (fun _=>[]) (fun x hw hp=>V6 x hw)
def Tryz.LZ:List (FuncId×(Bool×aT)):=[(96,(true,cC [.int .i64] [.str] (fun _=>True) (fun n=>jW n)))]
def Tryz.Rs:bP Tryz.prog Tryz.B Tryz.X Tryz.LZ:=
 aO (aE Tryz.V7) (bR Tryz.bQ)
def Ud(a:Int)(b:Int)(hw:gM [.int .i64,.int .i64] (a,b)):(dL Tryz.B Tryz.LZ Tryz.f72 [] [.int .i64,.int .i64] [.str] (fun x y=>y=(fun x=>dU x.1 x.2) x) (a,b)).holds:=by
 refine holds_of (p:=
  let za:=[(83:UInt8)]++jW a
  True/\bb [(83:UInt8)]+bb (jW a)<=aM/\True/\bb za+bb (jW b)<=aM/\za++jW b=dU a b) (by kernel_rfl) ?_
 dsimp -iota -proj -eta only;exact⟨ba,(by rw[tc];exact(by decide:1+4<=aM)),ba,(by rw[bt,tc,tc];exact(by decide:1+4+4<=aM)),(by trivial)⟩
def Tryz.Ji:bW Tryz.prog Tryz.B.eT Tryz.X 72 [.int .i64,.int .i64] [.str] (fun _=>True) (fun x y=>y=(fun x=>dU x.1 x.2) x):=
 cD (X:=Tryz.X) Tryz.Rs Tryz.func72 (by kernel_rfl) (fun _=>[]) (fun x hw hp=>Ud x.1 x.2 hw)
def Rt(s:List UInt8)(hw:gM [.str] s)(hp:(fun s=>4<=s.length) s):(dL Tryz.B [] Tryz.f59 [] [.str] [.int .i64] (fun s y=>(y:Int)=iW s) s).holds:=by
 refine holds_of (p:=
  let za:=(↑(bb s):Int)
  let zb:=cj bm
  let zc:=fun(K G I:Int)=>K=bk bm (↑(cq (ca zb G ||| ca zb I)):Int)
  ((0:Int)<=(0:Int)/\(0:Int)<za)/\((0:Int)<=(1:Int)/\(1:Int)<za)/\(0:Int)<=(8:Int)/\∀F:Int,F=bk bm ((↑(b6 (dW s 1)):Int)*(2:Int)^min 8 zb)->∀G:Int,G=bk bm (↑(cq (ca zb (↑(b6 (dW s 0)):Int) ||| ca zb F)):Int)->((0:Int)<=(2:Int)/\(2:Int)<za)/\(0:Int)<=(16:Int)/\∀I:Int,I=bk bm ((↑(b6 (dW s 2)):Int)*(2:Int)^min 16 zb)->∀K:Int,zc K G I->((0:Int)<=(3:Int)/\(3:Int)<za)/\(0:Int)<=(24:Int)/\∀M:Int,M=bk bm ((↑(b6 (dW s 3)):Int)*(2:Int)^min 24 zb)->∀Q:Int,zc Q K M->Q=iW s) (by kernel_rfl) ?_
 dsimp -iota -proj -eta only;refine⟨?a,?b,?c,fun F q_0 G q_1=>⟨?d,?e,fun I q_2 K q_3=>⟨?f,?g,fun M q_4 Q q_5=>(by subst_vars;rfl)⟩⟩⟩
 case a|b|d|f=>omega
 case c|e|g=>trivial
def Tryz.Ru:bW Tryz.prog Tryz.B.eT Tryz.X 59 [.str] [.int .i64] (fun s=>4<=s.length) (fun s y=>(y:Int)=iW s):=
 cD (X:=Tryz.X) (bR Tryz.bQ) Tryz.func59 (by kernel_rfl) (fun _=>[]) (fun x hw hp=>Rt x hw hp)
def Tryz.spZ6:Bool×aT:=(true,cC [aC] [.str,.err] (fun _=>True) (fun e=>dK e))
def Tryz.FF:List (FuncId×(Bool×aT)):=[(85,(false,sb 169 5)),(88,(false,qN 169 5)),(87,(true,w6 169 5)),(90,Tryz.spZ6)]
def Tryz.KM:bP Tryz.prog Tryz.B Tryz.X Tryz.FF:=
 aO (Tryz.Ai) (aO (Tryz.xX) (aO (Tryz.FC) (aO (aE Tryz.Je) (bR Tryz.bQ))))
def FG(l:List (D aC)):dX:=[
 (0,fun st=>{X:=Nat,inv:=fun i=>i<=l.length/\∀j,j<i->bC (nth aC l j)=0,cB:=fun i=>l.length-i,bM:=fun i=>[(11,sI i)],keep:=[4,9,10],aF:=fun i=>[(bJ st 4,.ext 2 kz (bE (dF (l.take i)),(169:Int),(5:Int),()))],ib:=[bJ st 4]})]
def Ue(l:List (D aC))(hw:gM [.slice aC] l)(hp:(fun l=>l.length<=100) l):(dL (nF Tryz.B [17]) Tryz.FF Tryz.f77 (FG l) [.slice aC] [.str,.err] (fun x y=>y=(fun l=>dV l) x) l).holds:=by
 refine holds_of (p:=
  let za:=bb l
  let zb:=(↑(169:Nat):Int)
  let zc:=fun(b:UInt8)=>(↑(b6 b):Int)
  let zd:=((169:Int),(5:Int),())
  let ze:=(↑(5:Nat):Int)
  let zf:=fun(F:Nat)=>bo zc (dF (bd F l))
  za<=aM->(∃(x:Nat),(x<=za/\∀(j:Nat),j<x->bC (nth aC l j)=(0:Int))/\((0:Int)=(↑x:Int)/\True)/\([],zb,(↑(5:TypeId):Int),())=(bo zc (dF (bd x l)),zd)/\True)/\∀F:Nat,(F<=za/\∀(j:Nat),j<F->bC (nth aC l j)=(0:Int))->((decide ((↑F:Int)<(↑za:Int)))=true->((0:Int)<=(↑F:Int)/\(↑F:Int)<(↑za:Int))/\True/\((!aK.isNil (dK (nth aC l F)).2)=true->([],(dK (nth aC l F)).2)=dV l)/\((!aK.isNil (dK (nth aC l F)).2)=false->((169:Int)=zb/\(5:Int)=ze/\bb (zf F)+bb (dK (nth aC l F)).1<=(140737488355328:Nat))/\(aJ (↑F:Int)->aJ (1:Int)->aJ ((↑F:Int)+(1:Int))/\∃(x':Nat),(x'<=za/\∀(j:Nat),j<x'->bC (nth aC l j)=(0:Int))/\za-x'<za-F/\((↑F:Int)+(1:Int)=(↑x':Int)/\True)/\(zf F++bo zc (dK (nth aC l F)).1,zb,ze,())=(bo zc (dF (bd x' l)),zd)/\True)))/\((decide ((↑F:Int)<(↑za:Int)))=false->((169:Int)=zb/\(5:Int)=ze)/\(bytesOf (zf F),aK.nil)=dV l)) (by kernel_rfl) ?_
 dsimp -iota -proj -eta only;refine fun h0=>⟨(⟨0,⟨b7 _,fun j hj=>absurd hj (cu _)⟩,⟨rfl,ba⟩,rfl,ba⟩),fun F q_0=>iL (fun h1=>⟨(by omega),ba,iB (fun h2=>(QI q_0.2 (by omega) h2)) (fun h2=>⟨?a,fun h3 h4=>⟨(by simp only[aJ,aM]at*;omega),(⟨F+1,⟨by omega,lY q_0.2 (vG h2).1⟩,by omega,⟨by omega,ba⟩,oQ (QJ (by omega) h2),ba⟩)⟩⟩)⟩) (fun h1=>⟨(by trivial),(by rw[show bytesOf (bo _ (dF (bd F l)))=_ from vp _];exact TG q_0.2 (by omega))⟩)⟩
 case a=>refine⟨rfl,rfl,?_⟩;rw[bz];have h1:=QK hp (i:=F) (by omega) q_0.2;have h2:=NT h2;omega
def Tryz.Uf:bW Tryz.prog Tryz.B.eT Tryz.X 77 [.slice aC] [.str,.err] (fun l=>l.length<=100) (fun x y=>y=(fun l=>dV l) x):=
 cD (B:=(nF Tryz.B [17])) (X:=Tryz.X) (bP.hint (l:=[17]) Tryz.KM) Tryz.func77 (by kernel_rfl) (fun x=>FG x) (fun x hw hp=>Ue x hw hp)
end Go.Proofs.YtgokjhhcfemnhadGreatDoor

namespace Go.Proofs.YtgokjhhcfemnhadGreatDoor
open Go.Vg Go.Shelf Go.RowKit
attribute [local go_sem] Oper.semAt_some
def CY(p j k:Nat):Prop:=p=j*k
def Xa{n k m:Nat}(h:min k n=m):(if n<k then((n:Nat):Int)else(k:Int))=(m:Int):=by split <;> omega
def Tryz.XY(b1 b2:Nat)(a:Option Addr)(len cap k:Nat)(w0:World)(h1k:1<=k)(hk9:k<=1000000000)(hl9:len<=1000000000)(hlc:len<=cap)(hsome:0<len->∃b o,a=some ⟨b,o,none⟩)
  (l:Nat)(J Jx:List Nat->World->Prop)(hJd:∀s W,J s W->J s W.drew)
  (hY:∀pre x W1,J pre W1->pre.length<eY len k->YieldAt Fence.wide 1 Tryz.prog l #[kx a len k x] W1 fun e W'=>
   (e=.returned (.bool true)/\J (pre++[x]) W'/\(W'.cell? ⟨b1,0,none⟩=W1.cell? ⟨b1,0,none⟩/\W'.cell? ⟨b2,0,none⟩=W1.cell? ⟨b2,0,none⟩))\/(e=.returned (.bool false)/\Jx (pre++[x]) W'))
  (W:World)(hc1:W.cell? ⟨b1,0,none⟩=some (.slice a len cap))(hc2:W.cell? ⟨b2,0,none⟩=some (.int .i64 k))(h0:J [] W) :
  CallsIn Fence.wide 2 Tryz.prog 97 #[.func (.yield l) #[] #[],.pointer (some ⟨b1,0,none⟩),.pointer (some ⟨b2,0,none⟩)] W fun e W'=>(∃v,e=.returned v)/\((∃xs,xs=cr (eY len k)/\J xs W')\/(∃pre,(∃j,pre=cr j)/\Jx pre W')):=by
 refine callsIn_of_wp Tryz.func97 rfl trivial ?_ rfl;have hn:Tryz.f97.ntmps=31:=rfl;simp only[hn,List.size_toArray,bx,b3,Nat.reduceAdd,Nat.reduceSub,Array.replicate_succ,Array.replicate_zero,List.push_toArray,List.append_toArray,List.nil_append,List.cons_append]
 gi_wp2
 gi_loopw [4] (fun i wr=>∃j p:Nat,CY p j k/\j<=eY len k/\i=.int .i64 (p:Int)/\J (cr j) wr/\wr.cell? ⟨b1,0,none⟩=some (.slice a len cap)/\wr.cell? ⟨b2,0,none⟩=some (.int .i64 k))
  (fun i _=>len+k-(intOf i).toNat)
 case atStart=>exact⟨0,0,(Nat.zero_mul k).symm,b7 _,rfl,h0,hc1,hc2⟩
 case round=>
  obtain⟨j,p,hp,hj,rfl,hJs,hw1,hw2⟩:=hrel;by_cases hlt:p<len
  ·have hlt':(p:Int)<(len:Int):=Int.ofNat_lt.2 hlt
   obtain⟨b,o,rfl⟩:=hsome (by omega);obtain⟨m,hm⟩:∃m:Nat,m=min k (len-p):=⟨_,rfl⟩
   have hm0:0<m:=by omega
   have hm00:¬m=0:=by omega
   have hm2:p+m<=len:=by omega
   have hb1:(((p:Nat):Int)+(m:Int))<=1000000000:=by omega
   have hb0:(0:Int)<=((p:Nat):Int)+(m:Int):=by omega
   have hjN:j<eY len k:=by
    unfold eY;rw[eo (by omega)];unfold CY at hp;omega
   obtain⟨fn,tmps,assign,body,hy,hR⟩:=hY (cr j) j wr.drew (hJd _ _ hJs) (by rw[List.length_range];exact hjN);rw[show kx (some ⟨b,o,none⟩) len k j=.slice (some ⟨b,o+p,none⟩) m m by unfold CY at hp;subst hp;subst hm;rfl]at hy
   gi_wp2
   gi_region
   try rw[Xa (show min k (len-p)=m from hm.symm)]
   try rw[show min ((k:Nat):Int) ((len-p:Nat):Int)=(m:Int) by omega]
   try rw[<-hm]
   clear hm
   gi_wp2
   refine hR.mono ?_;rintro e W3 (⟨rfl,hJ3,hk3⟩|⟨rfl,hJx3⟩)
   ·have hw3:=hk3.1.trans hw1
    have hw4:=hk3.2.trans hw2;have hs1:(0:Int)<=(p:Int)+(k:Int):=by omega
    have hs2:(p:Int)+(k:Int)<=2000000000:=by omega
    gi_wp2
    go_roundw
    case rel=>exact⟨j+1,p+k,by unfold CY at*;rw[hp,Nat.add_mul,Nat.one_mul],hjN,by simp,by rw[ep];exact hJ3,hw3,hw4⟩
    case measure=>simp[intOf];omega
   ·gi_wp2
    refine bodyPost_ret (results_none rfl _ _ _) rfl ?_;exact⟨⟨_,rfl⟩,.inr ⟨_,⟨j+1,ep.symm⟩,hJx3⟩⟩
  ·have hjN:j=eY len k:=by
    refine Nat.le_antisymm hj (Nat.le_of_not_lt fun hc=>hlt ?_);unfold eY at hc;rw[eo (by omega)]at hc;unfold CY at hp;omega
   gi_wp2
   go_end0
   exact⟨⟨_,rfl⟩,.inl ⟨_,rfl,by rw[<-hjN];exact hJs⟩⟩
def Tryz.V8:uA Tryz.prog 97:=fun b1 b2 a len cap k w h1k hk9 hl9 hlc hsome hb1 hb2 hc1 hc2 l J Jx W hW hJ _ hY h0=>
 Tryz.XY b1 b2 a len cap k w h1k hk9 hl9 hlc hsome l J Jx (fun s W hs=>hJ s W W.drew none hs ⟨rfl,rfl,rfl,b9 _,fun _ _ _=>rfl⟩ (fun r e=>by cases e)) hY W
  ((hW.cell (p:=⟨b1,0,none⟩) hb1).trans hc1) ((hW.cell (p:=⟨b2,0,none⟩) hb2).trans hc2) h0
end Go.Proofs.YtgokjhhcfemnhadGreatDoor

namespace Go.Proofs.YtgokjhhcfemnhadGreatDoor
open Go.Vg Go.Mrl
@[reducible] def Tryz.cH:List Ob:=[.box 117 [.obj 1,.d (.int .i64),.d (.slice aC)],.box 98 [.obj 2,.obj 3,.obj 4,.d (.int .i64),.d .bool],.row true .str,.row true .str,.tok fG]
@[reducible] def Tryz.V9:List Ob:=[.box 66 [.obj 1],.box 117 [.obj 2,.d (.int .i64),.d (.slice aC)],.box 98 [.obj 3,.obj 4,.obj 5,.d (.int .i64),.d .bool],.row true .str,.row true .str,.tok fG,.box 31 [.d .err],.box 31 [.d .err],.box 3 [.d (.int .i64)]]
def Tryz.spZ7:Bool×aT:=(true,cC [.int .i64,.int .i64] [.str] (fun _=>True) (fun x=>dU x.1 x.2))
def Tryz.spZ8:Bool×aT:=(false,aX Tryz.bB [.obj 0,.d (.int .i64),.d .str] (fun _ x =>-1<=x.1.1/\x.2.2.2.1.length<=900000000) Tryz.xZ)
def Tryz.spZ9:Bool×aT:=(false,aX Tryz.bB [.obj 0] (fun _ x =>-1<=x.1.1/\x.2.1.length=x.2.2.1.length) Tryz.x4)
def Tryz.L0:List (FuncId×(Bool×aT)):=[(77,(true,cC [.slice aC] [.str,.err] (fun l=>l.length<=100) (fun l=>dV l))),(72,Tryz.spZ7),(78,(false,gz Tryz.B [] Tryz.f78 [])),(70,Tryz.spZ8),(71,Tryz.spZ9)]
def Tryz.Rv:bP Tryz.prog Tryz.B Tryz.X Tryz.L0:=
 aO (aE Tryz.Uf) (aO (aE Tryz.Ji) (aO (eV (bR Tryz.bQ) Tryz.func78 (by kernel_rfl) []) (aO (Tryz.tl) (aO (Tryz.tm) (bR Tryz.bQ)))))
def Tryz.Jj(l:List (D aC))(r:Int)(o:List (D aC))(d:Dk):List (Nat×(St->lI)):=[
 (0,fun st=>{inv:=fun pre=>(gR l r d pre).2=0,keep:=[1,2,4,5,6,7,8,29],aN:=Tryz.V9,refs:=[(2,0),(4,6),(6,7),(8,8)],pd:=fun pre=>((),(r,o,()),(gR l r d pre).1.1,(gR l r d pre).1.2.1,(gR l r d pre).1.2.2.1,(gR l r d pre).1.2.2.2.1,(aK.nil,()),(aK.nil,()),((2+(r+1).tmod 2*55+(pre.length:Int):Int),()),())})]
def Tryz.Bp:List (Alt Tryz.cH [.obj 0,.d (.slice aC)]):=[{bO:=Tryz.cH,res:=[.d .err],out:=fun a x=>(if(cR x.2 x.1.1 a.1).2=0 then(x.1.1+1,a.1,())else x.1,(cR x.2 x.1.1 a.1).1),ret:=fun a x=>(aI (cR x.2 x.1.1 a.1).2,())}]
def Wa(l:List (D aC))(r:Int)(o:List (D aC))(d:Dk)(hw:hU [.obj 0,.d (.slice aC)] (l,()))(hp:(fun a x=>a.1.length<=100/\0<=(x.1.1:Int)/\(x.1.1:Int)<=1000000000/\dD x.2 1000000) (l,()) ((r,o,()),d)):(DL Tryz.B Tryz.L0 97 Tryz.f50 (Tryz.Jj l r o d) Tryz.cH [.obj 0,.d (.slice aC)] Tryz.Bp (l,()) ((r,o,()),d)).holds:=by
 refine holds_of (p:=
  let za:=d.2.2.2.1
  let zb:=(r,o,())
  let zc:=cR d r l
  let zd:=r+(1:Int)
  let ze:=(zd,l,())
  let zf:=(if zc.2=(0:Int)then ze else zb,zc.1)
  let zg:=((dV l).2,())
  let zh:=(aI zc.2,())
  let zi:=(2:Int)≠(0:Int)
  let zj:=db zd (2:Int)
  let zk:=bo (fun(b:UInt8)=>(↑(b6 b):Int)) (dV l).1
  let zl:=(aK.nil,())
  let zm:=(2:Int)+zj*(55:Int)
  let zn:=(bb zk+(64:Nat)-(1:Nat)) / (64:Nat)
  let zo:=fun(K:Nat)=>bd (64:Nat) (bj (K*(64:Nat)) zk)
  let zp:=fun(I:List Nat)=>(gR l r d I).1
  let zq:=(-1:Int)
  let zr:=fun(I:List Nat)=>zm+(↑(bb I):Int)
  let zs:=fun(I:List Nat) (K:Nat)=>aI (bK (zp I) (zr I) (bytesOf (zo K))).2
  let zt:=fun(I:List Nat) (K:Nat)=>(bK (zp I) (zr I) (bytesOf (zo K))).1
  let zu:=fun(K:Nat) (I:List Nat)=>(bb (zo K)<=aM)/\((zp I).2.2.2.1=(zp I).2.2.2.1)/\(zq<=(zp I).1.1/\bb (zp I).2.2.2.1<=(900000000:Nat))/\((True)->(((!aK.isNil (zs I K))=true->((I=cr K)->((zt I K).2.2.2.1=(zt I K).2.2.2.1/\True/\(zb,zt I K)=zf/\(zs I K,())=zh)))/\((!aK.isNil (zs I K))=false->((aJ (zr I))->((aJ (1:Int))->(aJ (zr I+(1:Int)))/\((zt I K).2.2.2.1=(zt I K).2.2.2.1/\∃(x':List Nat),(gR l r d x').2=(0:Int)/\x'=I++[K]/\True/\True/\true=true/\((),zb,(zt I K).1,(zt I K).2.1,(zt I K).2.2.1,(zt I K).2.2.2.1,zl,(zs I K,()),(zr I+(1:Int),()),())=((),zb,(gR l r d x').1.1,(gR l r d x').1.2.1,(gR l r d x').1.2.2.1,(gR l r d x').1.2.2.2.1,zl,zl,(zm+(↑(bb x'):Int),()),())))))))
  let zv:=gR l r d (cr zn)
  let zw:=zv.1.2.2.2.1
  let zx:=aI (bL zv.1).2
  let zy:=aK.isNil zx
  let zz:=bb (dV l).1
  let zaa:=(bL zv.1).1
  let zab:=zaa.2.2.2.1
  let zac:=zab=zab
  let zad:=zq<=zaa.1.1
  let zae:=fun(I:Int)=>bK zaa I (dU zd (↑zz:Int))
  let zaf:=fun(I:Int)=>(zae I).1.2.2.2.1=(zae I).1.2.2.2.1
  let zag:=fun(I:Int)=>(bL (zae I).1).1
  let zah:=fun(I:Int)=>(zag I).2.2.2.1=(zag I).2.2.2.1
  let zai:=fun(I:Int)=>(aI (bL (zae I).1).2,())=zh
  let zaj:=fun(I:Int)=>(aI (zae I).2,())=zh
  let zak:=aI (bL zaa).2
  let zal:=(bL zaa).1
  let zam:=zal.2.2.2.1=zal.2.2.2.1
  let zan:=(zak,())=zh
  let zao:=(zx,())=zh
  (bb l<=(100:Nat))/\(((!aK.isNil (dV l).2)=true->(za=za/\True/\(zb,d)=zf/\zg=zh))/\((!aK.isNil (dV l).2)=false->((aJ r)->((aJ (1:Int))->(aJ zd)/\(zi)/\(∀F:Int,((F=zj)->(∀G:Int,((G=F*(55:Int))->((aJ F)->((aJ (55:Int))->(aJ G)/\((aJ (2:Int))->((aJ G)->(aJ ((2:Int)+G))/\(((decide ((64:Int)<(1:Int)))=true->(False))/\((decide ((64:Int)<(1:Int)))=false->((((1:Int)<=(64:Int)/\(64:Int)<=(1000000000:Int)/\bb zk<=(1000000000:Nat)))/\((za=za/\∃(x':List Nat),(gR l r d x').2=(0:Int)/\x'=@bc Nat/\True/\True/\true=true/\((),zb,d.1,d.2.1,d.2.2.1,za,zl,zg,((2:Int)+G,()),())=((),zb,(gR l r d x').1.1,(gR l r d x').1.2.1,(gR l r d x').1.2.2.1,(gR l r d x').1.2.2.2.1,zl,zl,(zm+(↑(bb x'):Int),()),())))/\((∀I:List Nat,(((gR l r d I).2=(0:Int))->(∀K:Nat,((bb I<zn)->((((fun a0 a1:Prop=>a0/\a0/\a1) (((fun a0:Prop=>a0/\a0) ((zu K I)))) ((zu K I))))/\(((((fun a0:Prop=>a0/\a0) ((zu K I))))/\((zu K I))))/\((zu K I))))))))/\(((zv.2=(0:Int))->(zw=zw)/\(zq<=zv.1.1.1/\bb zv.1.2.1=bb zv.1.2.2.1)/\((True)->(((zy)=true->(zi)/\(∀I:Int,((I=zj)->((zz<=aM)->(True)/\(zac)/\(zad/\bb zab<=(900000000:Nat))/\((True)->(((aK.isNil (aI (zae I).2))=true->(zaf I)/\(zq<=(zae I).1.1.1/\bb (zae I).1.2.1=bb (zae I).1.2.2.1)/\((True)->(((aK.isNil (aI (bL (zae I).1).2))=true->((fun a0:Prop=>a0/\a0) ((zah I/\True/\(ze,zag I)=zf/\zai I))))/\((aK.isNil (aI (bL (zae I).1).2))=false->(zah I/\True/\(zb,zag I)=zf/\zai I)))))/\((aK.isNil (aI (zae I).2))=false->(((aK.isNil (aI (zae I).2))=true->((fun a0:Prop=>a0/\a0) ((zaf I/\True/\(ze,(zae I).1)=zf/\zaj I))))/\((aK.isNil (aI (zae I).2))=false->(zaf I/\True/\(zb,(zae I).1)=zf/\zaj I))))))))))/\((zy)=false->(((zy)=true->(zac)/\(zad/\bb zaa.2.1=bb zaa.2.2.1)/\((True)->(((aK.isNil zak)=true->((fun a0:Prop=>a0/\a0) ((zam/\True/\(ze,zal)=zf/\zan))))/\((aK.isNil zak)=false->(zam/\True/\(zb,zal)=zf/\zan)))))/\((zy)=false->(((zy)=true->((fun a0:Prop=>a0/\a0) ((zac/\True/\(ze,zaa)=zf/\zao))))/\((zy)=false->(zac/\True/\(zb,zaa)=zf/\zao)))))))))))))))))))))))))) (by kernel_rfl) ?_
 dsimp -iota -proj -eta only;dsimp only at hp;refine⟨hp.1,iB (fun h0 =>?a) (fun h0 h1 h2=>⟨(by have hr:=hp.2.1;have hr2:=hp.2.2.1;simp only[aJ]at*;dsimp only[D]at*;omega),?b,fun F q_0 G q_1 h3 h4=>⟨?c,fun h5 h6=>⟨?d,⟨fun h7=>absurd (show false=true from h7) (by decide),fun h7=>⟨?e,?f,fun I q_2 K q_3=>⟨(show ∀{a0 a1:Prop},a0->a1->a0/\a0/\a1 from fun g0 g1=>⟨g0,g0,g1⟩) ((show ∀{a0:Prop},a0->a0/\a0 from fun g0=>⟨g0,g0⟩) (⟨?g,rfl,?h,fun h8=>iB (fun h9 h10 =>?i) (fun h9 h10 h11=>⟨?j,?k⟩)⟩)) (⟨?l,rfl,?m,fun h8=>iB (fun h9 h10 =>?n) (fun h9 h10 h11=>⟨?o,?p⟩)⟩),⟨(show ∀{a0:Prop},a0->a0/\a0 from fun g0=>⟨g0,g0⟩) (⟨?q,rfl,?r,fun h8=>iB (fun h9 h10 =>?s) (fun h9 h10 h11=>⟨?t,?u⟩)⟩),⟨?v,rfl,?w,fun h8=>iB (fun h9 h10 =>?x) (fun h9 h10 h11=>⟨?y,?z⟩)⟩⟩,⟨?a0,rfl,?a1,fun h8=>iB (fun h9 h10 =>?a2) (fun h9 h10 h11=>⟨?a3,?a4⟩)⟩⟩,fun h8=>⟨rfl,(by have hf:=Bd (r:=r) hp.1 hp.2.2.2;exact⟨hf.kC,hf.len⟩),fun h9=>⟨fun h10=>⟨?a5,fun I q_2 h11=>⟨ba,rfl,(by have hf:=rB (Bd (r:=r) hp.1 hp.2.2.2);exact⟨hf.kC,b4 hf.nT (by decide)⟩),fun h12=>⟨fun h13=>⟨rfl,(by have hf:=mc (rB (Bd (r:=r) hp.1 hp.2.2.2)) I (dU (r+1) (dV l).1.length);exact⟨hf.kC,hf.len⟩),fun h14=>⟨fun h15=>(show ∀{a0:Prop},a0->a0/\a0 from fun g0=>⟨g0,g0⟩) ((by subst q_2;exact⟨rfl,ba,QM (Fl h0 h8 (aQ.1 h10) (aQ.1 h13)) (aQ.1 h15)⟩)),fun h15=>(by subst q_2;exact⟨rfl,ba,sr (Fl h0 h8 (aQ.1 h10) (aQ.1 h13)) (eG h15)⟩)⟩⟩,fun h13=>⟨fun h14=>(show ∀{a0:Prop},a0->a0/\a0 from fun g0=>⟨g0,g0⟩) ((ct (h13.symm.trans h14))),fun h14=>(by subst q_2;exact⟨rfl,ba,sr (VK h0 h8 (aQ.1 h10) (eG h13)) (eG h13)⟩)⟩⟩⟩⟩,fun h10=>⟨fun h11=>⟨rfl,?a6,fun h12=>⟨fun h13=>(show ∀{a0:Prop},a0->a0/\a0 from fun g0=>⟨g0,g0⟩) (?a7),fun h13 =>?a8⟩⟩,fun h11=>⟨fun h12=>(show ∀{a0:Prop},a0->a0/\a0 from fun g0=>⟨g0,g0⟩) ((ct (h10.symm.trans h12))),fun h12=>⟨rfl,ba,sr (VJ h0 h8 (eG h10)) (eG h10)⟩⟩⟩⟩⟩⟩⟩⟩⟩⟩)⟩
 case a=>
  obtain⟨e1,e2,e3⟩:=QL d r h0;rw[e3];exact⟨rfl,ba,sr (z:=(d,lJ l)) e1 e2⟩
 case b|a5=>trivial
 case c|d=>have ht:=U2 (r:=r) hp.2.1;simp only[aJ]at*;dsimp only[D]at*;omega
 case e=>refine⟨by decide,by decide,?_⟩;rw[bz];have:=Fk hp.1;omega
 case f=>
  refine⟨rfl,[],rfl,rfl,ba,ba,rfl,?_⟩;rw[(qW h0).1,q_1,q_0];simp[gR,jZ]
 case g|l|q|v|a0=>rw[b5];exact b4 (Nat.min_le_left _ _) (by decide)
 case h|m|r|w|a1=>
  have hf:=IK (l:=l) (r:=r) hp.2.2.2 I;have h5000:=vK hp.1;exact⟨hf.kC,b4 hf.nT (by have:I.length<eY (bE (dV l).1).length 64:=q_3;omega)⟩
 case i|n|s|x|a2=>exact⟨rfl,ba,sr (NY h0 q_2 h10 q_3 (eG h9)) (eG h9)⟩
 case j|o|t|y|a3=>
  have ht:=U2 (r:=r) hp.2.1;have h5000:=vK hp.1;have:I.length<eY (bE (dV l).1).length 64:=q_3;simp only[aJ]at*;dsimp only[D]at*;omega
 case k|p|u|z|a4=>
  have hz:=aQ.1 h9;refine⟨rfl,I++[K],?_,rfl,ba,ba,rfl,?_⟩
  ·rw[IM K q_2];exact hz
  ·rw[IM K q_2,bt]
   refine congrArg (fun z=>((),(r,o,()),z)) ?_;rw[show aI _=aK.nil from congrArg aI hz];simp only[bw,Int.natCast_add,Int.natCast_one,Int.add_assoc];rfl
 case a6|a7|a8=>exact ct (h10.symm.trans h11)
def Tryz.L1:bX Tryz.prog Tryz.B.eT Tryz.X 50 false (aX Tryz.cH [.obj 0,.d (.slice aC)] (fun a x=>a.1.length<=100/\0<=(x.1.1:Int)/\(x.1.1:Int)<=1000000000/\dD x.2 1000000) Tryz.Bp):=
 DM (X:=Tryz.X) Tryz.Rv Tryz.V8 Tryz.func97 (by kernel_rfl) Tryz.func50 (by kernel_rfl) (fun(a:CD [.obj 0,.d (.slice aC)]) (x:PD Tryz.cH)=>Tryz.Jj a.1 x.1.1 x.1.2.1 x.2) (fun(a:CD [.obj 0,.d (.slice aC)]) (x:PD Tryz.cH) hw hp=>Wa a.1 x.1.1 x.1.2.1 x.2 hw hp)
def Tryz.CZ:List (FuncId×(Bool×aT)):=[(74,(false,gz Tryz.B [] Tryz.f74 []))]
def Tryz.Jk:bP Tryz.prog Tryz.B Tryz.X Tryz.CZ:=
 aO (eV (bR Tryz.bQ) Tryz.func74 (by kernel_rfl) []) (bR Tryz.bQ)
def FH:dX:=[(0,fun st=>{X:=Nat,inv:=fun i=>i<=(cY (.slice aC) st 0).length/\∀j,j<i->(nth aC (cY (.slice aC) st 0) j).1≠SQ .str st (MU st 1 0),cB:=fun i=>(cY (.slice aC) st 0).length-i,bM:=fun i=>[(8,sI i)],keep:=[0,1,7]})]
def Tryz.L2:List (FuncId×(Bool×aT)):=[(73,(false,gz Tryz.B Tryz.CZ Tryz.f73 FH))]
def Tryz.Rw:bP Tryz.prog Tryz.B Tryz.X Tryz.L2:=
 aO (eV Tryz.Jk Tryz.func73 (by kernel_rfl) FH) (bR Tryz.bQ)
def Tryz.Bq:List (Alt Tryz.cH [.obj 0,.d .str]):=[{bO:=Tryz.cH,res:=[.d (.int .i64)],out:=fun _ x=>x,ret:=fun a x=>(eJ x.1.2.1 a.1,())}]
def Wb(s:List UInt8)(r:Int)(o:List (D aC))(d:Dk)(hw:hU [.obj 0,.d .str] (s,())):(dA Tryz.B Tryz.L2 Tryz.f48 [] Tryz.cH [.obj 0,.d .str] Tryz.Bq (s,()) ((r,o,()),d)).holds:=by
 refine holds_of (p:=
  let za:=bb o
  let zb:=d.2.2.2.1=d.2.2.2.1
  let zc:=((r,o,()),d)
  let zd:=(eJ o s,())
  let ze:=C.ref 1 0
  za<=aM->(∃(x:Nat),(x<=za/\∀(j:Nat),j<x->(nth aC o j).1≠s)/\(0=(↑x:Int)/\True)/\True)/\∀F:Nat,(F<=za/\∀(j:Nat),j<F->(nth aC o j).1≠s)->((decide ((↑F:Int)<(↑za:Int)))=true->(0<=(↑F:Int)/\(↑F:Int)<(↑za:Int))/\(((nth aC o F).1 == s)=true->zb/\True/\zc=zc/\((↑F:Int),())=zd)/\(((nth aC o F).1 == s)=false->aJ (↑F:Int)->aJ 1->aJ ((↑F:Int)+1)/\∃(x':Nat),(x'<=za/\∀(j:Nat),j<x'->(nth aC o j).1≠s)/\za-x'<za-F/\((↑F:Int)+1=(↑x':Int)/\True)/\(s=s/\True)/\(ze=ze/\r=r/\o=o/\True)/\(C.aV 2=C.aV 2/\C.aV 3=C.aV 3/\zb/\d.1.1=d.1.1/\d.1.2.1=d.1.2.1/\True)/\d.2.1=d.2.1/\d.2.2.1=d.2.2.1/\zb/\True))/\((decide ((↑F:Int)<(↑za:Int)))=false->zb/\True/\zc=zc/\((-1:Int),())=zd)) (by kernel_rfl) ?_
 dsimp -iota -proj -eta only;exact fun h0=>⟨(⟨0,⟨b7 _,fun j hj=>absurd hj (cu _)⟩,⟨rfl,ba⟩,ba⟩),fun F q_0=>iL (fun h1=>⟨(by omega),iQ (fun h2=>⟨rfl,ba,rfl,by rw[Bb (by omega) q_0.2 h2]⟩) (fun h2 h3 h4=>⟨(by simp only[aJ,aM]at*;omega),(⟨F+1,⟨by omega,lY q_0.2 h2⟩,by omega,⟨by omega,ba⟩,(by trivial)⟩)⟩)⟩) (fun h1=>⟨rfl,ba,rfl,by rw[rA fun j hj=>q_0.2 j (by omega)]⟩)⟩
def Tryz.DU:bX Tryz.prog Tryz.B.eT Tryz.X 48 false (aX Tryz.cH [.obj 0,.d .str] (fun _ _=>True) Tryz.Bq):=
 bH (X:=Tryz.X) Tryz.Rw Tryz.func48 (by kernel_rfl) (fun(a:CD [.obj 0,.d .str]) (x:PD Tryz.cH)=>[]) (fun(a:CD [.obj 0,.d .str]) (x:PD Tryz.cH) hw hp=>Wb a.1 x.1.1 x.1.2.1 x.2 hw)
def Oh(l:List (D aG))(hw:gM [.slice aG] l)(hp:(fun l=>l.length<=1000000) l):(dL Tryz.B [] Tryz.f75 [] [.slice aG] [.slice aG] (fun x y=>y=(fun l=>l) x) l).holds:=by
 refine holds_of (p:=
  ∀F:Bool,(0<bb l->F=false)->(F=true->(@bc (List UInt8×Int×Int×Unit)=l))/\(F=false->bb l<=1000000000/\l=l)) (by kernel_rfl) ?_
 exact fun F q_0=>⟨fun h0=>(by simp_all),fun h0=>⟨(by omega),rfl⟩⟩
def Tryz.Oi:bW Tryz.prog Tryz.B.eT Tryz.X 75 [.slice aG] [.slice aG] (fun l=>l.length<=1000000) (fun x y=>y=(fun l=>l) x):=
 cD (X:=Tryz.X) (bR Tryz.bQ) Tryz.func75 (by kernel_rfl) (fun _=>[]) (fun x hw hp=>Oh x hw hp)
def Oj(l:List (D aR))(hw:gM [.slice aR] l)(hp:(fun l=>l.length<=1000000) l):(dL Tryz.B [] Tryz.f76 [] [.slice aR] [.slice aR] (fun x y=>y=(fun l=>l) x) l).holds:=by
 refine holds_of (p:=
  ∀F:Bool,(0<bb l->F=false)->(F=true->(@bc (Int×Int×Int×Unit)=l))/\(F=false->bb l<=1000000000/\l=l)) (by kernel_rfl) ?_
 exact fun F q_0=>⟨fun h0=>(by simp_all),fun h0=>⟨(by omega),rfl⟩⟩
def Tryz.Ok:bW Tryz.prog Tryz.B.eT Tryz.X 76 [.slice aR] [.slice aR] (fun l=>l.length<=1000000) (fun x y=>y=(fun l=>l) x):=
 cD (X:=Tryz.X) (bR Tryz.bQ) Tryz.func76 (by kernel_rfl) (fun _=>[]) (fun x hw hp=>Oj x hw hp)
def Tryz.FI:List (FuncId×(Bool×aT)):=[(75,(true,cC [.slice aG] [.slice aG] (fun l=>l.length<=1000000) (fun l=>l))),(76,(true,cC [.slice aR] [.slice aR] (fun l=>l.length<=1000000) (fun l=>l)))]
def Tryz.KN:bP Tryz.prog Tryz.B Tryz.X Tryz.FI:=
 aO (aE Tryz.Oi) (aO (aE Tryz.Ok) (bR Tryz.bQ))
def Rx(e:D aC)(hw:gM [aC] e)(hp:(fun e=>e.2.1.length<=1000000/\e.2.2.1.length<=1000000) e):(dL Tryz.B Tryz.FI Tryz.f49 [] [aC] [aC] (fun x y=>y=(fun e=>e) x) e).holds:=by
 refine holds_of (p:=
  bb e.2.1<=1000000/\bb e.2.2.1<=1000000/\e=e) (by kernel_rfl) ?_
 refine⟨?a,?b,rfl⟩
 case a|b=>omega
def Tryz.FJ:bW Tryz.prog Tryz.B.eT Tryz.X 49 [aC] [aC] (fun e=>e.2.1.length<=1000000/\e.2.2.1.length<=1000000) (fun x y=>y=(fun e=>e) x):=
 cD (X:=Tryz.X) Tryz.KN Tryz.func49 (by kernel_rfl) (fun _=>[]) (fun x hw hp=>Rx x hw hp)
def Tryz.spZ10:Bool×aT:=(false,gz Tryz.B [] Tryz.f47 [])
def Tryz.spZ11:Bool×aT:=(false,aX Tryz.cH [.obj 0,.d .str] (fun _ _=>True) Tryz.Bq)
def Tryz.spZ12:Bool×aT:=(true,cC [aC] [aC] (fun e=>e.2.1.length<=1000000/\e.2.2.1.length<=1000000) (fun e=>e))
def Tryz.spZ13:Bool×aT:=(false,aX Tryz.cH [.obj 0,.d (.slice aC)] (fun a x=>a.1.length<=100/\0<=(x.1.1:Int)/\(x.1.1:Int)<=1000000000/\dD x.2 1000000) Tryz.Bp)
def Tryz.Jl:List (FuncId×(Bool×aT)):=[(46,Tryz.spZ3),(47,Tryz.spZ10),(48,Tryz.spZ11),(49,Tryz.spZ12),(50,Tryz.spZ13)]
def Tryz.Ol:bP Tryz.prog Tryz.B Tryz.X Tryz.Jl:=
 aO (aE Tryz.FB) (aO (eV (bR Tryz.bQ) Tryz.func47 (by kernel_rfl) []) (aO (Tryz.DU) (aO (aE Tryz.FJ) (aO (Tryz.L1) (bR Tryz.bQ)))))
def Tryz.DV:List (Alt Tryz.cH [.obj 0,.d aC]):=[{bO:=Tryz.cH,res:=[.d .err],out:=fun a x=>(ky x a.1).1,ret:=fun a x=>(aI (ky x a.1).2,())}]
def Ug(e:D aC)(r:Int)(o:List (D aC))(d:Dk)(hw:hU [.obj 0,.d aC] (e,()))(hp:(fun a x=>(a.1.2.1.length<=1000000/\a.1.2.2.1.length<=1000000)/\x.1.2.1.length<=99/\0<=(x.1.1:Int)/\(x.1.1:Int)<=1000000000/\dD x.2 1000000) (e,()) ((r,o,()),d)):(dA Tryz.B Tryz.Jl Tryz.f31 [] Tryz.cH [.obj 0,.d aC] Tryz.DV (e,()) ((r,o,()),d)).holds:=by
 refine holds_of (p:=
  let za:=aI (bC e)
  let zb:=d.2.2.2.1=d.2.2.2.1
  let zc:=(r,o,())
  let zd:=ky (zc,d) e
  let ze:=(zc,d)=zd.1
  let zf:=(aI zd.2,())
  let zg:=bb o
  let zh:=eJ o e.1
  let zi:=decide (zh>=0)
  let zj:=bb e.2.1<=1000000/\bb e.2.2.1<=1000000
  let zk:=0<=zh
  let zl:=bb (@bc (List UInt8×List (List UInt8×Int×Int×Unit)×List (Int×Int×Int×Unit)×Unit))
  let zm:=zb/\True/\ze/\(aK.no 2,())=zf
  let zn:=@bc (List UInt8×List (List UInt8×Int×Int×Unit)×List (Int×Int×Int×Unit)×Unit)++[e]
  let zo:=0<=r/\r<=1000000000/\dD d 1000000
  let zp:=cR d r zn
  let zq:=zp.1.2.2.2.1
  let zr:=r+1
  let zs:=c7 o (bf zh) e
  let zt:=cR d r zs
  let zu:=zt.1.2.2.2.1
  let zv:=o++[e]
  let zw:=cR d r zv
  let zx:=zw.1.2.2.2.1
  True/\((!aK.isNil za)=true->zb/\True/\ze/\(za,())=zf)/\((!aK.isNil za)=false->∀F:Bool,(0<zg->F=false)->(F=true->zb/\True/\(True->(zi=true->zj/\(zk/\zh<(↑zl:Int))/\False)/\(zi=false->zl<=aM->(((↑zl:Int) == 3)=true->zm)/\(((↑zl:Int) == 3)=false->zj/\(@bc (List UInt8×List (List UInt8×Int×Int×Unit)×List (Int×Int×Int×Unit)×Unit)=@bc (List UInt8×List (List UInt8×Int×Int×Unit)×List (Int×Int×Int×Unit)×Unit)/\zl+bb [e]<=1000000000)/\zb/\(bb zn<=100/\zo)/\(True->zq=zq/\True/\(if zp.2=0 then(zr,zn,())else zc,zp.1)=zd.1/\(aI zp.2,())=zf)))))/\(F=false->zg<=1000000000/\zb/\True/\(True->(zi=true->zj/\(zk/\zh<(↑zg:Int))/\bf zh<zg/\zb/\(bb zs<=100/\zo)/\(True->zu=zu/\True/\(if zt.2=0 then(zr,zs,())else zc,zt.1)=zd.1/\(aI zt.2,())=zf))/\(zi=false->zg<=aM->(((↑zg:Int) == 3)=true->zm)/\(((↑zg:Int) == 3)=false->zj/\(o=o/\zg+bb [e]<=1000000000)/\zb/\(bb zv<=100/\zo)/\(True->zx=zx/\True/\(if zw.2=0 then(zr,zv,())else zc,zw.1)=zd.1/\(aI zw.2,())=zf))))))) (by kernel_rfl) ?_
 dsimp -iota -proj -eta only;dsimp only at hp;refine⟨ba,iB (fun h0=>(by rw[Fm (eG h0)];exact⟨rfl,ba,rfl,rfl⟩)) (fun h0 F q_0=>⟨fun h1=>⟨rfl,ba,fun h2=>iE (fun h3=>⟨?a,(by exfalso;have:=xS q_0 h1;subst this;exact o5 _ h3),(by have:=xS q_0 h1;subst this;exact o5 _ h3)⟩) (fun h3 h4=>⟨fun h5=>absurd (show false=true from h5) (by decide),fun h5=>⟨?b,?c,rfl,?d,fun h6 =>?e⟩⟩)⟩,fun h1=>⟨?f,rfl,ba,fun h2=>iE (fun h3=>⟨?g,⟨by omega,(qg o e.1).1⟩,(by have:=(qg o e.1).1;omega),rfl,?h,fun h4=>(by rw[LM (x:=((r,o,()),d)) (aQ.1 h0) (by omega)];exact⟨rfl,ba,rfl,rfl⟩)⟩) (fun h3 h4=>iQ (fun h5=>(by rw[IN (x:=((r,o,()),d)) (aQ.1 h0) (show ¬0<=eJ o e.1 by omega) h5];exact⟨rfl,ba,rfl,rfl⟩)) (fun h5=>⟨?i,(by have h99:o.length<=99:=hp.2.1;exact⟨rfl,by rw[bw];omega⟩),rfl,?j,fun h6=>(by rw[DN (x:=((r,o,()),d)) (aQ.1 h0) (show ¬0<=eJ o e.1 by omega) h5];exact⟨rfl,ba,rfl,rfl⟩)⟩))⟩⟩)⟩
 case a|b|f|g|i=>omega
 case c|d|j=>simp_all
 case e=>
  have ho:=xS q_0 h1;subst ho;rw[DN (x:=((r,[],()),d)) (aQ.1 h0) (o5 _) (show ¬((([]:List (D aC)).length:Int)=3)from by decide)];exact⟨rfl,ba,rfl,rfl⟩
 case h=>refine⟨?_,hp.2.2.1,hp.2.2.2.1,hp.2.2.2.2⟩;rw[en];exact b4 hp.2.1 (by decide)
def Tryz.Uh:bX Tryz.prog Tryz.B.eT Tryz.X 31 false (aX Tryz.cH [.obj 0,.d aC] (fun a x=>(a.1.2.1.length<=1000000/\a.1.2.2.1.length<=1000000)/\x.1.2.1.length<=99/\0<=(x.1.1:Int)/\(x.1.1:Int)<=1000000000/\dD x.2 1000000) Tryz.DV):=
 bH (X:=Tryz.X) Tryz.Ol Tryz.func31 (by kernel_rfl) (fun(a:CD [.obj 0,.d aC]) (x:PD Tryz.cH)=>[]) (fun(a:CD [.obj 0,.d aC]) (x:PD Tryz.cH) hw hp=>Ug a.1 x.1.1 x.1.2.1 x.2 hw hp)
def Tryz.Ry:List (FuncId×(Bool×aT)):=[(48,Tryz.spZ11),(49,Tryz.spZ12)]
def Tryz.Ui:bP Tryz.prog Tryz.B Tryz.X Tryz.Ry:=
 aO (Tryz.DU) (aO (aE Tryz.FJ) (bR Tryz.bQ))
def Tryz.DW:List (Alt Tryz.cH [.obj 0,.d .str]):=[{bO:=Tryz.cH,res:=[.d aC,.d .bool],out:=fun _ x=>x,ret:=fun a x=>((fO x.1.2.1 a.1).1,(fO x.1.2.1 a.1).2,())}]
def Xb(s:List UInt8)(r:Int)(o:List (D aC))(d:Dk)(hw:hU [.obj 0,.d .str] (s,()))(hp:(fun _ x=>∀i,i<x.1.2.1.length->(nth aC x.1.2.1 i).2.1.length<=1000000/\(nth aC x.1.2.1 i).2.2.1.length<=1000000) (s,()) ((r,o,()),d)):(dA Tryz.B Tryz.Ry Tryz.f32 [] Tryz.cH [.obj 0,.d .str] Tryz.DW (s,()) ((r,o,()),d)).holds:=by
 refine holds_of (p:=
  let za:=d.2.2.2.1=d.2.2.2.1
  let zb:=eJ o s
  let zc:=((r,o,()),d)
  let zd:=((fO o s).1,(fO o s).2,())
  let ze:=nth aC o (bf zb)
  za/\True/\(True->((decide (zb<0))=true->za/\True/\zc=zc/\(([],[],[],()),false,())=zd)/\((decide (zb<0))=false->(0<=zb/\zb<(↑(bb o):Int))/\(bb ze.2.1<=1000000/\bb ze.2.2.1<=1000000)/\za/\True/\zc=zc/\(ze,true,())=zd))) (by kernel_rfl) ?_
 dsimp -iota -proj -eta only;dsimp only at hp;exact⟨rfl,ba,fun h0=>iL (fun h1=>(by rw[IP (by omega)];exact⟨rfl,ba,rfl,rfl⟩)) (fun h1=>⟨⟨by omega,(qg o s).1⟩,(hp _ (by have:=(qg o s).1;omega)),(by rw[LN (by omega)];exact⟨rfl,ba,rfl,rfl⟩)⟩)⟩
def Tryz.Xc:bX Tryz.prog Tryz.B.eT Tryz.X 32 false (aX Tryz.cH [.obj 0,.d .str] (fun _ x=>∀i,i<x.1.2.1.length->(nth aC x.1.2.1 i).2.1.length<=1000000/\(nth aC x.1.2.1 i).2.2.1.length<=1000000) Tryz.DW):=
 bH (X:=Tryz.X) Tryz.Ui Tryz.func32 (by kernel_rfl) (fun(a:CD [.obj 0,.d .str]) (x:PD Tryz.cH)=>[]) (fun(a:CD [.obj 0,.d .str]) (x:PD Tryz.cH) hw hp=>Xb a.1 x.1.1 x.1.2.1 x.2 hw hp)
def Tryz.spZ14:Bool×aT:=(true,cC [.str] [.int .i64,.err] (fun s=>s.length<=281474976710656) (fun s=>eD s))
def Tryz.spZ15:Bool×aT:=(true,cC [.str,.str] [.str,.bool] (fun _=>True) (fun x=>(cb x.1 x.2,cy x.1 x.2)))
def Tryz.spZ16:Bool×aT:=(true,cC [.str,.str] [.str] (fun _=>True) (fun x=>br x.1 x.2))
def Tryz.spZ17:Bool×aT:=(true,cC [.str,.str] [.slice .str] (fun x=>x.1.length<4294967281/\x.2.length=1) (fun x=>parts (HT x.2) x.1))
def Tryz.C0:List (FuncId×(Bool×aT)):=[(84,Tryz.spZ2),(103,Tryz.spZ14),(81,Tryz.spZ15),(52,Tryz.spZ16),(51,Tryz.spZ17)]
def Tryz.Jm:bP Tryz.prog Tryz.B Tryz.X Tryz.C0:=
 aO (aE Tryz.oU) (aO (aE Tryz.sw) (aO (aE Tryz.nu) (aO (aE Tryz.mv) (aO (aE Tryz.sx) (bR Tryz.bQ)))))
def C1(l:List (List UInt8)):dX:=[
 (0,fun st=>{X:=Nat,inv:=fun i=>i<=l.length/\∀j,j<i->(cT (nth .str l j)).isNone=false,cB:=fun i=>l.length-i,bM:=fun i=>[(11,sI i),(4,.s (.one (.app (.int .i64) (ma (l.take i)) (bJ st 4))))],aF:=fun i=>[(bJ st 4,.tok (.int .i64) (ma (l.take i)))],keep:=[9,10],ib:=[bJ st 4]})]
def KO(l:List (List UInt8))(hw:gM [.slice .str] l)(hp:(fun l=>l.length<=1000000/\∀i,(nth .str l i).length<=1000000) l):(dL Tryz.B Tryz.C0 Tryz.f89 (C1 l) [.slice .str] [.slice (.int .i64),.bool] (fun x y=>y=(fun l=>bS l) x) l).holds:=by
 refine holds_of (p:=
  let za:=bb l
  let zb:=([],false)=bS l
  let zc:=fun(F:Nat)=>ma (bd F l)
  let zd:=fun(F:Nat)=>zc F++[(eD (nth Ty.str l F)).1]
  za<=aM->(∃(x:Nat),(x<=za/\∀(j:Nat),j<x->ck (cT (nth Ty.str l j))=false)/\(0=(↑x:Int)/\@bc Int=ma (bd x l)/\True)/\@bc Int=ma (bd x l)/\True)/\∀F:Nat,(F<=za/\∀(j:Nat),j<F->ck (cT (nth Ty.str l j))=false)->((decide ((↑F:Int)<(↑za:Int)))=true->(0<=(↑F:Int)/\(↑F:Int)<(↑za:Int))/\bb (nth Ty.str l F)<=281474976710656/\((!aK.isNil (eD (nth Ty.str l F)).2)=true->zb)/\((!aK.isNil (eD (nth Ty.str l F)).2)=false->True/\((!bp (eD (nth Ty.str l F)).1 == nth Ty.str l F)=true->zb)/\((!bp (eD (nth Ty.str l F)).1 == nth Ty.str l F)=false->(zc F=zc F/\bb (zc F)+bb [(eD (nth Ty.str l F)).1]<=1000000000)/\(aJ (↑F:Int)->aJ 1->aJ ((↑F:Int)+1)/\∃(x':Nat),(x'<=za/\∀(j:Nat),j<x'->ck (cT (nth Ty.str l j))=false)/\za-x'<za-F/\((↑F:Int)+1=(↑x':Int)/\zd F=ma (bd x' l)/\True)/\zd F=ma (bd x' l)/\@bc Int=@bc Int/\True))))/\((decide ((↑F:Int)<(↑za:Int)))=false->(zc F,true)=bS l)) (by kernel_rfl) ?_
 dsimp -iota -proj -eta only;refine fun h0=>⟨(⟨0,⟨b7 _,fun j hj=>absurd hj (cu _)⟩,⟨rfl,rfl,ba⟩,rfl,ba⟩),fun F q_0=>iL (fun h1=>⟨(by omega),(b4 (hp.2 _) (by decide)),iB (fun h2=>(z7 (i:=F) (by omega) (by rw[qO,h2];rfl))) (fun h2=>⟨ba,⟨fun h3 =>?a,fun h3=>⟨?b,fun h4 h5=>⟨?c,?d⟩⟩⟩⟩)⟩) (fun h1=>(NQ (i:=F) (by omega) (fun j hj _=>q_0.2 j hj)))⟩
 case a=>
  simp only[bl,reduceCtorEq]at h3;exact z7 (i:=F) (by omega) (by rw[qO,decide_eq_false h3];simp)
 case b=>
  simp only[bl,reduceCtorEq]at h3;exact⟨rfl,by unfold ma;simp only[bz,b5,bw];omega⟩
 case c=>
  simp only[bl,reduceCtorEq]at h3;simp only[aJ,aM]at*;omega
 case d=>
  simp only[bl,reduceCtorEq]at h3;exact⟨F+1,⟨by omega,lY q_0.2 (by rw[qO,h2,decide_eq_true h3];rfl)⟩,by omega,⟨by omega,(CG (by omega)).symm,ba⟩,(CG (by omega)).symm,(by trivial)⟩
def Tryz.KP:bW Tryz.prog Tryz.B.eT Tryz.X 89 [.slice .str] [.slice (.int .i64),.bool] (fun l=>l.length<=1000000/\∀i,(nth .str l i).length<=1000000) (fun x y=>y=(fun l=>bS l) x):=
 cD (X:=Tryz.X) Tryz.Jm Tryz.func89 (by kernel_rfl) (fun x=>C1 x) (fun x hw hp=>KO x hw hp)
def Tryz.FK:List (FuncId×(Bool×aT)):=[(84,Tryz.spZ2),(103,Tryz.spZ14),(81,Tryz.spZ15),(52,Tryz.spZ16),(51,Tryz.spZ17),(89,(true,cC [.slice .str] [.slice (.int .i64),.bool] (fun l=>l.length<=1000000/\∀i,(nth .str l i).length<=1000000) (fun l=>bS l))),(90,Tryz.spZ6)]
def Tryz.KQ:bP Tryz.prog Tryz.B Tryz.X Tryz.FK:=
 aO (aE Tryz.oU) (aO (aE Tryz.sw) (aO (aE Tryz.nu) (aO (aE Tryz.mv) (aO (aE Tryz.sx) (aO (aE Tryz.KP) (aO (aE Tryz.Je) (bR Tryz.bQ)))))))
def Tryz.FL(s:List UInt8):dX:=[
 (300004,fun st=>{X:=List Int×Bool,inv:=fun y=>rk (parts 32 (br s [10])) y,cB:=fun _=>0,bM:=fun y=>[(5,sD (.slice (.int .i64)) y.1),(6,sB y.2)],keep:=[0,2,3,4]}),
 (300005,fun st=>{X:=Bool,inv:=fun c=>c=false↔qe (parts 32 (br s [10])),cB:=fun _=>0,bM:=fun c=>[(69,sB c)],keep:=[0,2,3,4,5]}),
 (300011,fun st=>{X:=List (List UInt8),inv:=fun x=>lk (parts 32 (br s [10])) x (bf (cY (.int .i64) st 8)),cB:=fun _=>0,bM:=fun x=>[(9,sD (.slice .str) x)],keep:=[0,2,3,4,5,7,8,82,83,84,85]}),
 (0,fun st=>{X:=Nat,inv:=fun i=>i<=(bf (nth (.int .i64) (cY (.slice (.int .i64)) st 5) 0))+(bf (nth (.int .i64) (cY (.slice (.int .i64)) st 5) 1)),cB:=fun i=>(bf (nth (.int .i64) (cY (.slice (.int .i64)) st 5) 0))+(bf (nth (.int .i64) (cY (.slice (.int .i64)) st 5) 1))-i,bM:=fun i=>[(83,sI i)],aF:=fun i=>[(bJ st 7,.cells 53 [.d .str (nth .str (parts 32 (br s [10])) 0),.app aG (eC dE (parts 32 (br s [10])) (cg i (bf (nth (.int .i64) (cY (.slice (.int .i64)) st 5) 0)))) (mJ st (bJ st 7) 1),.app aR (cU dE (parts 32 (br s [10])) (bf (nth (.int .i64) (cY (.slice (.int .i64)) st 5) 0)) (i-(bf (nth (.int .i64) (cY (.slice (.int .i64)) st 5) 0)))) (mJ st (bJ st 7) 2)]),(mJ st (bJ st 7) 1,.tok aG (eC dE (parts 32 (br s [10])) (cg i (bf (nth (.int .i64) (cY (.slice (.int .i64)) st 5) 0))))),(mJ st (bJ st 7) 2,.tok aR (cU dE (parts 32 (br s [10])) (bf (nth (.int .i64) (cY (.slice (.int .i64)) st 5) 0)) (i-(bf (nth (.int .i64) (cY (.slice (.int .i64)) st 5) 0)))))],keep:=[0,2,4,5,7,82],ib:=[bJ st 7,mJ st (bJ st 7) 1,mJ st (bJ st 7) 2]})]
def Rz(s:List UInt8)(hw:gM [.str] s)(hp:(fun s=>s.length<=100000) s):(dL Tryz.B Tryz.FK Tryz.f61 (Tryz.FL s) [.str] [aC,.err] (fun x y=>y=(fun s=>hZ s) x) s).holds:=by
 refine holds_of (p:=
  let za:=br s [(10:UInt8)]
  let zb:=parts (32:UInt8) za
  let zc:=bb zb<=aM
  let zd:=(↑(bb zb):Int)
  let ze:=(([],[],[],()),aK.no (4:Int))=hZ s
  let zf:=(0:Int)<=(1:Int)
  let zg:=bj 1 (bd 3 zb)
  let zh:=@bc (List UInt8×Int×Int×Unit)=@bc (List UInt8×Int×Int×Unit)
  let zi:=@bc (Int×Int×Int×Unit)=@bc (Int×Int×Int×Unit)
  let zj:=(@bc UInt8=@bc UInt8/\zh/\zi/\True)/\zi/\zh/\True
  let zk:=qe zb
  let zl:=∃(x':Bool),(x'=false↔zk)/\(true=x'/\True)/\zj
  let zm:=(0:Int)<=(0:Int)
  let zn:=fun(F:List Int×Bool)=>zm/\(0:Int)<(↑(bb F.1):Int)
  let zo:=Ty.int bm
  let zp:=fun(F:List Int×Bool)=>nth zo F.1 0
  let zq:=fun(F:List Int×Bool)=>zf/\(1:Int)<(↑(bb F.1):Int)
  let zr:=fun(F:List Int×Bool)=>nth zo F.1 1
  let zs:=fun(F:List Int×Bool)=>aJ (zp F+zr F)
  let zt:=aJ (3:Int)
  let zu:=fun(G:Int)=>(3:Int)+G
  let zv:=fun(F:List Int×Bool)=>bf (zp F)
  let zw:=fun(F:List Int×Bool)=>zv F+bf (zr F)
  let zx:=nth Ty.str zb 0
  let zy:=zx=zx
  let zz:=fun(I:Nat)=>aJ (↑I:Int)
  let zaa:=fun(I:Nat) (F:List Int×Bool)=>eC dE zb (cg I (zv F))
  let zab:=fun(F:List Int×Bool) (I:Nat)=>cU dE zb (zv F) (I-zv F)
  let zac:=zi/\zh/\zj
  let zad:=fun(K:List (List UInt8))=>(↑(bb K):Int)
  let zae:=fun(K:List (List UInt8))=>bj 1 (bd (bb K) K)
  let zaf:=fun(K:List (List UInt8))=>(bS (zae K)).1
  let zag:=fun(K:List (List UInt8))=>[(nth Ty.str K 0,nth zo (zaf K) 0,nth zo (zaf K) 1,())]
  let zah:=fun(I:Nat)=>(↑I:Int)+(1:Int)
  let zai:=fun(K:List (List UInt8))=>(bS K).1
  let zaj:=fun(K:List (List UInt8))=>(↑(bb (zai K)):Int)
  let zak:=fun(K:List (List UInt8))=>[(nth zo (zai K) 0,nth zo (zai K) 1,nth zo (zai K) 2,())]
  True/\(bb za<4294967281/\bb [(32:UInt8)]=1)/\(zc->((decide (zd<(3:Int)))=true->ze)/\((decide (zd<(3:Int)))=false->((zf/\(1:Int)<=(3:Int)/\(3:Int)<=zd)/\(bb zg<=1000000/\∀(i:Nat),bb (nth Ty.str zg i)<=1000000)/\∃(x':List Int×Bool),rk zb x'/\((bS zg).1=x'.1/\(bS zg).2=x'.2/\True)/\zj)/\∀F:List Int×Bool,rk zb F->(((!F.2)=true->zl)/\((!F.2)=false->zn F/\((decide (zp F<(0:Int)))=true->zl)/\((decide (zp F<(0:Int)))=false->zn F/\((decide (zp F > (6:Int)))=true->zl)/\((decide (zp F > (6:Int)))=false->zq F/\((decide (zr F<(0:Int)))=true->zl)/\((decide (zr F<(0:Int)))=false->zq F/\((decide (zr F > (36:Int)))=true->zl)/\((decide (zr F > (36:Int)))=false->zc->zn F/\zq F/\(aJ (zp F)->aJ (zr F)->zs F/\∀G:Int,G=(3:Int)*(zp F+zr F)->zt->zs F->aJ G/\(zt->aJ G->aJ (zu G)/\∃(x':Bool),(x'=false↔zk)/\((zd != zu G)=x'/\True)/\zj))))))))/\∀G:Bool,(G=false↔zk)->(G=true->ze)/\(G=false->(zm/\(0:Int)<zd)/\zn F/\zq F/\(aJ (zp F)->aJ (zr F)->zs F/\(∃(x:Nat),x<=zw F/\((0:Int)=(↑x:Int)/\True)/\(zy/\@bc (List UInt8×Int×Int×Unit)=eC dE zb (cg x (zv F))/\@bc (Int×Int×Int×Unit)=cU dE zb (zv F) (x-zv F)/\True)/\@bc (List UInt8×Int×Int×Unit)=eC dE zb (cg x (zv F))/\@bc (Int×Int×Int×Unit)=cU dE zb (zv F) (x-zv F)/\True)/\∀I:Nat,I<=zw F->((decide ((↑I:Int)<zp F+zr F))=true->(∀K:Int,K=(3:Int)*(↑I:Int)->zt->zz I->aJ K/\(zt->aJ K->aJ (zu K)/\∀M:Int,M=(3:Int)*(↑I:Int)->zt->zz I->aJ M/\(aJ (6:Int)->aJ M->aJ ((6:Int)+M)/\((0:Int)<=zu K/\zu K<=(6:Int)+M/\(6:Int)+M<=zd)/\∃(x':List (List UInt8)),lk zb x' I/\(bj (bf (zu K)) (bd (bf ((6:Int)+M)) zb)=x'/\True)/\(zy/\zaa I F=zaa I F/\zab F I=zab F I/\True)/\zaa I F=zaa I F/\zab F I=zab F I/\zac)))/\∀K:List (List UInt8),lk zb K I->zn F/\((decide ((↑I:Int)<zp F))=true->(zf/\(1:Int)<=zad K/\zad K<=zad K)/\(bb (zae K)<=1000000/\∀(i:Nat),bb (nth Ty.str (zae K) i)<=1000000)/\((!(bS (zae K)).2)=true->ze)/\((!(bS (zae K)).2)=false->(zm/\(0:Int)<zad K)/\(zm/\(0:Int)<(↑(bb (zaf K)):Int))/\(zf/\(1:Int)<(↑(bb (zaf K)):Int))/\(zaa I F=zaa I F/\bb (zaa I F)+bb (zag K)<=1000000000)/\(zz I->aJ (1:Int)->aJ (zah I)/\∃(x':Nat),x'<=zw F/\zw F-x'<zw F-I/\(zah I=(↑x':Int)/\True)/\(zy/\zaa I F++zag K=eC dE zb (cg x' (zv F))/\zab F I=cU dE zb (zv F) (x'-zv F)/\True)/\zaa I F++zag K=eC dE zb (cg x' (zv F))/\zab F I=cU dE zb (zv F) (x'-zv F)/\zac)))/\((decide ((↑I:Int)<zp F))=false->(bb K<=1000000/\∀(i:Nat),bb (nth Ty.str K i)<=1000000)/\((!(bS K).2)=true->ze)/\((!(bS K).2)=false->(zm/\(0:Int)<zaj K)/\(zf/\(1:Int)<zaj K)/\((0:Int)<=(2:Int)/\(2:Int)<zaj K)/\(zab F I=zab F I/\bb (zab F I)+bb (zak K)<=1000000000)/\(zz I->aJ (1:Int)->aJ (zah I)/\∃(x':Nat),x'<=zw F/\zw F-x'<zw F-I/\(zah I=(↑x':Int)/\True)/\(zy/\zaa I F=eC dE zb (cg x' (zv F))/\zab F I++zak K=cU dE zb (zv F) (x'-zv F)/\True)/\zaa I F=eC dE zb (cg x' (zv F))/\zab F I++zak K=cU dE zb (zv F) (x'-zv F)/\zac))))/\((decide ((↑I:Int)<zp F+zr F))=false->True/\((!aK.isNil (dK (zx,zaa I F,zab F I,())).2)=true->ze)/\((!aK.isNil (dK (zx,zaa I F,zab F I,())).2)=false->((!(dK (zx,zaa I F,zab F I,())).1 == s)=true->ze)/\((!(dK (zx,zaa I F,zab F I,())).1 == s)=false->((zx,zaa I F,zab F I,()),aK.nil)=hZ s)))))))) (by kernel_rfl) ?_
 dsimp -iota -proj -eta only;refine⟨ba,(by have:=yE s [10];exact⟨by omega,rfl⟩),fun h0=>iL (fun h1=>(Iv (by omega))) (fun h1=>⟨⟨(by trivial),(VF hp 1 3),(⟨_,VH (by omega),⟨rfl,rfl,ba⟩,(by trivial)⟩)⟩,fun F q_0=>⟨iB (fun h2=>(⟨_,Iu (q_0.2 h2),⟨rfl,ba⟩,(by trivial)⟩)) (fun h2=>⟨?a,iL (fun h3=>(⟨_,Iu (fun hd=>by have k0:=q_0.k0 hd;have:=hd.a0;omega),⟨rfl,ba⟩,(by trivial)⟩)) (fun h3=>⟨?b,iL (fun h4=>(⟨_,Iu (fun hd=>by have k0:=q_0.k0 hd;have:=hd.a6;omega),⟨rfl,ba⟩,(by trivial)⟩)) (fun h4=>⟨?c,iL (fun h5=>(⟨_,Iu (fun hd=>by have k1:=q_0.k1 hd;have:=hd.b0;omega),⟨rfl,ba⟩,(by trivial)⟩)) (fun h5=>⟨?d,iL (fun h6=>(⟨_,Iu (fun hd=>by have k1:=q_0.k1 hd;have:=hd.fM;omega),⟨rfl,ba⟩,(by trivial)⟩)) (fun h6 h7=>⟨?e,?f,fun h8 h9=>⟨?g,fun G q_1 h10 h11=>⟨?h,fun h12 h13=>⟨?i,(⟨_,WY (q_0.1 h2).2.1 (q_0.1 h2).2.2 (q_0.l0 h2) (q_0.l1 h2) (by omega) (by omega) (by omega) (by omega) q_1,⟨rfl,ba⟩,(by trivial)⟩)⟩⟩⟩⟩)⟩)⟩)⟩)⟩),fun G q_1=>⟨fun h2=>(Kz (fun hd=>by rw[q_1.2 hd]at h2;cases h2)),fun h2=>⟨(by omega),?j,?k,fun h3 h4=>⟨?l,(⟨0,b7 _,⟨rfl,ba⟩,⟨rfl,Qt _ _ _,UX _ _ _,ba⟩,Qt _ _ _,UX _ _ _,(by trivial)⟩),fun I q_2=>iL (fun h5=>⟨fun K q_3 h6 h7=>⟨?m,fun h8 h9=>⟨?n,fun M q_4 h10 h11=>⟨?o,fun h12 h13=>⟨?p,(by have hd:=(q_1.1 h2);have k0:=q_0.k0 hd;have k1:=q_0.k1 hd;have a0:=hd.a0;have a6:=hd.a6;have b0:=hd.b0;have fM:=hd.fM;have hl:=hd.len;omega),(⟨_,Qq q_3 q_4 (by have hd:=(q_1.1 h2);have k0:=q_0.k0 hd;have k1:=q_0.k1 hd;have a0:=hd.a0;have a6:=hd.a6;have b0:=hd.b0;have fM:=hd.fM;have hl:=hd.len;omega),⟨rfl,ba⟩,(by trivial)⟩)⟩⟩⟩⟩,fun K q_3=>⟨?q,iL (fun h6=>⟨?r,(NR q_3 (tN hp)),iB (fun h7=>(KA q_3 (by have hd:=(q_1.1 h2);have k0:=q_0.k0 hd;have k1:=q_0.k1 hd;have a0:=hd.a0;have a6:=hd.a6;have b0:=hd.b0;have fM:=hd.fM;have hl:=hd.len;omega) h7)) (fun h7=>⟨?s,?t,?u,⟨rfl,KB (by have hd:=(q_1.1 h2);have k0:=q_0.k0 hd;have k1:=q_0.k1 hd;have a0:=hd.a0;have a6:=hd.a6;have b0:=hd.b0;have fM:=hd.fM;have hl:=hd.len;omega)⟩,fun h8 h9=>⟨?v,(by exact⟨I+1,by have hd:=(q_1.1 h2);have k0:=q_0.k0 hd;have k1:=q_0.k1 hd;have a0:=hd.a0;have a6:=hd.a6;have b0:=hd.b0;have fM:=hd.fM;have hl:=hd.len;omega,by have hd:=(q_1.1 h2);have k0:=q_0.k0 hd;have k1:=q_0.k1 hd;have a0:=hd.a0;have a6:=hd.a6;have b0:=hd.b0;have fM:=hd.fM;have hl:=hd.len;omega,⟨by omega,ba⟩,⟨rfl,Ff q_3 h7 (by have hd:=(q_1.1 h2);have k0:=q_0.k0 hd;have k1:=q_0.k1 hd;have a0:=hd.a0;have a6:=hd.a6;have b0:=hd.b0;have fM:=hd.fM;have hl:=hd.len;omega),Fg (by have hd:=(q_1.1 h2);have k0:=q_0.k0 hd;have k1:=q_0.k1 hd;have a0:=hd.a0;have a6:=hd.a6;have b0:=hd.b0;have fM:=hd.fM;have hl:=hd.len;omega),ba⟩,Ff q_3 h7 (by have hd:=(q_1.1 h2);have k0:=q_0.k0 hd;have k1:=q_0.k1 hd;have a0:=hd.a0;have a6:=hd.a6;have b0:=hd.b0;have fM:=hd.fM;have hl:=hd.len;omega),Fg (by have hd:=(q_1.1 h2);have k0:=q_0.k0 hd;have k1:=q_0.k1 hd;have a0:=hd.a0;have a6:=hd.a6;have b0:=hd.b0;have fM:=hd.fM;have hl:=hd.len;omega),(by trivial)⟩)⟩⟩)⟩) (fun h6=>⟨(Qr q_3 (tN hp)),iB (fun h7=>(Iy q_3 (by have hd:=(q_1.1 h2);have k0:=q_0.k0 hd;have k1:=q_0.k1 hd;have a0:=hd.a0;have a6:=hd.a6;have b0:=hd.b0;have fM:=hd.fM;have hl:=hd.len;omega) (by have hd:=(q_1.1 h2);have k0:=q_0.k0 hd;have k1:=q_0.k1 hd;have a0:=hd.a0;have a6:=hd.a6;have b0:=hd.b0;have fM:=hd.fM;have hl:=hd.len;omega) h7)) (fun h7=>⟨?w,?x,?y,⟨rfl,Qv (by have hd:=(q_1.1 h2);have k0:=q_0.k0 hd;have k1:=q_0.k1 hd;have a0:=hd.a0;have a6:=hd.a6;have b0:=hd.b0;have fM:=hd.fM;have hl:=hd.len;omega)⟩,fun h8 h9=>⟨?z,(by exact⟨I+1,by have hd:=(q_1.1 h2);have k0:=q_0.k0 hd;have k1:=q_0.k1 hd;have a0:=hd.a0;have a6:=hd.a6;have b0:=hd.b0;have fM:=hd.fM;have hl:=hd.len;omega,by have hd:=(q_1.1 h2);have k0:=q_0.k0 hd;have k1:=q_0.k1 hd;have a0:=hd.a0;have a6:=hd.a6;have b0:=hd.b0;have fM:=hd.fM;have hl:=hd.len;omega,⟨by omega,ba⟩,⟨rfl,CJ (by have hd:=(q_1.1 h2);have k0:=q_0.k0 hd;have k1:=q_0.k1 hd;have a0:=hd.a0;have a6:=hd.a6;have b0:=hd.b0;have fM:=hd.fM;have hl:=hd.len;omega),IA q_3 h7 (by have hd:=(q_1.1 h2);have k0:=q_0.k0 hd;have k1:=q_0.k1 hd;have a0:=hd.a0;have a6:=hd.a6;have b0:=hd.b0;have fM:=hd.fM;have hl:=hd.len;omega),ba⟩,CJ (by have hd:=(q_1.1 h2);have k0:=q_0.k0 hd;have k1:=q_0.k1 hd;have a0:=hd.a0;have a6:=hd.a6;have b0:=hd.b0;have fM:=hd.fM;have hl:=hd.len;omega),IA q_3 h7 (by have hd:=(q_1.1 h2);have k0:=q_0.k0 hd;have k1:=q_0.k1 hd;have a0:=hd.a0;have a6:=hd.a6;have b0:=hd.b0;have fM:=hd.fM;have hl:=hd.len;omega),(by trivial)⟩)⟩⟩)⟩)⟩⟩) (fun h5=>⟨ba,iB (fun h6 =>?a0) (fun h6=>⟨fun h7 =>?a1,fun h7 =>?a2⟩)⟩)⟩⟩⟩⟩⟩)⟩
 case a|b|c|d|e|f=>rw[(q_0.1 h2).1];simp
 case g|h|i|v=>simp only[aJ,aM]at*;omega
 case j|k|q=>rw[q_0.get (q_1.1 h2)];simp
 case l|m|n|o|p|z=>have hd:=(q_1.1 h2);have k0:=q_0.k0 hd;have k1:=q_0.k1 hd;have a0:=hd.a0;have a6:=hd.a6;have b0:=hd.b0;have fM:=hd.fM;have hl:=hd.len;simp only[aJ]at*;omega
 case r|s=>rw[q_3.len];simp
 case t|u=>rw[Fe q_3 h7];simp
 case w|x|y=>rw[Ix q_3 h7];simp
 case a0=>
  rw[IB (a:=bf (nth (.int .i64) F.1 0)) (b:=bf (nth (.int .i64) F.1 1)) (by have hd:=(q_1.1 h2);have k0:=q_0.k0 hd;have k1:=q_0.k1 hd;have a0:=hd.a0;have a6:=hd.a6;have b0:=hd.b0;have fM:=hd.fM;have hl:=hd.len;omega)]at h6;exact Ab (by have hd:=(q_1.1 h2);have k0:=q_0.k0 hd;have k1:=q_0.k1 hd;have a0:=hd.a0;have a6:=hd.a6;have b0:=hd.b0;have fM:=hd.fM;have hl:=hd.len;omega) (by have hd:=(q_1.1 h2);have k0:=q_0.k0 hd;have k1:=q_0.k1 hd;have a0:=hd.a0;have a6:=hd.a6;have b0:=hd.b0;have fM:=hd.fM;have hl:=hd.len;omega) (.inl h6)
 case a1=>
  simp only[bl,reduceCtorEq]at h7;rw[IB (a:=bf (nth (.int .i64) F.1 0)) (b:=bf (nth (.int .i64) F.1 1)) (by have hd:=(q_1.1 h2);have k0:=q_0.k0 hd;have k1:=q_0.k1 hd;have a0:=hd.a0;have a6:=hd.a6;have b0:=hd.b0;have fM:=hd.fM;have hl:=hd.len;omega)]at h7;exact Ab (by have hd:=(q_1.1 h2);have k0:=q_0.k0 hd;have k1:=q_0.k1 hd;have a0:=hd.a0;have a6:=hd.a6;have b0:=hd.b0;have fM:=hd.fM;have hl:=hd.len;omega) (by have hd:=(q_1.1 h2);have k0:=q_0.k0 hd;have k1:=q_0.k1 hd;have a0:=hd.a0;have a6:=hd.a6;have b0:=hd.b0;have fM:=hd.fM;have hl:=hd.len;omega) (.inr h7)
 case a2=>
  simp only[bl,reduceCtorEq]at h7;exact Qn h6 h7
def Tryz.RA:bW Tryz.prog Tryz.B.eT Tryz.X 61 [.str] [aC,.err] (fun s=>s.length<=100000) (fun x y=>y=(fun s=>hZ s) x):=
 cD (X:=Tryz.X) Tryz.KQ Tryz.func61 (by kernel_rfl) (fun x=>Tryz.FL x) (fun x hw hp=>Rz x hw hp)
def Tryz.Wc:bW Tryz.prog Tryz.B.eT Tryz.X 79 [.str,.str,.int .i64,.int .i64] [.slice .str] (fun x=>x.1.length<4294967281/\x.2.1.length=1/\x.2.2.1=(1:Int)/\x.2.2.2=(-1:Int)) (fun x y=>y=dS (HT x.2.1) x.1):=by
 refine⟨⟨Tryz.f79,Tryz.func79,by kernel_rfl,by kernel_rfl⟩,fun O w x vs hG hO ha hp =>?_⟩;obtain⟨s,p,sv,n⟩:=x;obtain⟨hs,hp,hsv,hn⟩:=hp;obtain⟨c,rfl⟩:∃c,p=[c]:=dn.1 hp
 obtain⟨v,vs',rfl,hv,u,vs2,rfl,hu,t,vs3,rfl,ht,z,hz⟩:=ha;obtain⟨rfl,hz⟩:=hz;obtain⟨rfl,hl⟩:=nQ hv;obtain⟨rfl,_⟩:=nQ hu;have et:t=.int .i64 1:=by obtain⟨e,_⟩:=ht.one rfl;simp at e;rw[e,show sv=(1:Int)from hsv]
 have ez:z=.int .i64 (-1):=by obtain⟨e,_⟩:=hz.one rfl;simp at e;rw[e,show n=(-1:Int)from hn]
 subst et;subst ez;obtain⟨m,hm⟩:=hG.max;have hsz:(⟨s.toArray⟩:ByteArray).size=s.length:=by simp[dd]
 have h1:1<=(⟨#[c]⟩:ByteArray).size:=b9 1;have hlen:=ed ⟨#[c]⟩ h1 1 _ ⟨s.toArray⟩ rfl;have hdat:=ee ⟨#[c]⟩ 1 (bq ⟨s.toArray⟩ ⟨#[c]⟩) ⟨s.toArray⟩;have hcb:=Lib.countB_le ⟨#[c]⟩ h1 _ ⟨s.toArray⟩ (b9 _);have hcall:Calls Tryz.prog 79 #[.string ⟨s.toArray⟩,.string ⟨#[c]⟩,.int .i64 1,.int .i64 (-1)] w fun e w'=>
   e=.returned (.slice (some ⟨w.heap.size,0,none⟩) (b8 ⟨#[c]⟩ 1 (bq ⟨s.toArray⟩ ⟨#[c]⟩ +1-1) ⟨s.toArray⟩).length (bq ⟨s.toArray⟩ ⟨#[c]⟩ +1))/\w'=w.alloc (.cells (Lib.cellsOf (b8 ⟨#[c]⟩ 1 (bq ⟨s.toArray⟩ ⟨#[c]⟩ +1-1) ⟨s.toArray⟩) (bq ⟨s.toArray⟩ ⟨#[c]⟩ +1)) 9):=Any.strings_genSplit {Tryz.LV with} (by kernel_rfl) ⟨s.toArray⟩ ⟨#[c]⟩ 1 (-1) (bq ⟨s.toArray⟩ ⟨#[c]⟩ +1) m w (by rw[hsz];exact hs) hm h1 (b9 1) (by decide) (by decide) (by rw[if_pos (by decide)];omega)
 rw[Nat.add_sub_cancel,hlen]at hcall;have e2:Lib.cellsOf (b8 ⟨#[c]⟩ 1 (bq ⟨s.toArray⟩ ⟨#[c]⟩) ⟨s.toArray⟩) (bq ⟨s.toArray⟩ ⟨#[c]⟩ +1)=((b8 ⟨#[c]⟩ 1 (bq ⟨s.toArray⟩ ⟨#[c]⟩) ⟨s.toArray⟩).map cn).toArray:=by rw[<-hlen];exact Lib.cellsOf_full _
 rw[e2]at hcall;refine hcall.mono ?_;rintro e w' ⟨rfl,rfl⟩;have hd:(b8 ⟨#[c]⟩ 1 (bq ⟨s.toArray⟩ ⟨#[c]⟩) ⟨s.toArray⟩).map (·.data.toList)=dS c s:=hdat;have hlf:(dS c s).length=bq ⟨s.toArray⟩ ⟨#[c]⟩ +1:=by rw[<-hd,bz,hlen]
 refine⟨[_],dS c s,rfl,rfl,⟨_,rfl,VR.cI rfl ⟨_,rfl,?_,.inr ⟨w.heap.size,0,bq ⟨s.toArray⟩ ⟨#[c]⟩ +1,by rw[hlf],by rw[hlf];exact b9 _,fun i y hy =>?_⟩⟩⟩,(Vg.Below.refl _ w).alloc (b9 _) _⟩
 ·rw[hlf];have hs:s.length<4294967281:=hs;rw[hsz]at hcb;unfold aM;omega
 ·have hyl:=Fp c s y (ef hy)
  refine⟨[.string ⟨y.toArray⟩],⟨rfl,b4 hyl hl⟩,fun j u hj=>⟨?_,fun hh =>?_⟩⟩
  ·have hj0:j=0:=by
    rcases j with _|j
    ·rfl
    ·simp at hj
   subst hj0;simp at hj;subst hj;rw[<-hd,List.getElem?_map,cz]at hy;obtain⟨q,hq,rfl⟩:=hy;have hh:(w.alloc (.cells ((b8 ⟨#[c]⟩ 1 (bq ⟨s.toArray⟩ ⟨#[c]⟩) ⟨s.toArray⟩).map cn).toArray 9)).heap[w.heap.size]?=some (.cells ((b8 ⟨#[c]⟩ 1 (bq ⟨s.toArray⟩ ⟨#[c]⟩) ⟨s.toArray⟩).map cn).toArray 9 (0,0)):=heap_alloc_new w _;rw[cc hh];simp only[Ty.size,Nat.mul_one,Nat.zero_add,dp,List.getElem?_toArray,List.getElem?_map,hq,eg]
  ·have:=hO _ _ hh
   simp at this
def Tryz.wj:List (FuncId×(Bool×aT)):=[(79,(true,cC [.str,.str,.int .i64,.int .i64] [.slice .str] (fun x=>x.1.length<4294967281/\x.2.1.length=1/\x.2.2.1=(1:Int)/\x.2.2.2=(-1:Int)) (fun x=>dS (HT x.2.1) x.1)))]
def Tryz.C2:bP Tryz.prog Tryz.B Tryz.X Tryz.wj:=
 aO (aE Tryz.Wc) (bR Tryz.bQ)
def DX(s:List UInt8)(p:List UInt8)(hw:gM [.str,.str] (s,p))(hp:(fun x=>x.1.length<4294967281/\x.2.length=1) (s,p)):(dL Tryz.B Tryz.wj Tryz.f60 [] [.str,.str] [.slice .str] (fun x y=>y=(fun x=>dS (HT x.2) x.1) x) (s,p)).holds:=by
 refine holds_of (p:=
  let za:=bb p
  let zb:=dS (List.rec 0 (fun(head:UInt8) (tail:List UInt8) (tail_ih:UInt8)=>head) p) s
  za<=aM->(bb s<4294967281/\za=1/\(↑za:Int)=1/\(-1:Int)=(-1:Int))/\zb=zb) (by kernel_rfl) ?_
 dsimp -iota -proj -eta only;dsimp only at hp;exact fun h0=>⟨(by omega),rfl⟩
def Tryz.DY:bW Tryz.prog Tryz.B.eT Tryz.X 60 [.str,.str] [.slice .str] (fun x=>x.1.length<4294967281/\x.2.length=1) (fun x y=>y=(fun x=>dS (HT x.2) x.1) x):=
 cD (X:=Tryz.X) Tryz.C2 Tryz.func60 (by kernel_rfl) (fun _=>[]) (fun x hw hp=>DX x.1 x.2 hw hp)
def Tryz.spZ18:Bool×aT:=(false,aX Tryz.bB [.obj 0] (fun _ _=>True) Tryz.tO)
def Tryz.FM:List (FuncId×(Bool×aT)):=[(57,Tryz.spZ18),(70,Tryz.spZ8),(71,Tryz.spZ9),(72,Tryz.spZ7)]
def Tryz.KR:bP Tryz.prog Tryz.B Tryz.X Tryz.FM:=
 aO (Tryz.qB) (aO (Tryz.tl) (aO (Tryz.tm) (aO (aE Tryz.Ji) (bR Tryz.bQ))))
def Tryz.vV:List (Alt Tryz.bB [.obj 0]):=[{bO:=Tryz.bB,res:=[.d .err],out:=fun _ x=>(iX x).1,ret:=fun _ x=>(aI (iX x).2,())}]
def RB(d:Dk)(hw:hU [.obj 0] ())(hp:(fun _ x=>dD x 1000000) () d):(dA Tryz.B Tryz.FM Tryz.f44 [] Tryz.bB [.obj 0] Tryz.vV () d).holds:=by
 refine holds_of (p:=
  let za:=d.2.2.2.1
  let zb:=za=za
  let zc:=(iX d).1
  let zd:=(aI (iX d).2,())
  let ze:=(-1:Int)
  let zf:=bK d 1 (@bc UInt8)
  let zg:=aK.isNil (aI zf.2)
  let zh:=zf.1.2.2.2.1
  let zi:=zh=zh
  let zj:=ze<=zf.1.1.1
  let zk:=zj/\bb zf.1.2.1=bb zf.1.2.2.1
  let zl:=aI (bL zf.1).2
  let zm:=(bL zf.1).1
  let zn:=zm.2.2.2.1
  let zo:=zn=zn
  let zp:=ze<=zm.1.1
  let zq:=dU 2 0
  let zr:=bK zm 0 zq
  let zs:=zr.1.2.2.2.1
  let zt:=(bL zr.1).1
  let zu:=(bL zm).1.2.2.2.1
  let zv:=zo/\True/\zm=zc/\(zl,())=zd
  let zw:=bK zf.1 0 zq
  let zx:=zw.1.2.2.2.1
  let zy:=(bL zw.1).1
  zb/\True/\(True->((decide ((↑(bb d.2.2.1):Int)<112))=true->zb/\True/\d=zc/\(aK.no 8,())=zd)/\((decide ((↑(bb d.2.2.1):Int)<112))=false->zb/\(ze<=d.1.1/\bb za<=900000000)/\(True->(zg=true->zi/\zk/\(True->((aK.isNil zl)=true->True/\zo/\(zp/\bb zn<=900000000)/\(True->((aK.isNil (aI zr.2))=true->zs=zs/\(ze<=zr.1.1.1/\bb zr.1.2.1=bb zr.1.2.2.1)/\(True->zt.2.2.2.1=zt.2.2.2.1/\True/\zt=zc/\(aI (bL zr.1).2,())=zd))/\((aK.isNil (aI zr.2))=false->zs=zs/\True/\zr.1=zc/\(aI zr.2,())=zd)))/\((aK.isNil zl)=false->((aK.isNil zl)=true->zo/\(zp/\bb zm.2.1=bb zm.2.2.1)/\(True->zu=zu/\True/\(bL zm).1=zc/\(aI (bL zm).2,())=zd))/\((aK.isNil zl)=false->zv))))/\(zg=false->(zg=true->True/\zi/\(zj/\bb zh<=900000000)/\(True->((aK.isNil (aI zw.2))=true->zx=zx/\(ze<=zw.1.1.1/\bb zw.1.2.1=bb zw.1.2.2.1)/\(True->zy.2.2.2.1=zy.2.2.2.1/\True/\zy=zc/\(aI (bL zw.1).2,())=zd))/\((aK.isNil (aI zw.2))=false->zx=zx/\True/\zw.1=zc/\(aI zw.2,())=zd)))/\(zg=false->(zg=true->zi/\zk/\(True->zv))/\(zg=false->zi/\True/\zf.1=zc/\(aI zf.2,())=zd))))))) (by kernel_rfl) ?_
 dsimp -iota -proj -eta only;refine⟨rfl,ba,fun h0=>iL (fun h1=>(by rw[me,VL h1];exact⟨rfl,ba,rfl,rfl⟩)) (fun h1=>⟨rfl,⟨hp.kC,b4 hp.nT (by decide)⟩,fun h2=>⟨fun h3=>⟨rfl,(by have f:=mc hp 1 [];exact⟨f.kC,f.len⟩),fun h4=>⟨fun h5=>⟨ba,rfl,(by have f:=rB (mc hp 1 []);exact⟨f.kC,b4 f.nT (by decide)⟩),fun h6=>⟨fun h7=>⟨rfl,(by have f:=mc (rB (mc hp 1 [])) 0 (dU 2 0);exact⟨f.kC,f.len⟩),fun h8=>(by rw[me,Xz (by omega) (aQ.1 h3) (aQ.1 h5) (aQ.1 h7)];exact⟨rfl,ba,rfl,rfl⟩)⟩,fun h7=>(by rw[me,Xy (by omega) (aQ.1 h3) (aQ.1 h5) (eG h7)];exact⟨rfl,ba,rfl,rfl⟩)⟩⟩,fun h5=>⟨fun h6=>⟨rfl,?a,fun h7 =>?b⟩,fun h6=>(by rw[me,Xx (by omega) (aQ.1 h3) (eG h5)];exact⟨rfl,ba,rfl,rfl⟩)⟩⟩⟩,fun h3=>⟨fun h4=>⟨ba,rfl,?c,fun h5=>⟨fun h6=>⟨rfl,?d,fun h7 =>?e⟩,fun h6 =>?f⟩⟩,fun h4=>⟨fun h5=>⟨rfl,?g,fun h6 =>?h⟩,fun h5=>(by rw[me,Xw (by omega) (eG h3)];exact⟨rfl,ba,rfl,rfl⟩)⟩⟩⟩⟩)⟩
 case a|b|c|d|e|f|g|h=>simp_all
def Tryz.RC:bX Tryz.prog Tryz.B.eT Tryz.X 44 false (aX Tryz.bB [.obj 0] (fun _ x=>dD x 1000000) Tryz.vV):=
 bH (X:=Tryz.X) Tryz.KR Tryz.func44 (by kernel_rfl) (fun(a:CD [.obj 0]) (x:PD Tryz.bB)=>[]) (fun(a:CD [.obj 0]) (x:PD Tryz.bB) hw hp=>RB x hw hp)
def Tryz.spZ19:Bool×aT:=(false,aX Tryz.bB [.obj 0] (fun _ _=>True) Tryz.Bm)
def Tryz.L3:List (FuncId×(Bool×aT)):=[(19,Tryz.spZ19),(57,Tryz.spZ18),(58,(false,gz Tryz.B [] Tryz.f58 [])),(59,(true,p7 [.str] [.int .i64] (fun s=>4<=s.length) (fun s y=>(y:Int)=iW s))),(60,(true,cC [.str,.str] [.slice .str] (fun x=>x.1.length<4294967281/\x.2.length=1) (fun x=>dS (HT x.2) x.1))),(61,(true,cC [.str] [aC,.err] (fun s=>s.length<=100000) (fun s=>hZ s)))]
def Tryz.RD:bP Tryz.prog Tryz.B Tryz.X Tryz.L3:=
 aO (Tryz.Bn) (aO (Tryz.qB) (aO (eV (bR Tryz.bQ) Tryz.func58 (by kernel_rfl) []) (aO (ir Tryz.Ru) (aO (aE Tryz.DY) (aO (aE Tryz.RA) (bR Tryz.bQ))))))
def Tryz.L4(d:Dk):dX:=[
 (0,fun st=>{X:=Nat,inv:=fun i=>i<=2,cB:=fun i=>2-i,bM:=fun i=>[(29,sI i),(5,sI (eN d i).2)],aF:=fun i=>[(bJ st 4,.cells 117 [.ref 0 0,.d (.int .i64) (eN d i).1,.app aC [] (mJ st (bJ st 4) 2)])],keep:=[0,4],ib:=[bJ st 4]}),
 (2,fun st=>{X:=Nat,inv:=fun i=>i<=55,cB:=fun i=>55-i,bM:=fun i=>[(74,sI i),(11,sS (iZ d (kW d) i))],keep:=[0,4,5]}),
 (4,fun st=>{X:=Nat,inv:=fun i=>i<=bb (dP d)/\∀j,j<i->nth .str (dP d) j=[]\/(hZ (nth .str (dP d) j)).2.isNil=true,cB:=fun i=>bb (dP d)-i,bM:=fun i=>[(103,sI i)],aF:=fun i=>[(bJ st 4,.cells 117 [.ref 0 0,.d (.int .i64) (eN d 2).1,.app aC (km ((dP d).take i)) (mJ st (bJ st 4) 2)]),(mJ st (bJ st 4) 2,.tok aC (km ((dP d).take i)))],keep:=[4,101,102],ib:=[bJ st 4,mJ st (bJ st 4) 2]})]
def Tryz.Br:List (Alt Tryz.bB [.obj 0]):=[
 {bO:=Tryz.bB,res:=[.ia,.d .err],ok:=fun _ x=>(cP x).2≠0,out:=fun _ x=>x,ret:=fun _ x=>(aI (cP x).2,())},
 {bO:=Tryz.bB++[.box 117 [.obj 0,.d (.int .i64),.d (.slice aC)]],res:=[.obj 4,.d .err],ok:=fun _ x=>(cP x).2=0,out:=fun _ x=>(x.1,x.2.1,x.2.2.1,x.2.2.2.1,((cP x).1.1,(cP x).1.2,()),()),ret:=fun _ _=>(aK.nil,())}]
def Wd(d:Dk)(hw:hU [.obj 0] ())(hp:(fun _ x=>dD x 1000000/\∀i,i<x.2.2.1.length->(nth .str x.2.2.1 i).length=64) () d):(dA Tryz.B Tryz.L3 Tryz.f39 (Tryz.L4 d) Tryz.bB [.obj 0] Tryz.Br () d).holds:=by
 refine holds_of (p:=
  let za:=d.2.2.2.1
  let zb:=za=za
  let zc:=d.1.2.1
  let zd:=(cP d).2
  let ze:=zd≠(0:Int)
  let zf:=d=d
  let zg:=(aI zd,())
  let zh:=zb/\ze/\zf/\(aK.no (9:Int),())=zg
  let zi:=d.2.2.1
  let zj:=bb zi
  let zk:=(↑zj:Int)
  let zl:=zb/\ze/\zf/\(aK.no (4:Int),())=zg
  let zm:=C.ref 0 0
  let zn:=zm=zm
  let zo:=@bc (List UInt8×List (List UInt8×Int×Int×Unit)×List (Int×Int×Int×Unit)×Unit)=@bc (List UInt8×List (List UInt8×Int×Int×Unit)×List (Int×Int×Int×Unit)×Unit)
  let zp:=zo/\True
  let zq:=fun(F:Nat)=>(↑F:Int)
  let zr:=!aK.isNil (aK.no (9:Int))
  let zs:=(0:Int)<=(1:Int)
  let zt:=(1:Int)<=(5:Int)
  let zu:=bb (@bc UInt8)
  let zv:=(↑zu:Int)
  let zw:=(0:Int)<=(5:Int)
  let zx:=(5:Int)<=(9:Int)
  let zy:=bj 1 (bd 5 (@bc UInt8))
  let zz:=bj 5 (bd 9 (@bc UInt8))
  let zaa:=(0:Int)<=(0:Int)
  let zab:=fun(F:Nat)=>(eN d F).1
  let zac:=fun(F:Nat)=>aJ (zq F)
  let zad:=aJ (1:Int)
  let zae:=fun(F:Nat)=>zq F+(1:Int)
  let zaf:=fun(F:Nat)=>aJ (zae F)
  let zag:=d.2.1
  let zah:=(C.aV 1=C.aV 1/\C.aV 2=C.aV 2/\zb/\d.1.1=d.1.1/\zc=zc/\True)/\zag=zag/\zi=zi/\zb/\True
  let zai:=zo/\zah
  let zaj:=fun(F:Nat)=>zac F->zad->zaf F/\∃(x':Nat),x'<=2/\2-x'<2-F/\(zae F=(↑x':Int)/\(eN d F).2=(eN d x').2/\True)/\(zn/\zab F=(eN d x').1/\zp)/\zai
  let zak:=fun(G:Int) (F:Nat) (I:Int)=>((decide (G > zab F))=true->((decide (I<=(3520:Int)))=true->zac F->zad->zaf F/\∃(x':Nat),x'<=2/\2-x'<2-F/\(zae F=(↑x':Int)/\I=(eN d x').2/\True)/\(zn/\G=(eN d x').1/\zp)/\zai)/\((decide (I<=(3520:Int)))=false->zaj F))/\((decide (G > zab F))=false->zaj F)
  let zal:=fun(F:Nat)=>(zs/\zt/\(5:Int)<=zv)/\(zw/\zx/\(9:Int)<=zv)/\4<=bb zy/\∀G:Int,G=iW zy->4<=bb zz/\∀I:Int,I=iW zz->(zaa/\(0:Int)<zv)/\(((↑(b6 (dW (@bc UInt8) 0)):Int) == (83:Int))=true->zak G F I)/\(((↑(b6 (dW (@bc UInt8) 0)):Int) == (83:Int))=false->zaj F)
  let zam:=!aK.isNil (aK.no (1:Int))
  let zan:=zb/\ze/\zf/\(aK.no (1:Int),())=zg
  let zao:=fun(F:Nat)=>(zam=true->zan)/\(zam=false->zal F)
  let zap:=!aK.isNil aK.nil
  let zaq:=zb/\ze/\zf/\(aK.nil,())=zg
  let zar:=fun(F:Nat)=>nth Ty.str zi F
  let zas:=fun(F:Nat)=>(↑(bb (zar F)):Int)
  let zat:=fun(F:Nat)=>bj 1 (bd 5 (zar F))
  let zau:=fun(F:Nat)=>bj 5 (bd 9 (zar F))
  let zav:=kW d
  let zaw:=fun(K:Int) (G:Nat)=>(2:Int)+K+zq G
  let zax:=fun(G:Nat)=>iZ d zav G
  let zay:=fun(F:Nat)=>(zn/\zab F=zab F/\zp)/\zai
  let zaz:=fun(G:Nat) (F:Nat)=>bb (zax G)+zu<=aM/\(zac G->zad->zaf G/\∃(x':Nat),x'<=55/\55-x'<55-G/\(zae G=(↑x':Int)/\zax G++ @bc UInt8=iZ d zav x'/\True)/\zay F)
  let zba:=fun(G:Nat) (F:Nat)=>(zam=true->zan)/\(zam=false->zaz G F)
  let zbb:=fun(F G:Nat)=>bj 0 (bd (bf (eN d F).2) (zax G))
  let zbc:=dP d
  let zbd:=bb zbc
  let zbe:=(eN d 2).1
  let zbf:=fun(F G I:Nat)=>nth Ty.str (dS (10:UInt8) (zbb F G)) I
  let zbg:=fun(I:Nat)=>km (bd I zbc)
  zb/\True/\(True->(zc=true->zh)/\(zc=false->zb/\True/\(True->((decide (zk<(112:Int)))=true->zl)/\((decide (zk<(112:Int)))=false->(∃(x:Nat),x<=2/\((0:Int)=(↑x:Int)/\(0:Int)=(eN d x).2/\True)/\(zn/\(0:Int)=(eN d x).1/\zp)/\True)/\∀F:Nat,F<=2->((decide (zq F<(2:Int)))=true->(zc=true->(zr=true->zh)/\(zr=false->zal F))/\(zc=false->((decide (zq F<(0:Int)))=true->zao F)/\((decide (zq F<(0:Int)))=false->zj<=aM->((decide (zq F>=zk))=true->zao F)/\((decide (zq F>=zk))=false->((0:Int)<=zq F/\zq F<zk)/\F<zj/\(zap=true->zaq)/\(zap=false->(zs/\zt/\(5:Int)<=zas F)/\(zw/\zx/\(9:Int)<=zas F)/\4<=bb (zat F)/\∀G:Int,G=iW (zat F)->4<=bb (zau F)/\∀I:Int,I=iW (zau F)->(zaa/\(0:Int)<zas F)/\(((↑(b6 (dW (zar F) 0)):Int) == (83:Int))=true->zak G F I)/\(((↑(b6 (dW (zar F) 0)):Int) == (83:Int))=false->zaj F))))))/\((decide (zq F<(2:Int)))=false->((zab F == (0:Int))=true->zl)/\((zab F == (0:Int))=false->(∃(x:Nat),x<=55/\((0:Int)=(↑x:Int)/\@bc UInt8=iZ d zav x/\True)/\True)/\∀G:Nat,G<=55->((decide (zq G<(55:Int)))=true->(2:Int)≠(0:Int)/\∀I:Int,I=db (zab F) (2:Int)->∀K:Int,K=I*(55:Int)->aJ I->aJ (55:Int)->aJ K/\(aJ (2:Int)->aJ K->aJ ((2:Int)+K)/\(aJ ((2:Int)+K)->zac G->aJ (zaw K G)/\(zc=true->(zr=true->zh)/\(zr=false->zaz G F))/\(zc=false->((decide (zaw K G<(0:Int)))=true->zba G F)/\((decide (zaw K G<(0:Int)))=false->zj<=aM->((decide (zaw K G>=zk))=true->zba G F)/\((decide (zaw K G>=zk))=false->((0:Int)<=zaw K G/\zaw K G<zk)/\bf (zaw K G)<zj/\(zap=true->zaq)/\(zap=false->bb (zax G)+bb (nth Ty.str zi (bf (zaw K G)))<=aM/\(zac G->zad->zaf G/\∃(x':Nat),x'<=55/\55-x'<55-G/\(zae G=(↑x':Int)/\zax G++nth Ty.str zi (bf (zaw K G))=iZ d zav x'/\True)/\zay F))))))))/\((decide (zq G<(55:Int)))=false->(zaa/\(0:Int)<=(eN d F).2/\(eN d F).2<=(↑(bb (zax G)):Int))/\(bb (zbb F G)<4294967281/\bb [(10:UInt8)]=1)/\(bb (dS (10:UInt8) (zbb F G))<=aM->(∃(x:Nat),(x<=zbd/\∀(j:Nat),j<x->nth Ty.str zbc j=@bc UInt8\/aK.isNil (aI (oS (nth Ty.str zbc j)).2)=true)/\((0:Int)=(↑x:Int)/\True)/\(zn/\zab F=zbe/\@bc (List UInt8×List (List UInt8×Int×Int×Unit)×List (Int×Int×Int×Unit)×Unit)=km (bd x zbc)/\True)/\@bc (List UInt8×List (List UInt8×Int×Int×Unit)×List (Int×Int×Int×Unit)×Unit)=km (bd x zbc)/\True)/\∀I:Nat,(I<=zbd/\∀(j:Nat),j<I->nth Ty.str zbc j=@bc UInt8\/aK.isNil (aI (oS (nth Ty.str zbc j)).2)=true)->((decide (zq I<(↑(bb (dS (10:UInt8) (zbb F G))):Int)))=true->((0:Int)<=zq I/\zq I<(↑(bb (dS (10:UInt8) (zbb F G))):Int))/\((zbf F G I == @bc UInt8)=true->zac I->zad->zaf I/\∃(x':Nat),(x'<=zbd/\∀(j:Nat),j<x'->nth Ty.str zbc j=@bc UInt8\/aK.isNil (aI (oS (nth Ty.str zbc j)).2)=true)/\zbd-x'<zbd-I/\(zae I=(↑x':Int)/\True)/\(zn/\zbe=zbe/\zbg I=km (bd x' zbc)/\True)/\zbg I=km (bd x' zbc)/\zah)/\((zbf F G I == @bc UInt8)=false->bb (zbf F G I)<=100000/\((!aK.isNil (aI (oS (zbf F G I)).2))=true->zl)/\((!aK.isNil (aI (oS (zbf F G I)).2))=false->(zbg I=zbg I/\bb (zbg I)+bb [(oS (zbf F G I)).1]<=1000000000)/\(zac I->zad->zaf I/\∃(x':Nat),(x'<=zbd/\∀(j:Nat),j<x'->nth Ty.str zbc j=@bc UInt8\/aK.isNil (aI (oS (nth Ty.str zbc j)).2)=true)/\zbd-x'<zbd-I/\(zae I=(↑x':Int)/\True)/\(zn/\zbe=zbe/\zbg I++[(oS (zbf F G I)).1]=km (bd x' zbc)/\True)/\zbg I++[(oS (zbf F G I)).1]=km (bd x' zbc)/\zah))))/\((decide (zq I<(↑(bb (dS (10:UInt8) (zbb F G))):Int)))=false->zb/\zd=(0:Int)/\(d.1,zag,zi,za,(zbe,zbg I,()),())=(d.1,zag,zi,za,((cP d).1.1,(cP d).1.2,()),())/\(aK.nil,())=(aK.nil,()))))))))))) (by kernel_rfl) ?_
 dsimp -iota -proj -eta only;refine⟨rfl,ba,fun h0=>⟨fun h1=>(by rw[QO h1];exact⟨rfl,by decide,rfl,rfl⟩),fun h1=>⟨rfl,ba,fun h2=>iL (fun h3=>(by rw[TK h1 h3];exact⟨rfl,by decide,rfl,rfl⟩)) (fun h3=>⟨(⟨0,b7 _,⟨rfl,by rw[CN],ba⟩,⟨rfl,by rw[CN],rfl,ba⟩,(by trivial)⟩),fun F q_0=>iL (fun h4=>⟨fun h5=>⟨fun h6=>(ct (h1.symm.trans h5)),fun h6=>absurd (show true=false from h6) (by decide)⟩,fun h5=>⟨fun h6=>absurd (show false=true from h6) (by decide),fun h6 h7=>iE (fun h8=>⟨fun h9=>(by exfalso;omega),fun h9=>absurd (show true=false from h9) (by decide)⟩) (fun h8=>⟨?a,?b,⟨fun h9=>absurd (show false=true from h9) (by decide),fun h9=>⟨?c,?d,?e,fun G q_1=>⟨?f,fun I q_2=>⟨?g,iQ (fun h10=>iL (fun h11=>iE (fun h12 h13 h14=>⟨?h,?i⟩) (fun h12 h13 h14=>⟨?j,?k⟩)) (fun h11 h12 h13=>⟨?l,?m⟩)) (fun h10 h11 h12=>⟨?n,?o⟩)⟩⟩⟩⟩⟩)⟩⟩) (fun h4=>iQ (fun h5 =>?p) (fun h5=>⟨(⟨0,b7 _,⟨rfl,by rw[GG],ba⟩,(by trivial)⟩),fun G q_1=>iL (fun h6=>⟨(by trivial),fun I q_2 K q_3 h7 h8=>⟨?q,fun h9 h10=>⟨?r,fun h11 h12=>⟨?s,⟨fun h13=>⟨fun h14=>(ct (h1.symm.trans h13)),fun h14=>absurd (show true=false from h14) (by decide)⟩,fun h13=>iL (fun h14=>⟨fun h15 =>?t,fun h15=>absurd (show true=false from h15) (by decide)⟩) (fun h14 h15=>iE (fun h16=>⟨fun h17 =>?u,fun h17=>absurd (show true=false from h17) (by decide)⟩) (fun h16=>⟨?v,?w,⟨fun h17=>absurd (show false=true from h17) (by decide),fun h17=>⟨?x,fun h18 h19=>⟨?y,?z⟩⟩⟩⟩))⟩⟩⟩⟩⟩) (fun h6=>⟨?a0,?a1,fun h7=>⟨?a2,fun I q_2=>iL (fun h8=>⟨?a3,iQ (fun h9 h10 h11=>⟨?a4,?a5⟩) (fun h9=>⟨?a6,iB (fun h10 =>?a7) (fun h10=>⟨?a8,fun h11 h12=>⟨?a9,?aa⟩⟩)⟩)⟩) (fun h8 =>?ab)⟩⟩)⟩))⟩)⟩⟩⟩
 case a|b|a3=>omega
 case c|d|g=>
  have h64:(nth .str d.2.2.1 F).length=64:=hp.2 _ (by omega);rw[h64];decide
 case e|f=>
  have h64:(nth .str d.2.2.1 F).length=64:=hp.2 _ (by omega);rw[dw,b5,h64];decide
 case h|j|l|n|y|a4|a9=>simp only[aJ,aM]at*;omega
 case i=>
  have e1:G=pT d F:=q_1.trans (o6 d F).symm;have e2:I=qT d F:=q_2.trans (rP d F).symm;subst e1;subst e2;exact⟨F+1,by omega,by omega,⟨by omega,by rw[uD h10 (by omega) h12],ba⟩,⟨rfl,by rw[uD h10 (by omega) h12],rfl,ba⟩,(by trivial)⟩
 case k=>
  have e1:G=pT d F:=q_1.trans (o6 d F).symm;have e2:I=qT d F:=q_2.trans (rP d F).symm;subst e1;subst e2;have hn:eN d (F+1)=eN d F:=yI fun z=>by have:=z.2.2;omega
  exact⟨F+1,by omega,by omega,⟨by omega,by rw[hn],ba⟩,⟨rfl,by rw[hn],rfl,ba⟩,(by trivial)⟩
 case m=>
  have e1:G=pT d F:=q_1.trans (o6 d F).symm;have e2:I=qT d F:=q_2.trans (rP d F).symm;subst e1;subst e2;have hn:eN d (F+1)=eN d F:=yI fun z=>by have:=z.2.1;omega
  exact⟨F+1,by omega,by omega,⟨by omega,by rw[hn],ba⟩,⟨rfl,by rw[hn],rfl,ba⟩,(by trivial)⟩
 case o=>
  have hn:eN d (F+1)=eN d F:=yI fun z=>h10 z.1
  exact⟨F+1,by omega,by omega,⟨by omega,by rw[hn],ba⟩,⟨rfl,by rw[hn],rfl,ba⟩,(by trivial)⟩
 case p=>
  have hx0:F=2:=by omega
  subst hx0;rw[QP h1 (by omega) h5];exact⟨rfl,by decide,rfl,rfl⟩
 case q|r|s=>have hr:=gP d F;have ht:=tg hr.1.1;simp only[aJ]at*;omega
 case t|u=>exfalso;have hr:=gP d F;have ht:=tg hr.1.1;omega
 case v|w=>have hr:=gP d F;have ht:=tg hr.1.1;omega
 case x=>
  have hx0:F=2:=(by omega);subst hx0;have hr:=gP d 2;have ht:=tg hr.1.1;have hb:kW d=2+K:=(by rw[kG,q_3,q_2]);have h64:(nth .str d.2.2.1 (bf (2+K+(G:Int)))).length=64:=hp.2 _ (by omega);have hl:=kH hp.2 (b:=kW d) (by omega) G (by omega);rw[h64,hl];have:aM=9223372036854775807:=rfl;omega
 case z=>
  have hx0:F=2:=(by omega);subst hx0;have hr:=gP d 2;have ht:=tg hr.1.1;have hb:kW d=2+K:=(by rw[kG,q_3,q_2]);exact⟨G+1,by omega,by omega,⟨by omega,by rw[CO,hb];rfl,ba⟩,(by trivial)⟩
 case a0=>
  have hx0:F=2:=(by omega);subst hx0;have hx1:G=55:=(by omega);subst hx1;have hr:=gP d 2;have ht:=tg hr.1.1;have hbb:=kG d;have hll:(iZ d (kW d) 55).length=64*55:=kH hp.2 (by omega) 55 (by omega);have hLL:dS 10 (bj 0 (bd (bf (eN d 2).2) (iZ d (kW d) 55)))=dP d:=(by rw[gQ];rfl);rw[hll];exact⟨by decide,hr.2.1,by omega⟩
 case a1=>
  have hx0:F=2:=(by omega);subst hx0;have hx1:G=55:=(by omega);subst hx1;have hr:=gP d 2;have ht:=tg hr.1.1;have hbb:=kG d;have hll:(iZ d (kW d) 55).length=64*55:=kH hp.2 (by omega) 55 (by omega);have hLL:dS 10 (bj 0 (bd (bf (eN d 2).2) (iZ d (kW d) 55)))=dP d:=(by rw[gQ];rfl);refine⟨?_,rfl⟩;rw[c6,b5,hll];omega
 case a2=>
  have hx0:F=2:=(by omega);subst hx0;have hx1:G=55:=(by omega);subst hx1;have hr:=gP d 2;have ht:=tg hr.1.1;have hbb:=kG d;have hll:(iZ d (kW d) 55).length=64*55:=kH hp.2 (by omega) 55 (by omega);have hLL:dS 10 (bj 0 (bd (bf (eN d 2).2) (iZ d (kW d) 55)))=dP d:=(by rw[gQ];rfl);exact⟨0,⟨b7 _,fun j hj=>absurd hj (cu _)⟩,⟨rfl,ba⟩,⟨rfl,rfl,by rw[er,QT],ba⟩,by rw[er,QT],ba⟩
 case a5=>
  have hx0:F=2:=(by omega);subst hx0;have hx1:G=55:=(by omega);subst hx1;have hr:=gP d 2;have ht:=tg hr.1.1;have hbb:=kG d;have hll:(iZ d (kW d) 55).length=64*55:=kH hp.2 (by omega) 55 (by omega);have hLL:dS 10 (bj 0 (bd (bf (eN d 2).2) (iZ d (kW d) 55)))=dP d:=(by rw[gQ];rfl)
  (try rw[hLL]at h8);(try rw[hLL]at h9);(try rw[hLL]at h10);(try rw[hLL])
  have e:=QQ (L:=dP d) (i:=I) (by omega) h9;exact⟨I+1,⟨by omega,lY q_2.2 (.inl h9)⟩,by omega,⟨by omega,ba⟩,⟨rfl,rfl,e.symm,ba⟩,e.symm,(by trivial)⟩
 case a6=>
  have hx0:F=2:=(by omega);subst hx0;have hx1:G=55:=(by omega);subst hx1;have hr:=gP d 2;have ht:=tg hr.1.1;have hbb:=kG d;have hll:(iZ d (kW d) 55).length=64*55:=kH hp.2 (by omega) 55 (by omega);have hLL:dS 10 (bj 0 (bd (bf (eN d 2).2) (iZ d (kW d) 55)))=dP d:=(by rw[gQ];rfl)
  (try rw[hLL]at h8);(try rw[hLL]at h9);(try rw[hLL]at h10);(try rw[hLL])
  have hm:nth .str (dP d) I∈dP d:=dN (t:=.str) (by omega);have hm2:nth .str (dP d) I∈dS 10 (bd (eN d 2).2.toNat (iZ d (kW d) 55)):=by rw[<-gQ];exact hm
  refine b4 (Fp 10 _ _ hm2) ?_;rw[b5,hll];omega
 case a7=>
  have hx0:F=2:=(by omega);subst hx0;have hx1:G=55:=(by omega);subst hx1;have hr:=gP d 2;have ht:=tg hr.1.1;have hbb:=kG d;have hll:(iZ d (kW d) 55).length=64*55:=kH hp.2 (by omega) 55 (by omega);have hLL:dS 10 (bj 0 (bd (bf (eN d 2).2) (iZ d (kW d) 55)))=dP d:=(by rw[gQ];rfl)
  (try rw[hLL]at h8);(try rw[hLL]at h9);(try rw[hLL]at h10);(try rw[hLL])
  rw[TL h1 (by omega) h5 ⟨I,by omega,h9,h10⟩];exact⟨rfl,by decide,rfl,rfl⟩
 case a8=>
  have hx0:F=2:=(by omega);subst hx0;have hx1:G=55:=(by omega);subst hx1;have hr:=gP d 2;have ht:=tg hr.1.1;have hbb:=kG d;have hll:(iZ d (kW d) 55).length=64*55:=kH hp.2 (by omega) 55 (by omega);have hLL:dS 10 (bj 0 (bd (bf (eN d 2).2) (iZ d (kW d) 55)))=dP d:=(by rw[gQ];rfl);refine⟨rfl,?_⟩;have h1:=TM (bd I (dP d));have h2:=N0 10 (bd (eN d 2).2.toNat (iZ d (kW d) 55));rw[<-gQ,b5,hll]at h2;rw[b5]at h1;rw[bw];omega
 case aa=>
  have hx0:F=2:=(by omega);subst hx0;have hx1:G=55:=(by omega);subst hx1;have hr:=gP d 2;have ht:=tg hr.1.1;have hbb:=kG d;have hll:(iZ d (kW d) 55).length=64*55:=kH hp.2 (by omega) 55 (by omega);have hLL:dS 10 (bj 0 (bd (bf (eN d 2).2) (iZ d (kW d) 55)))=dP d:=(by rw[gQ];rfl)
  (try rw[hLL]at h8);(try rw[hLL]at h9);(try rw[hLL]at h10);(try rw[hLL])
  have e:=QS (L:=dP d) (i:=I) (by omega) h9;exact⟨I+1,⟨by omega,lY q_2.2 (.inr h10)⟩,by omega,⟨by omega,ba⟩,⟨rfl,rfl,e.symm,ba⟩,e.symm,(by trivial)⟩
 case ab=>
  have hx0:F=2:=(by omega);subst hx0;have hx1:G=55:=(by omega);subst hx1;have hr:=gP d 2;have ht:=tg hr.1.1;have hbb:=kG d;have hll:(iZ d (kW d) 55).length=64*55:=kH hp.2 (by omega) 55 (by omega);have hLL:dS 10 (bj 0 (bd (bf (eN d 2).2) (iZ d (kW d) 55)))=dP d:=(by rw[gQ];rfl)
  (try rw[hLL]at h8);(try rw[hLL]at h9);(try rw[hLL]at h10);(try rw[hLL])
  rw[LO h1 (by omega) h5 (VM (i:=I) (by omega) q_2.2),c8 (by omega)];exact⟨rfl,rfl,rfl,rfl⟩
def Tryz.L5:bX Tryz.prog Tryz.B.eT Tryz.X 39 false (aX Tryz.bB [.obj 0] (fun _ x=>dD x 1000000/\∀i,i<x.2.2.1.length->(nth .str x.2.2.1 i).length=64) Tryz.Br):=
 bH (X:=Tryz.X) Tryz.RD Tryz.func39 (by kernel_rfl) (fun(a:CD [.obj 0]) (x:PD Tryz.bB)=>Tryz.L4 x) (fun(a:CD [.obj 0]) (x:PD Tryz.bB) hw hp=>Wd x hw hp)
end Go.Proofs.YtgokjhhcfemnhadGreatDoor

namespace Go.Proofs.YtgokjhhcfemnhadGreatDoor
open Go.Vg Go.Shelf Go.RowKit
def C3{P:Program}(w:World)(t e ty:TypeId)(z:Value)(ht:P.underlying t=some (.slice e))(hv:∀w,(zeroValue e).run P w=.ok z w)(h1:∀u∈z.cells,u.oneCell'=true)(b o n c:Nat)(hn:0<n)
  (hc:∀j,j<n*z.cells.size->(w.cell? ⟨b,o+j,none⟩).isSome=true)(hf:∀j,j<n*z.cells.size->w.frozen? ⟨b,o+j,none⟩=false) :
  (dx #[t] ty #[.slice (some ⟨b,o,none⟩) n c]).run P w=.ok (.tuple #[]) (w.setCells b o (cm z.cells n).toList):=by
 have hl:(cm z.cells n).toList.length=n*z.cells.size:=by rw[df,size_zeroCells]
 have hst:=run_storeCells_cells (P:=P) b o (cm z.cells n).toList 0 w (by simpa[hl]using hc) (by simpa[hl]using hf) (by
  intro v hv';simp[cm]at hv';obtain⟨k,hk,rfl⟩:=hv';by_cases h:k % z.cells.size<z.cells.size
  ·rw[getElem!_pos z.cells _ h];exact h1 _ (Array.getElem_mem h)
  ·have:z.cells.size=0:=by
    by_cases h0:z.cells.size=0
    ·exact h0
    ·exact absurd (Nat.mod_lt _ (by omega)) h
   rw[this]at hk;omega)
 simp only[dp]at hst;obtain⟨m,rfl⟩:∃m,n=m+1:=⟨n-1,by omega⟩
 simp[dx,run_underlying ht,hv,hst]
def j9(b:Nat):∀(vs:List Value) (o:Nat) (w:World),(w.setCells b o vs).heap.size=w.heap.size
 |[],_,_=>rfl
 |v :: r,o,w=>(j9 b r (o+1) _).trans (ds _ _ _)
def wk{b:Nat}{T:TypeId}:∀(news:List Value) (o:Nat) (w:World) (vs:Array Value),w.heap[b]?=some (.cells vs T (0,0))->o+news.length<=vs.size->
  ∃vs',(w.setCells b o news).heap[b]?=some (.cells vs' T (0,0))/\vs'.size=vs.size/\∀k,vs'[k]?=if k<o then vs[k]? else if k<o+news.length then news[k-o]? else vs[k]?:=by
 intro news;induction news with
 |nil=>intro o w vs hb _;exact⟨vs,hb,rfl,fun k=>by simp only[b3];split <;> (try rfl);rw[if_neg (by omega)]⟩
 |cons x r ih=>
  intro o w vs hb hle;simp only[bx]at hle;obtain⟨vs',h1,h2,h3⟩:=ih (o+1) (w.setCell ⟨b,o,none⟩ x) _ (SS hb) (by simp;omega);refine⟨vs',h1,by simpa using h2,fun k =>?_⟩;rw[h3,bx];by_cases c1:k<o
  ·rw[if_pos (by omega),if_pos c1,Array.getElem?_setIfInBounds_ne (by omega)]
  ·by_cases c2:k=o
   ·subst c2
    rw[if_pos (by omega),if_neg c1,if_pos (by omega),Array.getElem?_setIfInBounds_self_of_lt (by omega)];simp
   ·rw[if_neg (by omega),if_neg c1]
    by_cases c3:k<o+1+r.length
    ·rw[if_pos c3,if_pos (by omega),show k-o=(k-(o+1))+1 by omega,List.getElem?_cons_succ]
    ·rw[if_neg c3,if_neg (by omega),Array.getElem?_setIfInBounds_ne (by omega)]
set_option maxHeartbeats 4000000 in
set_option maxRecDepth 1000000 in
def Tryz.Xd:QU Tryz.prog 56 3:=by
 intro b i j n cap vs T w hb hsz hij hj hcap hbig h1;obtain⟨te,ti,td,hu,hf⟩:=ie (t:=114) (e:=aC) Tryz.bQ (by kernel_rfl);obtain⟨z,hz,hzr⟩:=hf.zero;have hu':=hu;rw[Tryz.underlying114]at hu';cases hu';obtain⟨news,hnews⟩:∃news,news=(vs.toList.drop (j*3)).take ((n-j)*3):=⟨_,rfl⟩
 have hle:n*3<=vs.size:=by omega
 have hlen:news.length=(n-j)*3:=by rw[hnews,b5,dw,df];omega
 have hget:∀(t:Nat) u,news[t]?=some u->vs[j*3+t]?=some u:=by
  intro t u ht;rw[hnews,List.getElem?_take]at ht;split at ht
  ·rw[List.getElem?_drop,Array.getElem?_toList]at ht;exact ht
  ·cases ht
 obtain⟨A,hA,hsrc⟩:∃A:Addr,(if cap=j then some (⟨b,0,none⟩:Addr)else some ⟨b,j*3,none⟩)=some A/\Hid (∀(t:Nat) u,news[t]?=some u->w.drew.cell? (A.add t)=some u):=by
  by_cases h:cap=j
  ·refine⟨⟨b,0,none⟩,by simp[h],fun t u hu =>?_⟩
   have h0:news.length=0:=by rw[hlen];omega
   rw[dk.1 h0]at hu;simp at hu
  ·refine⟨⟨b,j*3,none⟩,by simp[h],fun t u hu =>?_⟩
   rw[Addr.add_lit,cell_of_row w.drew b _ vs T (0,0) hb];exact hget t u hu
 have mixed:Tryz.prog.follows .mixedOrders=true:=by kernel_rfl
 have hs3:ti.size=3:=hf.size;have s1:Hid (news.length=(n-j)*3):=hlen;have s2:Hid (∀u∈news,u.oneCell'=true):=by
  intro u hu;obtain⟨t,ht⟩:=List.getElem?_of_mem hu;have:=bG ht;exact h1 (j*3+t) u (by omega) (hget t u ht)
 have s3:Hid (∀t,t<news.length->(w.drew.cell? ⟨b,0+i*3+t,none⟩).isSome=true/\w.drew.frozen? ⟨b,0+i*3+t,none⟩=false):=by
  intro t ht;rw[hlen]at ht;refine⟨?_,de (w:=w.drew) hb _⟩;rw[cell_of_row w.drew b _ vs T (0,0) hb,Array.getElem?_eq_getElem (by omega)];rfl
 obtain⟨W1,hW1⟩:∃W1,W1=w.drew.setCells b (0+i*3) news:=⟨_,rfl⟩
 have hW:Hid (W1=w.drew.setCells b (0+i*3) news):=hW1;have hic:i<=cap:=by omega
 have hjc:j<=cap:=by omega
 have hne:¬((i:Int)=(j:Int)):=by omega
 have hzv:∀w,(zeroValue 53).run Tryz.prog w=.ok z w:=fun w=>by simp[zeroValue,typeInfo,hf.info,hz]
 have hz0:=kZ (S:=aA (fun _ _=>False) ⟨[],[],0⟩ (fun _=>⟨.nilIface,[]⟩) w) (cx:=Tryz.B) hzr;have hzs:z.cells.size=3:=by
  rw[<-df];exact hz0.length.symm.trans (iY aC)
 obtain⟨vs1,v1,v2,v3⟩:=wk (b:=b) (T:=T) news (0+i*3) w.drew vs hb (by omega);rw[<-hW1]at v1;have fV:=C3 (P:=Tryz.prog) W1 114 53 0 z Tryz.underlying114 hzv (fun u hu=>(BK (eT:=Tryz.B.eT) (A:=fun _ _=>False) (w:=w) hzr (by kernel_rfl)).ln u (by simpa using hu)) b ((i+(n-j))*3) (n-(i+(n-j))) (cap-(i+(n-j))) (by omega)
  (fun t ht=>by rw[hzs]at ht;rw[cell_of_row W1 b _ vs1 T (0,0) v1,Array.getElem?_eq_getElem (by omega)];rfl) (fun t ht=>de v1 _)
 obtain⟨W2,hW2⟩:∃W2,W2=W1.setCells b ((i+(n-j))*3) (cm z.cells (n-(i+(n-j)))).toList:=⟨_,rfl⟩
 rw[<-hW2]at fV;have hzl:(cm z.cells (n-(i+(n-j)))).toList.length=(n-(i+(n-j)))*3:=by rw[df,size_zeroCells,hzs]
 obtain⟨vs2,u1,u2,u3⟩:=wk (b:=b) (T:=T) (cm z.cells (n-(i+(n-j)))).toList ((i+(n-j))*3) W1 vs1 v1 (by omega);rw[<-hW2]at u1;have hfin:Hid (W2.os=w.os/\W2.output=w.output/\W2.heap.size=w.heap.size/\(∀k,k≠b->W2.heap[k]?=w.heap[k]?)/\
       ∃vs',W2.heap[b]?=some (Obj.cells vs' T (0,0))/\vs'.size=vs.size/\∀k,k<(i+(n-j))*3->vs'[k]?=vs[if k<i*3 then k else k+(j-i)*3]?):=by
  refine⟨by rw[hW2,hW1,eu,eu];rfl,by rw[hW2,hW1,ew,ew];rfl,by rw[hW2,hW1,j9,j9];rfl,fun k hk =>?_,vs2,u1,by omega,fun k hk =>?_⟩
  ·by_cases hlt:k<w.heap.size
   ·rw[hW2,ey _ _ _ _ (by rw[hW1,j9];exact hlt) hk,hW1,ey w.drew _ _ _ (show k<w.drew.heap.size from hlt) hk];rfl
   ·rw[Array.getElem?_eq_none (by rw[hW2,hW1,j9,j9];show w.heap.size<=k;omega),Array.getElem?_eq_none (by omega)]
  ·rw[u3,if_pos hk,v3]
   by_cases c:k<i*3
   ·rw[if_pos (by omega),if_pos c]
   ·rw[if_neg (by omega),if_pos (by omega),if_neg c,hnews,List.getElem?_take,if_pos (by omega),List.getElem?_drop,Array.getElem?_toList]
    congr 1;omega
 have fV:Hid ((dx #[114] 0 #[.slice (some ⟨b,(i+(n-j))*3,none⟩) (n-(i+(n-j))) (cap-(i+(n-j)))]).run Tryz.prog W1=.ok (.tuple #[]) W2):=fV;have fV:=fV.out;clear hW1 hget hnews hlen h1 hW2 u1 u2 u3 v1 v2 v3 hzl
 go_enter Tryz.func56,Tryz.ntmps56
 go_wp2_with fail
 go_region_law_o (refine step_append_room rfl (.tmp 22) (.tmp 25) 114 rfl 53 ti 3 Tryz.underlying114 hf.info hs3 b 0 i cap (by simp[Act.eval,Act.put]) A (n-j) (cap-j) news (by simp[Act.eval,Act.put,hA]) s1.out hsrc.out s2.out (by omega) s3.out ?_;rw[<-hW.out])
 go_wp2
 go_ret
 exact⟨rfl,hfin.out⟩
end Go.Proofs.YtgokjhhcfemnhadGreatDoor

namespace Go.Proofs.YtgokjhhcfemnhadGreatDoor
open Go.Vg Go.Mrl
def Tryz.XA:∃fn,Tryz.prog.funcs[56]?=some fn/\fn.body.isNone=false/\(fn.name == "runtime.NumGoroutine")=false:=⟨_,Tryz.func56,by kernel_rfl,by kernel_rfl⟩
def Tryz.L6:List (FuncId×(Bool×aT)):=[(47,Tryz.spZ10),(56,(false,DO aC)),(48,Tryz.spZ11),(50,Tryz.spZ13)]
def Tryz.RE:bP Tryz.prog Tryz.B Tryz.X Tryz.L6:=
 aO (eV (bR Tryz.bQ) Tryz.func47 (by kernel_rfl) []) (aO (N1 Tryz.XA Tryz.Xd) (aO (Tryz.DU) (aO (Tryz.L1) (bR Tryz.bQ))))
def We{x:Sh}{s:aD}(h:¬0<=eJ x.1.2.1 s):gC x s=(x,5):=by unfold gC;rw[if_neg h]
def Uj{x:Sh}{s:aD}(h:0<=eJ x.1.2.1 s):gC x s=pN x (x.1.2.1.take (eJ x.1.2.1 s).toNat++x.1.2.1.drop (eJ x.1.2.1 s+1).toNat):=by
 unfold gC;rw[if_pos h,List.eraseIdx_eq_take_drop_succ,show(eJ x.1.2.1 s+1).toNat=(eJ x.1.2.1 s).toNat+1 by omega]
def Tryz.Bs:List (Alt Tryz.cH [.obj 0,.d .str]):=[{bO:=Tryz.cH,res:=[.d .err],out:=fun a x=>(gC x a.1).1,ret:=fun a x=>(aI (gC x a.1).2,())}]
def Wf(s:List UInt8)(r:Int)(o:List (D aC))(d:Dk)(hw:hU [.obj 0,.d .str] (s,()))(hp:(fun _ x=>x.1.2.1.length<=100/\0<=(x.1.1:Int)/\(x.1.1:Int)<=1000000000/\dD x.2 1000000) (s,()) ((r,o,()),d)):(dA Tryz.B Tryz.L6 Tryz.f38 [] Tryz.cH [.obj 0,.d .str] Tryz.Bs (s,()) ((r,o,()),d)).holds:=by
 refine holds_of (p:=
  let za:=d.2.2.2.1=d.2.2.2.1
  let zb:=eJ o s
  let zc:=((r,o,()),d)
  let zd:=(gC zc s).1
  let ze:=(aI (gC zc s).2,())
  let zf:=bb o
  let zg:=zb+1
  let zh:=bd (bf zb) o++bj (bf zg) o
  let zi:=cR d r zh
  let zj:=zi.1.2.2.2.1
  za/\True/\(True->((decide (zb<0))=true->za/\True/\zc=zd/\(aK.no 5,())=ze)/\((decide (zb<0))=false->∀F:Bool,(0<zf->F=false)->(F=true->aJ zb->aJ 1->aJ zg/\False)/\(F=false->zf<=1000000000/\(aJ zb->aJ 1->aJ zg/\(0<=zb/\zb<zg/\zg<=(↑zf:Int))/\za/\(bb zh<=100/\0<=r/\r<=1000000000/\dD d 1000000)/\(True->zj=zj/\True/\(if zi.2=0 then(r+1,zh,())else(r,o,()),zi.1)=zd/\(aI zi.2,())=ze)))))) (by kernel_rfl) ?_
 dsimp -iota -proj -eta only;dsimp only at hp;exact⟨rfl,ba,fun h0=>iL (fun h1=>(by rw[We (x:=((r,o,()),d)) (show ¬0<=eJ o s by omega)];exact⟨rfl,ba,rfl,rfl⟩)) (fun h1 F q_0=>⟨fun h2 h3 h4=>⟨(by exfalso;have:=xS q_0 h2;subst this;exact o5 s (by omega)),(by have:=xS q_0 h2;subst this;exact o5 s (by omega))⟩,fun h2=>⟨(by omega),fun h3 h4=>⟨(by have:=qg o s;have hh:o.length<=100:=hp.1;unfold aJ;omega),(by have:=qg o s;exact⟨by omega,by omega,by omega⟩),rfl,(by have hh:o.length<=100:=hp.1;refine⟨?_,hp.2⟩;rw[bt,b5,dw];omega),fun h5=>(by rw[Uj (x:=((r,o,()),d)) (show 0<=eJ o s by omega)];exact⟨rfl,ba,rfl,rfl⟩)⟩⟩⟩)⟩
def Tryz.Wg:bX Tryz.prog Tryz.B.eT Tryz.X 38 false (aX Tryz.cH [.obj 0,.d .str] (fun _ x=>x.1.2.1.length<=100/\0<=(x.1.1:Int)/\(x.1.1:Int)<=1000000000/\dD x.2 1000000) Tryz.Bs):=
 bH (X:=Tryz.X) Tryz.RE Tryz.func38 (by kernel_rfl) (fun(a:CD [.obj 0,.d .str]) (x:PD Tryz.cH)=>[]) (fun(a:CD [.obj 0,.d .str]) (x:PD Tryz.cH) hw hp=>Wf a.1 x.1.1 x.1.2.1 x.2 hw hp)
def Tryz.spZ20:Bool×aT:=(false,aX Tryz.bB [.obj 0,.d (.int .i64)] (fun _ _=>True) Tryz.Bl)
def Tryz.spZ21:Bool×aT:=(false,aX Tryz.bB [.obj 0,.d (.int .i64)] (fun _ _=>True) Tryz.DT)
def Tryz.spZ22:Bool×aT:=(false,aX Tryz.bB [.obj 0,.d (.int .u64)] (fun _ x=>x.2.1.length=x.2.2.1.length/\∀i,i<x.2.2.2.1.length->0<=((nth fG x.2.2.2.1 i).1:Int)/\((nth fG x.2.2.2.1 i).1:Int)<x.2.2.1.length) Tryz.ou)
def Tryz.spZ23:Bool×aT:=(false,aX [] [.d (.int .i64)] (fun _ _=>True) Tryz.Bo)
def Tryz.spZ24:Bool×aT:=(false,aX Tryz.bB [.obj 0] (fun _ x=>dD x 1000000/\∀i,i<x.2.2.1.length->(nth .str x.2.2.1 i).length=64) Tryz.Br)
def Tryz.C4:List (FuncId×(Bool×aT)):=[(45,Tryz.spZ0),(17,Tryz.spZ1),(70,Tryz.spZ8),(58,Tryz.spZ20),(71,Tryz.spZ9),(18,Tryz.spZ21),(19,Tryz.spZ19),(57,Tryz.spZ18),(20,Tryz.spZ22),(43,Tryz.spZ23),(39,Tryz.spZ24),(44,(false,aX Tryz.bB [.obj 0] (fun _ x=>dD x 1000000) Tryz.vV))]
def Tryz.Jn:bP Tryz.prog Tryz.B Tryz.X Tryz.C4:=
 aO (aE Tryz.jt) (aO (aE Tryz.iw) (aO (Tryz.tl) (aO (Tryz.Jh) (aO (Tryz.tm) (aO (Tryz.LX) (aO (Tryz.Bn) (aO (Tryz.qB) (aO (Tryz.tP) (aO (Tryz.LY) (aO (Tryz.L5) (aO (Tryz.RC) (bR Tryz.bQ))))))))))))
def Tryz.tQ:List (Alt [] []):=[{bO:=Tryz.cH,res:=[.obj 1,.obj 0,.d .bool],out:=fun _ _=>gv,ret:=fun _ _=>(true,())}]
def Om  (hw:hU [] ()):(dA Tryz.B Tryz.C4 Tryz.f25 [] [] [] Tryz.tQ () ()).holds:=by
 refine holds_of (p:=
  let za:=ch 112 (cV (@bc UInt8))
  let zb:=(((-1:Int),false,()),za,za,[],())
  let zc:=(iX zb).1
  let zd:=zc.2.2.2.1=zc.2.2.2.1
  let ze:=(cP zc).2
  let zf:=(((cP zc).1.1,(cP zc).1.2,()),zc)=gv
  let zg:=(true,())
  True/\(((112:Int)<(1:Int)\/(120:Int)<(112:Int))->((!aK.isNil (aK.no (1:Int)))=true->False)/\((!aK.isNil (aK.no (1:Int)))=false->False))/\((1:Int)<=(112:Int)/\(112:Int)<=(120:Int)->((!aK.isNil aK.nil)=true->False)/\((!aK.isNil aK.nil)=false->(@bc (Int×List UInt8×Unit)=@bc (Int×List UInt8×Unit))/\dD zb 1000000/\(True->((!aK.isNil (aI (iX zb).2))=true->False)/\((!aK.isNil (aI (iX zb).2))=false->zd/\(dD zc 1000000/\∀(i:Nat),i<bb zc.2.2.1->bb (nth Ty.str zc.2.2.1 i)=64)/\(ze≠(0:Int)->((aK.isNil (aI ze))=true->False)/\((aK.isNil (aI ze))=false->False))/\(ze=(0:Int)->((aK.isNil aK.nil)=true->zd/\True/\zf/\zg=zg)/\((aK.isNil aK.nil)=false->zd/\True/\zf/\(false,())=zg))))))) (by kernel_rfl) ?_
 dsimp -iota -proj -eta only;refine⟨ba,⟨fun h0=>⟨fun h1=>(by trivial),fun h1=>absurd (show true=false from h1) (by decide)⟩,fun h0=>⟨fun h1=>absurd (show false=true from h1) (by decide),fun h1=>⟨rfl,⟨dh _,b7 _,rfl⟩,fun h2=>iB (fun h3=>(eG h3 ((qX (ss (dh _)))).1)) (fun h3=>⟨rfl,⟨((qX (ss (dh _)))).2.yK,((qX (ss (dh _)))).2.eP.sec⟩,⟨fun h4=>⟨fun h5 =>?a,fun h5 =>?b⟩,fun h4=>⟨fun h5=>⟨rfl,ba,Prod.ext jH.again rfl,rfl⟩,fun h5=>absurd (show true=false from h5) (by decide)⟩⟩⟩)⟩⟩⟩⟩
 case a|b=>exact h4 jH.yJ
def Tryz.On:bX Tryz.prog Tryz.B.eT Tryz.X 25 false (aX [] [] (fun _ _=>True) Tryz.tQ):=
 bH (X:=Tryz.X) Tryz.Jn Tryz.func25 (by kernel_rfl) (fun(a:CD []) (x:PD [])=>[]) (fun(a:CD []) (x:PD []) hw hp=>Om  hw)
@[reducible] def Tryz.aU:List Ob:=[.box 93 [.obj 1,.d (.int .i64)],.ext 1 (jb cK)]
def Tryz.Jo:List (FuncId×(Bool×aT)):=[(45,Tryz.spZ0),(17,Tryz.spZ1)]
def Tryz.Oo:bP Tryz.prog Tryz.B Tryz.X Tryz.Jo:=
 aO (aE Tryz.jt) (aO (aE Tryz.iw) (bR Tryz.bQ))
def Tryz.DZ:List (Alt [] []):=[{bO:=Tryz.aU,res:=[.obj 0],out:=fun _ _=>qz,ret:=fun _ _=>()}]
def Wh  (hw:hU [] ()):(dA Tryz.B [] Tryz.f26 [] [] [] Tryz.DZ () ()).holds:=by
 refine holds_of (p:=
  True/\((0,()),([],0,()),())=qz/\()=()) (by kernel_rfl) ?_
 exact⟨ba,rfl,rfl⟩
def Tryz.L7:bX Tryz.prog Tryz.B.eT Tryz.X 26 false (aX [] [] (fun _ _=>True) Tryz.DZ):=
 bH (X:=Tryz.X) (bR Tryz.bQ) Tryz.func26 (by kernel_rfl) (fun(a:CD []) (x:PD [])=>[]) (fun(a:CD []) (x:PD []) hw hp=>Wh  hw)
def Tryz.x5:List (Alt Tryz.aU [.obj 0,.d .str]):=[{bO:=Tryz.aU,res:=[.d .str,.d (.int .i64),.d .err],out:=fun _ x=>x,ret:=fun a x=>((aL x a.1).1,(aL x a.1).2.1,aI (aL x a.1).2.2,())}]
def Uk(s:List UInt8)(f:cG)(hw:hU [.obj 0,.d .str] (s,())):(dA Tryz.B [] Tryz.f13 [] Tryz.aU [.obj 0,.d .str] Tryz.x5 (s,()) f).holds:=by
 refine holds_of (p:=
  let za:=Ty.prod Ty.str (Ty.prod (Ty.int bm) Ty.unit)
  let zb:=(aL f s).2
  let zc:=((aL f s).1,zb.1,aI zb.2,())
  let zd:=jc za f.2.1.1 s
  ((!cZ za f.2.1.1 s)=true->True/\f=f/\([],0,aK.no 5,())=zc)/\((!cZ za f.2.1.1 s)=false->True/\f=f/\(zd.1,zd.2.1,aK.nil,())=zc)) (by kernel_rfl) ?_
 dsimp -iota -proj -eta only;exact iB (fun h0=>(by exact⟨ba,rfl,by rw[lN h0];rfl⟩)) (fun h0=>(by exact⟨ba,rfl,by rw[pC h0];rfl⟩))
def Tryz.sy:bX Tryz.prog Tryz.B.eT Tryz.X 13 false (aX Tryz.aU [.obj 0,.d .str] (fun _ _=>True) Tryz.x5):=
 bH (X:=Tryz.X) (bR Tryz.bQ) Tryz.func13 (by kernel_rfl) (fun(a:CD [.obj 0,.d .str]) (x:PD Tryz.aU)=>[]) (fun(a:CD [.obj 0,.d .str]) (x:PD Tryz.aU) hw hp=>Uk a.1 x hw)
def Tryz.vW:List (Alt Tryz.aU [.obj 0,.d .str,.d .str]):=[{bO:=Tryz.aU,res:=[.d .err],out:=fun a x=>(cL x a.1 a.2.1).1,ret:=fun a x=>(aI (cL x a.1 a.2.1).2,())}]
def RG(s:List UInt8)(t:List UInt8)(f:cG)(hw:hU [.obj 0,.d .str,.d .str] (s,t,()))(hp:(fun _ x=>x.2.1.1.length<=6/\0<=x.1.1/\x.1.1<=1000000) (s,t,()) f):(dA Tryz.B Tryz.Jo Tryz.f27 [] Tryz.aU [.obj 0,.d .str,.d .str] Tryz.vW (s,t,()) f).holds:=by
 refine holds_of (p:=
  let za:=aI (aP s)
  let zb:=cL f s t
  let zc:=f=zb.1
  let zd:=(aI zb.2,())
  let ze:=Ty.prod Ty.str (Ty.prod (Ty.int bm) Ty.unit)
  let zf:=f.2.1.1
  let zg:=True/\zc/\(aK.no 8,())=zd
  let zh:=f.1.1+1
  let zi:=((f.1.1 == 1000000)=true->zg)/\((f.1.1 == 1000000)=false->aJ f.1.1->aJ 1->aJ zh/\bb zf<aM/\True/\((zh,()),(eZ ze zf s (t,zh,()) f.2.1.2.1,mT ze zf s f.2.1.2.1,()),())=zb.1/\(aK.nil,())=zd)
  True/\((!aK.isNil za)=true->True/\zc/\(za,())=zd)/\((!aK.isNil za)=false->bb t<=aM->((decide ((↑(bb t):Int) > 1200))=true->True/\zc/\(aK.no 2,())=zd)/\((decide ((↑(bb t):Int) > 1200))=false->((!cZ ze zf s)=true->(((↑(bb zf):Int) == 6)=true->zg)/\(((↑(bb zf):Int) == 6)=false->zi))/\((!cZ ze zf s)=false->zi)))) (by kernel_rfl) ?_
 dsimp -iota -proj -eta only;refine⟨ba,iB (fun h0 =>?a) (fun h0 h1=>iL (fun h2=>(by rw[xr (aQ.1 ‹_›) (by omega)];exact⟨ba,rfl,rfl⟩)) (fun h2=>iB (fun h3=>iQ (fun h4 =>?b) (fun h4=>iQ (fun h5 =>?c) (fun h5 h6 h7=>⟨?d,?e,?f⟩))) (fun h3=>iQ (fun h4 =>?g) (fun h4 h5 h6=>⟨?h,?i,?j⟩))))⟩
 case a=>
  have hn:¬aP s=0:=(fun e=>by rw[aQ.2 e]at h0;cases h0);rw[xq hn];exact⟨ba,rfl,rfl⟩
 case b|c|g=>rw[xu (aQ.1 ‹_›) (by omega) (by first|exact .inr (by omega)|exact .inl ⟨by assumption,by omega⟩)];exact⟨ba,rfl,rfl⟩
 case d|e|h|i=>simp only[aJ,aM]at*;omega
 case f|j=>rw[Cj (aQ.1 ‹_›) (by omega) (by rintro(⟨e1,e2⟩|e);(first|omega|exact ct (e1.symm.trans (show cZ cK f.2.1.1 s=true by assumption)));omega)];exact⟨ba,rfl,rfl⟩
def Tryz.FN:bX Tryz.prog Tryz.B.eT Tryz.X 27 false (aX Tryz.aU [.obj 0,.d .str,.d .str] (fun _ x=>x.2.1.1.length<=6/\0<=x.1.1/\x.1.1<=1000000) Tryz.vW):=
 bH (X:=Tryz.X) Tryz.Oo Tryz.func27 (by kernel_rfl) (fun(a:CD [.obj 0,.d .str,.d .str]) (x:PD Tryz.aU)=>[]) (fun(a:CD [.obj 0,.d .str,.d .str]) (x:PD Tryz.aU) hw hp=>RG a.1 a.2.1 x hw hp)
def Tryz.tR:List (Alt Tryz.aU [.obj 0,.d .str]):=[{bO:=Tryz.aU,res:=[.d .err],out:=fun a x=>(fL x a.1).1,ret:=fun a x=>(aI (fL x a.1).2,())}]
def Oq(s:List UInt8)(f:cG)(hw:hU [.obj 0,.d .str] (s,())):(dA Tryz.B [] Tryz.f28 [] Tryz.aU [.obj 0,.d .str] Tryz.tR (s,()) f).holds:=by
 refine holds_of (p:=
  let za:=Ty.prod Ty.str (Ty.prod (Ty.int bm) Ty.unit)
  let zb:=fL f s
  let zc:=(aI zb.2,())
  ((!cZ za f.2.1.1 s)=true->True/\f=zb.1/\(aK.no 5,())=zc)/\((!cZ za f.2.1.1 s)=false->True/\(f.1,(fW za f.2.1.1 s,f.2.1.2),())=zb.1/\(aK.nil,())=zc)) (by kernel_rfl) ?_
 dsimp -iota -proj -eta only;exact iB (fun h0=>(by rw[mz h0];exact⟨ba,rfl,rfl⟩)) (fun h0=>(by rw[lE h0];exact⟨ba,rfl,rfl⟩))
def Tryz.C5:bX Tryz.prog Tryz.B.eT Tryz.X 28 false (aX Tryz.aU [.obj 0,.d .str] (fun _ _=>True) Tryz.tR):=
 bH (X:=Tryz.X) (bR Tryz.bQ) Tryz.func28 (by kernel_rfl) (fun(a:CD [.obj 0,.d .str]) (x:PD Tryz.aU)=>[]) (fun(a:CD [.obj 0,.d .str]) (x:PD Tryz.aU) hw hp=>Oq a.1 x hw)
@[reducible] def Tryz.sA:List Ob:=[.box 4 [.d .bool]]
@[reducible] def Tryz.o7:List Ob:=[.box 84 [.obj 1,.obj 2,.obj 3,.obj 4],.tok .str,.tok (.int .i64),.tok aS,.tok bD,.box 4 [.d .bool]]
def Tryz.vX:List (Alt Tryz.sA [.d .str,.obj 0]):=[{bO:=Tryz.sA,res:=[.d (.int .i64)],out:=fun a x=>((x.1.1 || (cT a.1).isNone,()),()),ret:=fun a _=>((eD a.1).1,())}]
def Tryz.FO:List (FuncId×(Bool×aT)):=[(84,Tryz.spZ2),(103,Tryz.spZ14),(81,Tryz.spZ15),(52,Tryz.spZ16),(51,Tryz.spZ17)]
def Tryz.KS:bP Tryz.prog Tryz.B Tryz.X Tryz.FO:=
 aO (aE Tryz.oU) (aO (aE Tryz.sw) (aO (aE Tryz.nu) (aO (aE Tryz.mv) (aO (aE Tryz.sx) (bR Tryz.bQ)))))
def Ot(s:List UInt8)(b:Bool)(hw:hU [.d .str,.obj 0] (s,()))(hp:(fun a _=>a.1.length<=1000000) (s,()) ((b,()),())):(dA Tryz.B Tryz.FO Tryz.f82 [] Tryz.sA [.d .str,.obj 0] Tryz.vX (s,()) ((b,()),())).holds:=by
 refine holds_of (p:=
  let za:=((b || ck (cT s),()),())
  let zb:=((eD s).1,())
  let zc:=True/\((true,()),())=za/\zb=zb
  bb s<=281474976710656/\(b=true->zc)/\(b=false->((!aK.isNil (eD s).2)=true->zc)/\((!aK.isNil (eD s).2)=false->True/\True/\((!bp (eD s).1 == s,()),())=za/\zb=zb))) (by kernel_rfl) ?_
 dsimp -iota -proj -eta only;dsimp only at hp;exact⟨(by omega),⟨fun h0=>(by simp_all),fun h0=>iB (fun h1=>(by exact⟨ba,by rw[qO,h1];simp,rfl⟩)) (fun h1=>⟨ba,(by exact⟨ba,by rw[qO,h1];cases b <;> simp_all <;> (rw[dy];simp),rfl⟩)⟩)⟩⟩
def Tryz.Ou:bX Tryz.prog Tryz.B.eT Tryz.X 82 false (aX Tryz.sA [.d .str,.obj 0] (fun a _=>a.1.length<=1000000) Tryz.vX):=
 bH (X:=Tryz.X) Tryz.KS Tryz.func82 (by kernel_rfl) (fun(a:CD [.d .str,.obj 0]) (x:PD Tryz.sA)=>[]) (fun(a:CD [.d .str,.obj 0]) (x:PD Tryz.sA) hw hp=>Ot a.1 x.1.1 hw hp)
def Tryz.Bt:List (Alt Tryz.o7 [.obj 0,.d .str,.obj 5]):=[{bO:=Tryz.o7,res:=[],out:=fun a x=>P9 (gJ (Ts x) x.2.2.2.2.2.1.1 a.1),ret:=fun _ _=>()}]
def Tryz.L8:List (FuncId×(Bool×aT)):=[(84,Tryz.spZ2),(103,Tryz.spZ14),(81,Tryz.spZ15),(52,Tryz.spZ16),(51,Tryz.spZ17),(82,(false,aX Tryz.sA [.d .str,.obj 0] (fun a _=>a.1.length<=1000000) Tryz.vX))]
def Tryz.RH:bP Tryz.prog Tryz.B Tryz.X Tryz.L8:=
 aO (aE Tryz.oU) (aO (aE Tryz.sw) (aO (aE Tryz.nu) (aO (aE Tryz.mv) (aO (aE Tryz.sx) (aO (Tryz.Ou) (bR Tryz.bQ))))))
def L9(s:List UInt8)(_:List (List UInt8))(_:List Int)(_:List (D aS))(_:List (D bD))(_:Bool):dX:=[
 (300001,fun st=>{X:=List (List UInt8),inv:=fun w=>w=parts 32 (cb s eA),cB:=fun _=>0,bM:=fun w=>[(7,sD (.slice .str) w)],keep:=[0,2,6]}),
 (300003,fun st=>{X:=Bool,inv:=fun c=>c=true↔(nth .str (cY (.slice .str) st 7) 0=kv/\bb (cY (.slice .str) st 7)=2),cB:=fun _=>0,bM:=fun c=>[(18,sB c)],keep:=[0,2,6,7]}),
 (300005,fun st=>{X:=Bool,inv:=fun c=>c=true↔(nth .str (cY (.slice .str) st 7) 0=jV/\bb (cY (.slice .str) st 7)=2),cB:=fun _=>0,bM:=fun c=>[(40,sB c)],keep:=[0,2,6,7]}),
 (300007,fun st=>{X:=Bool,inv:=fun c=>c=true↔(nth .str (cY (.slice .str) st 7) 0=js/\bb (cY (.slice .str) st 7)=3),cB:=fun _=>0,bM:=fun c=>[(64,sB c)],keep:=[0,2,6,7]}),
 (300009,fun st=>{X:=Bool,inv:=fun c=>c=true↔(nth .str (cY (.slice .str) st 7) 0=mM/\bb (cY (.slice .str) st 7)=3),cB:=fun _=>0,bM:=fun c=>[(93,sB c)],keep:=[0,2,6,7]}),
 (300011,fun st=>{X:=Bool,inv:=fun c=>c=true↔((nth .str (cY (.slice .str) st 7) 0=lF\/nth .str (cY (.slice .str) st 7) 0=lj)/\bb (cY (.slice .str) st 7)=4),cB:=fun _=>0,bM:=fun c=>[(123,sB c)],keep:=[0,2,6,7]})]
def Ul(s:List UInt8)(n:List (List UInt8))(w:List Int)(y:List (D aS))(t:List (D bD))(b:Bool)(hw:hU [.obj 0,.d .str,.obj 5] (s,()))(hp:(fun a x=>a.1.length<=1000000/\x.2.1.length<=1000000/\x.2.2.1.length<=1000000/\x.2.2.2.1.length<=1000000/\x.2.2.2.2.1.length<=1000000) (s,()) ((),n,w,y,t,(b,()),())):(dA Tryz.B Tryz.L8 Tryz.f53 (L9 s n w y t b) Tryz.o7 [.obj 0,.d .str,.obj 5] Tryz.Bt (s,()) ((),n,w,y,t,(b,()),())).holds:=by
 refine holds_of (p:=
  let za:=[(119:UInt8),101,97,107,32]
  let zb:=cb s za
  let zc:=parts (32:UInt8) (cb s eA)
  let zd:=n=n
  let ze:=w=w
  let zf:=y=y
  let zg:=t=t
  let zh:=(zd/\ze/\zf/\zg/\True)/\zd/\ze/\zf/\zg/\(b=b/\True)/\True
  let zi:=fun(F:List (List UInt8))=>(↑(bb F):Int)
  let zj:=fun(F:List (List UInt8))=>(0:Int)<=(0:Int)/\(0:Int)<zi F
  let zk:=fun(F:List (List UInt8))=>nth Ty.str F 0
  let zl:=fun(F:List (List UInt8))=>bb F<=aM
  let zm:=fun(F:List (List UInt8))=>zk F=kv/\bb F=2
  let zn:=fun(F:List (List UInt8))=>(0:Int)<=(1:Int)/\(1:Int)<zi F
  let zo:=fun(F:List (List UInt8))=>nth Ty.str F 1
  let zp:=(w,y,t,(b,()),())
  let zq:=P9 (gJ (Ts ((),n,zp)) b s)
  let zr:=()=()
  let zs:=fun(F:List (List UInt8))=>zk F=jV/\bb F=2
  let zt:=fun(F:List (List UInt8))=>bb (zo F)<=1000000
  let zu:=fun(F:List (List UInt8))=>(eD (zo F)).1
  let zv:=fun(F:List (List UInt8))=>zk F=js/\bb F=3
  let zw:=fun(F:List (List UInt8))=>(0:Int)<=(2:Int)/\(2:Int)<zi F
  let zx:=fun(F:List (List UInt8))=>nth Ty.str F 2
  let zy:=fun(F:List (List UInt8))=>bb (zx F)<=1000000
  let zz:=(cy s za,())
  let zaa:=fun(F:List (List UInt8))=>[(zo F,(eD (zx F)).1,zz)]
  let zab:=fun(F:List (List UInt8))=>zk F=mM/\bb F=3
  let zac:=bb t
  let zad:=fun(F:List (List UInt8))=>[(zu F,(1:Int),(eD (zx F)).1,@bc UInt8,false,())]
  let zae:=fun(F:List (List UInt8))=>((b || ck (cT (zo F)) || ck (cT (zx F)),()),())
  let zaf:=fun(F:List (List UInt8))=>zy F/\(True->(zg/\zac+bb (zad F)<=1000000000)/\zd/\ze/\zf/\t++zad F=t++zad F/\True/\((),n,w,y,t++zad F,zae F)=zq/\zr)
  let zag:=fun(F:List (List UInt8))=>(zk F=lF\/zk F=lj)/\bb F=4
  let zah:=fun(F:List (List UInt8))=>zl F->∃(x':Bool),(x'=true↔zag F)/\((zi F == (4:Int))=x'/\True)/\zh
  let zai:=fun(F:List (List UInt8))=>zk F == [(110:UInt8),101,97,114]
  let zaj:=fun(F:List (List UInt8))=>(0:Int)<=(3:Int)/\(3:Int)<zi F
  let zak:=fun(F:List (List UInt8))=>((eD (zx F)).1,nth Ty.str F 3,zz)
  let zal:=fun(F:List (List UInt8))=>t++[(zu F,(3:Int),zak F)]
  let zam:=fun(F:List (List UInt8))=>zy F/\(True->(zg/\zac+bb [(zu F,(3:Int),zak F)]<=1000000000)/\zd/\ze/\zf/\zal F=zal F/\True/\((),n,w,y,zal F,zae F)=zq/\zr)
  let zan:=fun(F:List (List UInt8))=>t++[(zu F,(2:Int),zak F)]
  let zao:=fun(F:List (List UInt8))=>zy F/\(True->(zg/\zac+bb [(zu F,(2:Int),zak F)]<=1000000000)/\zd/\ze/\zf/\zan F=zan F/\True/\((),n,w,y,zan F,zae F)=zq/\zr)
  True/\((bb zb<4294967281/\bb [(32:UInt8)]=1)/\∃(x':List (List UInt8)),x'=zc/\(parts (32:UInt8) zb=x'/\True)/\zh)/\∀F:List (List UInt8),F=zc->(zj F/\((zk F == [(110:UInt8),101,101,100])=true->zl F->∃(x':Bool),(x'=true↔zm F)/\((zi F == (2:Int))=x'/\True)/\zh)/\((zk F == [(110:UInt8),101,101,100])=false->∃(x':Bool),(x'=true↔zm F)/\(false=x'/\True)/\zh))/\∀G:Bool,(G=true↔zm F)->(G=true->zn F/\(zd/\bb n+bb [zo F]<=1000000000)/\n++[zo F]=n++[zo F]/\ze/\zf/\zg/\True/\((),n++[zo F],zp)=zq/\zr)/\(G=false->(zj F/\((zk F == [(119:UInt8),111,114,100])=true->zl F->∃(x':Bool),(x'=true↔zs F)/\((zi F == (2:Int))=x'/\True)/\zh)/\((zk F == [(119:UInt8),111,114,100])=false->∃(x':Bool),(x'=true↔zs F)/\(false=x'/\True)/\zh))/\∀I:Bool,(I=true↔zs F)->(I=true->zn F/\(fun a0:Prop=>a0/\a0) (zt F/\(True->(ze/\bb w+bb [zu F]<=1000000000)/\zd/\w++[zu F]=w++[zu F]/\zf/\zg/\True/\((),n,w++[zu F],y,t,(b || ck (cT (zo F)),()),())=zq/\zr)))/\(I=false->(zj F/\((zk F == [(115:UInt8),121,109,98,111,108])=true->zl F->∃(x':Bool),(x'=true↔zv F)/\((zi F == (3:Int))=x'/\True)/\zh)/\((zk F == [(115:UInt8),121,109,98,111,108])=false->∃(x':Bool),(x'=true↔zv F)/\(false=x'/\True)/\zh))/\∀K:Bool,(K=true↔zv F)->(K=true->zn F/\zw F/\(fun a0:Prop=>a0/\a0) (zy F/\(True->(zf/\bb y+bb (zaa F)<=1000000000)/\zd/\ze/\y++zaa F=y++zaa F/\zg/\True/\((),n,w,y++zaa F,t,(b || ck (cT (zx F)),()),())=zq/\zr)))/\(K=false->(zj F/\((zk F == [(98:UInt8),97,115,101])=true->zl F->∃(x':Bool),(x'=true↔zab F)/\((zi F == (3:Int))=x'/\True)/\zh)/\((zk F == [(98:UInt8),97,115,101])=false->∃(x':Bool),(x'=true↔zab F)/\(false=x'/\True)/\zh))/\∀M:Bool,(M=true↔zab F)->(M=true->zn F/\zw F/\(zt F/\(True->zaf F))/\zt F/\(True->(fun a0:Prop=>a0/\a0) (zaf F)))/\(M=false->(zj F/\((zk F == [(119:UInt8),104,111,108,101])=true->zah F)/\((zk F == [(119:UInt8),104,111,108,101])=false->zj F/\((zai F)=true->zah F)/\((zai F)=false->∃(x':Bool),(x'=true↔zag F)/\(false=x'/\True)/\zh)))/\∀Q:Bool,(Q=true↔zag F)->(Q=true->zj F/\((zai F)=true->zn F/\zw F/\zaj F/\(zt F/\(True->zam F))/\zt F/\(True->(fun a0:Prop=>a0/\a0) (zam F)))/\((zai F)=false->zn F/\zw F/\zaj F/\(zt F/\(True->zao F))/\zt F/\(True->(fun a0:Prop=>a0/\a0) (zao F))))/\(Q=false->zd/\ze/\zf/\zg/\True/\((),n,w,y,t,(true,()),())=zq/\zr)))))) (by kernel_rfl) ?_
 dsimp -iota -proj -eta only;dsimp only at hp;refine⟨ba,⟨⟨(by have:=H9 s [119,101,97,107,32];exact⟨by omega,rfl⟩),(⟨_,rfl,⟨rfl,ba⟩,(by trivial)⟩)⟩,fun F q_0=>⟨⟨?a,iQ (fun h0 h1 =>?b) (fun h0 =>?c)⟩,fun G q_1=>⟨fun h0=>⟨?d,?e,?f⟩,fun h0=>⟨⟨?g,iQ (fun h1 h2 =>?h) (fun h1 =>?i)⟩,fun I q_2=>⟨fun h1=>⟨?j,(show ∀{a0:Prop},a0->a0/\a0 from fun g0=>⟨g0,g0⟩) (⟨?k,fun h2=>⟨?l,?m⟩⟩)⟩,fun h1=>⟨⟨?n,iQ (fun h2 h3 =>?o) (fun h2 =>?p)⟩,fun K q_3=>⟨fun h2=>⟨?q,?r,(show ∀{a0:Prop},a0->a0/\a0 from fun g0=>⟨g0,g0⟩) (⟨?s,fun h3=>⟨?t,?u⟩⟩)⟩,fun h2=>⟨⟨?v,iQ (fun h3 h4 =>?w) (fun h3 =>?x)⟩,fun M q_4=>⟨fun h3=>⟨?y,?z,⟨⟨?a0,fun h4=>⟨?a1,fun h5=>⟨?a2,?a3⟩⟩⟩,⟨?a4,fun h4=>(show ∀{a0:Prop},a0->a0/\a0 from fun g0=>⟨g0,g0⟩) (⟨?a5,fun h5=>⟨?a6,?a7⟩⟩)⟩⟩⟩,fun h3=>⟨⟨?a8,iQ (fun h4 h5 =>?a9) (fun h4=>⟨?aa,iQ (fun h5 h6 =>?ab) (fun h5 =>?ac)⟩)⟩,fun Q q_5=>⟨fun h4=>⟨?ad,iQ (fun h5=>⟨?ae,?af,?ag,⟨⟨?ah,fun h6=>⟨?ai,fun h7=>⟨?aj,?ak⟩⟩⟩,⟨?al,fun h6=>(show ∀{a0:Prop},a0->a0/\a0 from fun g0=>⟨g0,g0⟩) (⟨?am,fun h7=>⟨?an,?ao⟩⟩)⟩⟩⟩) (fun h5=>⟨?ap,?aq,?ar,⟨⟨?au,fun h6=>⟨?av,fun h7=>⟨?aw,?ax⟩⟩⟩,⟨?ay,fun h6=>(show ∀{a0:Prop},a0->a0/\a0 from fun g0=>⟨g0,g0⟩) (⟨?az,fun h7=>⟨?b0,?b1⟩⟩)⟩⟩⟩)⟩,fun h4 =>?b2⟩⟩⟩⟩⟩⟩⟩⟩⟩⟩⟩⟩
 case a|g|n|v|a8|aa|ad=>have:=Tt q_0;omega
 case b|c|h|i|o|p|w|x|a9|ab|ac=>exact⟨_,by(simp_all <;> omega),⟨rfl,ba⟩,(by trivial)⟩
 case d|j|q|r|y|z|ae|af|ag|ap|aq|ar=>simp_all
 case e|l|t|a2|a6|aj|an|aw|b0=>exact⟨rfl,by simp only[bw];omega⟩
 case f|m|u|a3|a7|ak|ao|ax|b1|b2=>
  refine⟨rfl,rfl,rfl,rfl,ba,?_,rfl⟩
  first
  |(rw[Nu q_0 (q_1.1 ‹_›)];rfl)
  |(rw[Nv q_0 (l8 q_1 ‹_›) (q_2.1 ‹_›)];rfl)
  |(rw[Qa q_0 (l8 q_1 ‹_›) (l8 q_2 ‹_›) (q_3.1 ‹_›)];rfl)
  |(rw[Nw q_0 (l8 q_1 ‹_›) (l8 q_2 ‹_›) (l8 q_3 ‹_›) (q_4.1 ‹_›)];rfl)
  |(rw[E4 q_0 (l8 q_1 ‹_›) (l8 q_2 ‹_›) (l8 q_3 ‹_›) (l8 q_4 ‹_›) (q_5.1 ‹_›) (k:=3) (if_pos ‹_›).symm];rfl)
  |(rw[E4 q_0 (l8 q_1 ‹_›) (l8 q_2 ‹_›) (l8 q_3 ‹_›) (l8 q_4 ‹_›) (q_5.1 ‹_›) (k:=2) (if_neg ‹_›).symm];rfl)
  |(rw[Nx q_0 (l8 q_1 ‹_›) (l8 q_2 ‹_›) (l8 q_3 ‹_›) (l8 q_4 ‹_›) (l8 q_5 ‹_›)];rfl)
 case k|a0|a4|ah|al|au|ay=>have:=LD q_0 1;omega
 case s|a1|a5|ai|am|av|az=>have:=LD q_0 2;omega
def Tryz.Um:bX Tryz.prog Tryz.B.eT Tryz.X 53 false (aX Tryz.o7 [.obj 0,.d .str,.obj 5] (fun a x=>a.1.length<=1000000/\x.2.1.length<=1000000/\x.2.2.1.length<=1000000/\x.2.2.2.1.length<=1000000/\x.2.2.2.2.1.length<=1000000) Tryz.Bt):=
 bH (X:=Tryz.X) Tryz.RH Tryz.func53 (by kernel_rfl) (fun(a:CD [.obj 0,.d .str,.obj 5]) (x:PD Tryz.o7)=>L9 a.1 x.2.1 x.2.2.1 x.2.2.2.1 x.2.2.2.2.1 x.2.2.2.2.2.1.1) (fun(a:CD [.obj 0,.d .str,.obj 5]) (x:PD Tryz.o7) hw hp=>Ul a.1 x.2.1 x.2.2.1 x.2.2.2.1 x.2.2.2.2.1 x.2.2.2.2.2.1.1 hw hp)
def Un(n:Int)(hw:gM [.int .i64] n):(dL Tryz.B [] Tryz.f104 [] [.int .i64] [.bool] (fun x y=>y=(fun n=>im n) x) n).holds:=by
 refine holds_of (p:=
  ((decide (n>=(-2147483648:Int)))=true->decide (n<=2147483647)=im n)/\((decide (n>=(-2147483648:Int)))=false->false=im n)) (by kernel_rfl) ?_
 refine iE (fun h0 =>?a) (fun h0 =>?b)
 case a|b=>unfold im;rw[dy];simp;omega
def Tryz.Jp:bW Tryz.prog Tryz.B.eT Tryz.X 104 [.int .i64] [.bool] (fun _=>True) (fun x y=>y=(fun n=>im n) x):=
 cD (X:=Tryz.X) (bR Tryz.bQ) Tryz.func104 (by kernel_rfl) (fun _=>[]) (fun x hw hp=>Un x hw)
def FP(l:List (List UInt8))(s:List UInt8):dX:=[(0,fun st=>{X:=Nat,inv:=fun i=>i<=l.length/\∀j,j<i->nth .str l j≠s,cB:=fun i=>l.length-i,bM:=fun i=>[(8,sI i)],keep:=[0,1,7]})]
def RI(l:List (List UInt8))(s:List UInt8)(hw:gM [.slice .str,.str] (l,s)):(dL Tryz.B [] Tryz.f55 (FP l s) [.slice .str,.str] [.int .i64] (fun x y=>(y= -1/\∀j,j<x.1.length->nth .str x.1 j≠x.2)\/(0<=y/\y.toNat<x.1.length/\nth .str x.1 y.toNat=x.2)) (l,s)).holds:=by
 refine holds_of (p:=
  let za:=bb l
  let zb:=(-1:Int)
  let zc:=∀(j:Nat),j<za->nth Ty.str l j≠s
  za<=aM->(∃(x:Nat),(x<=za/\∀(j:Nat),j<x->nth Ty.str l j≠s)/\(0=(↑x:Int)/\True)/\True)/\∀F:Nat,(F<=za/\∀(j:Nat),j<F->nth Ty.str l j≠s)->((decide ((↑F:Int)<(↑za:Int)))=true->(0<=(↑F:Int)/\(↑F:Int)<(↑za:Int))/\((s == nth Ty.str l F)=true->(↑F:Int)=zb/\zc\/0<=(↑F:Int)/\F<za/\nth Ty.str l F=s)/\((s == nth Ty.str l F)=false->aJ (↑F:Int)->aJ 1->aJ ((↑F:Int)+1)/\∃(x':Nat),(x'<=za/\∀(j:Nat),j<x'->nth Ty.str l j≠s)/\za-x'<za-F/\((↑F:Int)+1=(↑x':Int)/\True)/\True))/\((decide ((↑F:Int)<(↑za:Int)))=false->zb=zb/\zc\/0<=zb/\bf zb<za/\nth Ty.str l (bf zb)=s)) (by kernel_rfl) ?_
 dsimp -iota -proj -eta only;exact fun h0=>⟨(⟨0,⟨by omega,fun j hj=>by omega⟩,⟨rfl,ba⟩,ba⟩),fun F q_0=>iL (fun h1=>⟨(by omega),iQ (fun h2=>(by simp_all)) (fun h2 h3 h4=>⟨(by simp only[aJ,aM]at*;omega),(⟨F+1,⟨by omega,lY q_0.2 fun e=>(by assumption:¬_) e.symm⟩,by omega,⟨by omega,ba⟩,(by trivial)⟩)⟩)⟩) (fun h1=>(.inl ⟨rfl,fun j hj=>q_0.2 j (by omega)⟩))⟩
def Tryz.RJ:bW Tryz.prog Tryz.B.eT Tryz.X 55 [.slice .str,.str] [.int .i64] (fun _=>True) (fun x y=>(y= -1/\∀j,j<x.1.length->nth .str x.1 j≠x.2)\/(0<=y/\y.toNat<x.1.length/\nth .str x.1 y.toNat=x.2)):=
 cD (X:=Tryz.X) (bR Tryz.bQ) Tryz.func55 (by kernel_rfl) (fun x=>FP x.1 x.2) (fun x hw hp=>RI x.1 x.2 hw)
def Tryz.FQ:List (FuncId×(Bool×aT)):=[(55,(true,p7 [.slice .str,.str] [.int .i64] (fun _=>True) (fun x y=>(y= -1/\∀j,j<x.1.length->nth .str x.1 j≠x.2)\/(0<=y/\y.toNat<x.1.length/\nth .str x.1 y.toNat=x.2))))]
def Tryz.KT:bP Tryz.prog Tryz.B Tryz.X Tryz.FQ:=
 aO (ir Tryz.RJ) (bR Tryz.bQ)
def Jq(l:List (List UInt8))(s:List UInt8)(hw:gM [.slice .str,.str] (l,s)):(dL Tryz.B Tryz.FQ Tryz.f36 [] [.slice .str,.str] [.bool] (fun x y=>y=(fun x=>x.1.any (· == x.2)) x) (l,s)).holds:=by
 refine holds_of (p:=
  True/\∀F:Int,((F=(-1:Int)/\∀(j:Nat),j<bb l->nth Ty.str l j≠s)\/0<=F/\bf F<bb l/\nth Ty.str l (bf F)=s)->decide (F>=0)=da l fun(x:List UInt8)=>x == s) (by kernel_rfl) ?_
 exact⟨ba,fun F q_0=>(contains_of q_0)⟩
def Tryz.x6:bW Tryz.prog Tryz.B.eT Tryz.X 36 [.slice .str,.str] [.bool] (fun _=>True) (fun x y=>y=(fun x=>x.1.any (· == x.2)) x):=
 cD (X:=Tryz.X) Tryz.KT Tryz.func36 (by kernel_rfl) (fun _=>[]) (fun x hw hp=>Jq x.1 x.2 hw)
def Tryz.FR:List (FuncId×(Bool×aT)):=[(123,(false,gz Tryz.B [] Tryz.f123 []))]
def Tryz.KU:bP Tryz.prog Tryz.B Tryz.X Tryz.FR:=
 aO (eV (bR Tryz.bQ) Tryz.func123 (by kernel_rfl) []) (bR Tryz.bQ)
def FT:dX:=[(0,fun st=>{X:=Nat,inv:=fun i=>i<=(cY (.slice aS) st 0).length/\∀j,j<i->(nth aS (cY (.slice aS) st 0) j).1≠(SQ aS st (MU st 1 0)).1,cB:=fun i=>(cY (.slice aS) st 0).length-i,bM:=fun i=>[(8,sI i)],keep:=[0,1,7]})]
def Tryz.Ma:List (FuncId×(Bool×aT)):=[(138,(false,gz Tryz.B Tryz.FR Tryz.f138 FT))]
def Tryz.RL:bP Tryz.prog Tryz.B Tryz.X Tryz.Ma:=
 aO (eV Tryz.KU Tryz.func138 (by kernel_rfl) FT) (bR Tryz.bQ)
def Tryz.Mb:List (FuncId×(Bool×aT)):=[(45,Tryz.spZ0),(17,Tryz.spZ1),(122,(false,gz Tryz.B Tryz.Ma Tryz.f122 []))]
def Tryz.RM:bP Tryz.prog Tryz.B Tryz.X Tryz.Mb:=
 aO (aE Tryz.jt) (aO (aE Tryz.iw) (aO (eV Tryz.RL Tryz.func122 (by kernel_rfl) []) (bR Tryz.bQ)))
def C6(o:D aB):dX:=[(0,fun st=>{X:=Nat,inv:=fun i=>kU o.2.1.length o.2.2.1 i,cB:=fun i=>o.2.2.1.length-i,bM:=fun i=>[(9,sI i)],keep:=[1,7,8]})]
def KV(o:D aB)(hw:gM [aB] o):(dL Tryz.B Tryz.Mb Tryz.f105 (C6 o) [aB] [.err] (fun x y=>y=(fun o=>aI (iq o.2.1.length [] o.2.2.1)) x) o).holds:=by
 refine holds_of (p:=
  let za:=o.2.2.1
  let zb:=bb za
  let zc:=bb o.2.1
  let zd:=fun(F:Nat)=>(↑F:Int)
  let ze:=fun(F:Nat)=>(0:Int)<=zd F
  let zf:=fun(F:Nat)=>(nth aS za F).1
  let zg:=aI (iq zc (@bc (List UInt8×Int×Bool×Unit)) za)
  let zh:=fun(F:Nat)=>(nth aS za F).2.1
  let zi:=aK.no (1:Int)=zg
  let zj:=fun(F:Nat)=>bj 0 (bd F za)
  let zk:=fun(F:Nat)=>bb (zj F)
  let zl:=aK.no (3:Int)=zg
  let zm:=(o.1=o.1/\o.2.1=o.2.1/\za=za/\o.2.2.2.1=o.2.2.2.1/\True)/\True
  let zn:=fun(F:Nat)=>aJ (zd F)->aJ (1:Int)->aJ (zd F+(1:Int))/\∃(x':Nat),kU zc za x'/\zb-x'<zb-F/\(zd F+(1:Int)=(↑x':Int)/\True)/\zm
  zb<=aM->(∃(x:Nat),kU zc za x/\((0:Int)=(↑x:Int)/\True)/\True)/\∀F:Nat,kU zc za F->((decide (zd F<(↑zb:Int)))=true->(ze F/\zd F<(↑zb:Int))/\True/\((!aK.isNil (aI (aP (zf F))))=true->aI (aP (zf F))=zg)/\((!aK.isNil (aI (aP (zf F))))=false->((decide (zh F<(0:Int)))=true->zi)/\((decide (zh F<(0:Int)))=false->zc<=aM->((decide (zh F>=(↑zc:Int)))=true->zi)/\((decide (zh F>=(↑zc:Int)))=false->((0:Int)<=(0:Int)/\ze F/\zd F<=(↑zb:Int))/\(zk F<=aM->(∃(x:Nat),(x<=zk F/\∀(j:Nat),j<x->(nth aS (zj F) j).1≠zf F)/\((0:Int)=(↑x:Int)/\True)/\True)/\∀G:Nat,(G<=zk F/\∀(j:Nat),j<G->(nth aS (zj F) j).1≠zf F)->((decide (zd G<(↑(zk F):Int)))=true->(ze G/\zd G<(↑(zk F):Int))/\(((nth aS (zj F) G).1 == zf F)=true->((decide (zd G>=(0:Int)))=true->zl)/\((decide (zd G>=(0:Int)))=false->zn F))/\(((nth aS (zj F) G).1 == zf F)=false->aJ (zd G)->aJ (1:Int)->aJ (zd G+(1:Int))/\∃(x':Nat),(x'<=zk F/\∀(j:Nat),j<x'->(nth aS (zj F) j).1≠zf F)/\zk F-x'<zk F-G/\(zd G+(1:Int)=(↑x':Int)/\True)/\(zf F=zf F/\zh F=zh F/\(nth aS za F).2.2.1=(nth aS za F).2.2.1/\True)/\zm))/\((decide (zd G<(↑(zk F):Int)))=false->((decide ((-1:Int)>=(0:Int)))=true->zl)/\((decide ((-1:Int)>=(0:Int)))=false->zn F)))))))/\((decide (zd F<(↑zb:Int)))=false->aK.nil=zg)) (by kernel_rfl) ?_
 dsimp -iota -proj -eta only;refine fun h0=>⟨(⟨0,.zero _ _,⟨rfl,ba⟩,ba⟩),fun F q_0=>iL (fun h1=>⟨?a,ba,iB (fun h2=>(by rw[q_0.fault (by omega) (nf (fA _) h2)])) (fun h2=>iL (fun h3=>(by rw[q_0.out (by omega) (dI h2) (.inl (by omega))];rfl)) (fun h3 h4=>iE (fun h5=>(by rw[q_0.out (by omega) (dI h2) (.inr (by omega))];rfl)) (fun h5=>⟨?b,fun h6=>⟨(⟨0,⟨by omega,fun j hj=>by omega⟩,⟨rfl,ba⟩,ba⟩),fun G q_1=>iL (fun h7=>⟨?c,iQ (fun h8=>⟨fun h9=>(by rw[EU q_0.le]at h7;rw[ET (i:=F) (j:=G) (by omega)]at h8;rw[q_0.dup (by omega) (dI h2) (fun h=>h.elim (fun h=>absurd h (Int.not_lt.2 h3)) (fun h=>absurd h (Int.not_le.2 h5))) (HE (t:=aS) (j:=G) (by omega) q_0.le (by simpa using h8))];rfl),fun h9=>absurd (show true=false from h9) (by decide)⟩) (fun h8 h9 h10=>⟨?d,(⟨G+1,⟨by omega,lY q_1.2 ‹_›⟩,by omega,⟨by omega,ba⟩,(by trivial)⟩)⟩)⟩) (fun h7=>⟨fun h8=>absurd (show false=true from h8) (by decide),fun h8 h9 h10=>⟨?e,(by have hx:=EU q_0.le;exact⟨F+1,q_0.next (by omega) (dI h2) (fun h=>h.elim (fun h=>absurd h (Int.not_lt.2 h3)) (fun h=>absurd h (Int.not_le.2 h5))) (EH (t:=aS) fun j hj=>by have:=q_1.2 j (by omega);rw[ET hj]at this;simpa using this),by omega,⟨by omega,ba⟩,(by trivial)⟩)⟩⟩)⟩⟩)))⟩) (fun h1=>(by rw[q_0.done (by omega)];rfl))⟩
 case a|b|c=>omega
 case d|e=>simp only[aJ,aM]at*;omega
def Tryz.KW:bW Tryz.prog Tryz.B.eT Tryz.X 105 [aB] [.err] (fun _=>True) (fun x y=>y=(fun o=>aI (iq o.2.1.length [] o.2.2.1)) x):=
 cD (X:=Tryz.X) Tryz.RM Tryz.func105 (by kernel_rfl) (fun x=>C6 x) (fun x hw hp=>KV x hw)
def Tryz.spZ25:Bool×aT:=(true,cC [.int .i64] [.bool] (fun _=>True) (fun n=>im n))
def Tryz.Mc:List (FuncId×(Bool×aT)):=[(45,Tryz.spZ0),(17,Tryz.spZ1),(104,Tryz.spZ25)]
def Tryz.RN:bP Tryz.prog Tryz.B Tryz.X Tryz.Mc:=
 aO (aE Tryz.jt) (aO (aE Tryz.iw) (aO (aE Tryz.Jp) (bR Tryz.bQ)))
def Md(o:D aB):dX:=[(0,fun st=>{X:=Nat,inv:=fun i=>nH o.2.1.length o.2.2.2.1 i,cB:=fun i=>o.2.2.2.1.length-i,bM:=fun i=>[(9,sI i)],keep:=[1,7,8]})]
def Uo(o:D aB)(hw:gM [aB] o):(dL Tryz.B Tryz.Mc Tryz.f106 (Md o) [aB] [.err] (fun x y=>y=(fun o=>aI (kT o.2.1.length none o.2.2.2.1)) x) o).holds:=by
 refine holds_of (p:=
  let za:=o.2.2.2.1
  let zb:=bb za
  let zc:=bb o.2.1
  let zd:=fun(F:Nat)=>(↑F:Int)
  let ze:=fun(F:Nat)=>(nth bD za F).1
  let zf:=aI (kT zc none za)
  let zg:=aK.no 1=zf
  let zh:=fun(F:Nat)=>(nth bD za F).2.1
  let zi:=aK.no 3=zf
  let zj:=fun(F:Nat)=>zd F-1
  let zk:=fun(F:Nat)=>aJ (zd F)->aJ 1->aJ (zd F+1)/\∃(x':Nat),nH zc za x'/\zb-x'<zb-F/\(zd F+1=(↑x':Int)/\True)/\(o.1=o.1/\o.2.1=o.2.1/\o.2.2.1=o.2.2.1/\za=za/\True)/\True
  let zl:=fun(F:Nat)=>aI (aP (nth bD za F).2.2.2.1)
  let zm:=fun(F:Nat)=>((zh F == 1)=true->((!(nth bD za F).2.2.2.1 == @bc UInt8)=true->zi)/\((!(nth bD za F).2.2.2.1 == @bc UInt8)=false->(((nth bD za F).2.2.2.2.1)=true->zi)/\(((nth bD za F).2.2.2.2.1)=false->zk F)))/\((zh F == 1)=false->True/\((!aK.isNil (zl F))=true->zl F=zf)/\((!aK.isNil (zl F))=false->zk F))
  zb<=aM->(∃(x:Nat),nH zc za x/\(0=(↑x:Int)/\True)/\True)/\∀F:Nat,nH zc za F->((decide (zd F<(↑zb:Int)))=true->(0<=zd F/\zd F<(↑zb:Int))/\((decide (ze F<0))=true->zg)/\((decide (ze F<0))=false->zc<=aM->((decide (ze F>=(↑zc:Int)))=true->zg)/\((decide (ze F>=(↑zc:Int)))=false->True/\((!im (nth bD za F).2.2.1)=true->zg)/\((!im (nth bD za F).2.2.1)=false->((decide (zh F<1))=true->zi)/\((decide (zh F<1))=false->((decide (zh F > 3))=true->zi)/\((decide (zh F > 3))=false->((decide (zd F > 0))=true->aJ (zd F)->aJ 1->aJ (zj F)/\(0<=zj F/\zj F<(↑zb:Int))/\((decide ((nth bD za (bf (zj F))).1>=ze F))=true->zi)/\((decide ((nth bD za (bf (zj F))).1>=ze F))=false->zm F))/\((decide (zd F > 0))=false->zm F)))))))/\((decide (zd F<(↑zb:Int)))=false->aK.nil=zf)) (by kernel_rfl) ?_
 dsimp -iota -proj -eta only;refine fun h0=>⟨(⟨0,.zero _ _,⟨rfl,ba⟩,ba⟩),fun F q_0=>iL (fun h1=>⟨?a,iL (fun h2 =>?b) (fun h2 h3=>iE (fun h4 =>?c) (fun h4=>⟨ba,iB (fun h5 =>?d) (fun h5=>iL (fun h6 =>?e) (fun h6=>iL (fun h7 =>?f) (fun h7=>iL (fun h8 h9 h10=>⟨?g,?h,iE (fun h11 =>?i) (fun h11=>iQ (fun h12=>⟨fun h13 =>?j,fun h13=>⟨fun h14 =>?k,fun h14 h15 h16=>⟨?l,?m⟩⟩⟩) (fun h12=>⟨ba,iB (fun h13=>(by rw[q_0.fault (by omega) (f:=aP (nth bD o.2.2.2.1 F).2.2.2.1) (by unfold nc oE om;grind) (by have:=nf (fA _) h13;omega)])) (fun h13 h14 h15=>⟨?n,(by have:=aQ.1 h13;exact⟨F+1,q_0.next (by omega) (by unfold nc oE om;grind),by omega,⟨by omega,ba⟩,(by trivial)⟩)⟩)⟩))⟩) (fun h8=>iQ (fun h9=>⟨fun h10 =>?o,fun h10=>⟨fun h11 =>?p,fun h11 h12 h13=>⟨?q,?r⟩⟩⟩) (fun h9=>⟨ba,iB (fun h10=>(by rw[q_0.fault (by omega) (f:=aP (nth bD o.2.2.2.1 F).2.2.2.1) (by unfold nc oE om;grind) (by have:=nf (fA _) h10;omega)])) (fun h10 h11 h12=>⟨?s,(by have:=aQ.1 h10;exact⟨F+1,q_0.next (by omega) (by unfold nc oE om;grind),by omega,⟨by omega,ba⟩,(by trivial)⟩)⟩)⟩)))))⟩))⟩) (fun h1=>(by rw[q_0.done (by omega)];rfl))⟩
 case a|h=>omega
 case b|c|d=>rw[q_0.fault (by omega) (f:=1) (by unfold nc;grind) (by decide)];rfl
 case e|f|i=>rw[q_0.fault (by omega) (f:=3) (by unfold nc oE om;grind) (by decide)];rfl
 case g|n|s=>simp only[aJ,aM]at*;omega
 case j|k=>
  simp only[bl,reduceCtorEq]at h13;rw[q_0.fault (by omega) (f:=3) (by unfold nc oE om;grind) (by decide)];rfl
 case l=>
  simp only[bl,reduceCtorEq]at h13;simp only[aJ,aM]at*;omega
 case m=>
  simp only[bl,reduceCtorEq]at h13;exact⟨F+1,q_0.next (by omega) (by unfold nc oE om;grind),by omega,⟨by omega,ba⟩,(by trivial)⟩
 case o|p=>
  simp only[bl,reduceCtorEq]at h10;rw[q_0.fault (by omega) (f:=3) (by unfold nc oE om;grind) (by decide)];rfl
 case q=>
  simp only[bl,reduceCtorEq]at h10;simp only[aJ,aM]at*;omega
 case r=>
  simp only[bl,reduceCtorEq]at h10;exact⟨F+1,q_0.next (by omega) (by unfold nc oE om;grind),by omega,⟨by omega,ba⟩,(by trivial)⟩
def Tryz.Up:bW Tryz.prog Tryz.B.eT Tryz.X 106 [aB] [.err] (fun _=>True) (fun x y=>y=(fun o=>aI (kT o.2.1.length none o.2.2.2.1)) x):=
 cD (X:=Tryz.X) Tryz.RN Tryz.func106 (by kernel_rfl) (fun x=>Md x) (fun x hw hp=>Uo x hw)
def Tryz.spZ26:Bool×aT:=(true,cC [.slice .str,.str] [.bool] (fun _=>True) (fun x=>x.1.any (· == x.2)))
def Tryz.FU:List (FuncId×(Bool×aT)):=[(45,Tryz.spZ0),(17,Tryz.spZ1),(36,Tryz.spZ26),(104,Tryz.spZ25),(105,(true,cC [aB] [.err] (fun _=>True) (fun o=>aI (iq o.2.1.length [] o.2.2.1)))),(106,(true,cC [aB] [.err] (fun _=>True) (fun o=>aI (kT o.2.1.length none o.2.2.2.1))))]
def Tryz.KX:bP Tryz.prog Tryz.B Tryz.X Tryz.FU:=
 aO (aE Tryz.jt) (aO (aE Tryz.iw) (aO (aE Tryz.x6) (aO (aE Tryz.Jp) (aO (aE Tryz.KW) (aO (aE Tryz.Up) (bR Tryz.bQ))))))
def FV(o:D aB):dX:=[
 (0,fun st=>{X:=Nat,inv:=fun i=>kf o.1 i,cB:=fun i=>o.1.length-i,bM:=fun i=>[(41,sI i)],keep:=[1,39,40]}),
 (2,fun st=>{X:=Nat,inv:=fun i=>lB o.2.1 i,cB:=fun i=>o.2.1.length-i,bM:=fun i=>[(62,sI i)],keep:=[1,60,61]})]
def RO(o:D aB)(hw:gM [aB] o):(dL Tryz.B Tryz.FU Tryz.f83 (FV o) [aB] [.err] (fun x y=>y=(fun o=>aI (dB o)) x) o).holds:=by
 refine holds_of (p:=
  let za:=bb o.1
  let zb:=(↑za:Int)
  let zc:=aI (dB o)
  let zd:=aK.no (2:Int)=zc
  let ze:=o.2.1
  let zf:=bb ze
  let zg:=zf<=aM
  let zh:=(↑zf:Int)
  let zi:=o.2.2.1
  let zj:=o.2.2.2.1
  let zk:=fun(F:Nat)=>(↑F:Int)
  let zl:=fun(F:Nat)=>(0:Int)<=zk F
  let zm:=fun(F:Nat)=>aI (aP (nth Ty.str o.1 F))
  let zn:=(o.1=o.1/\ze=ze/\zi=zi/\zj=zj/\True)/\True
  let zo:=aI (iq zf (@bc (List UInt8×Int×Bool×Unit)) zi)
  za<=aM->((decide (zb > (4:Int)))=true->zd)/\((decide (zb > (4:Int)))=false->zg->((decide (zh<(1:Int)))=true->zd)/\((decide (zh<(1:Int)))=false->zg->((decide (zh > (40:Int)))=true->zd)/\((decide (zh > (40:Int)))=false->bb zi<=aM->((decide ((↑(bb zi):Int) > (8:Int)))=true->zd)/\((decide ((↑(bb zi):Int) > (8:Int)))=false->bb zj<=aM->((decide ((↑(bb zj):Int) > (6:Int)))=true->zd)/\((decide ((↑(bb zj):Int) > (6:Int)))=false->za<=aM->(∃(x:Nat),kf o.1 x/\((0:Int)=(↑x:Int)/\True)/\True)/\∀F:Nat,kf o.1 F->((decide (zk F<zb))=true->(zl F/\zk F<zb)/\True/\((!aK.isNil (zm F))=true->zm F=zc)/\((!aK.isNil (zm F))=false->((0:Int)<=(0:Int)/\zl F/\zk F<=zb)/\True/\((da (bj 0 (bd F o.1)) fun(x:List UInt8)=>x == nth Ty.str o.1 F)=true->aK.no (3:Int)=zc)/\((da (bj 0 (bd F o.1)) fun(x:List UInt8)=>x == nth Ty.str o.1 F)=false->aJ (zk F)->aJ (1:Int)->aJ (zk F+(1:Int))/\∃(x':Nat),kf o.1 x'/\za-x'<za-F/\(zk F+(1:Int)=(↑x':Int)/\True)/\zn)))/\((decide (zk F<zb))=false->zg->(∃(x:Nat),lB ze x/\((0:Int)=(↑x:Int)/\True)/\True)/\∀G:Nat,lB ze G->((decide (zk G<zh))=true->(zl G/\zk G<zh)/\True/\((!im (nth (Ty.int bm) ze G))=true->aK.no (1:Int)=zc)/\((!im (nth (Ty.int bm) ze G))=false->aJ (zk G)->aJ (1:Int)->aJ (zk G+(1:Int))/\∃(x':Nat),lB ze x'/\zf-x'<zf-G/\(zk G+(1:Int)=(↑x':Int)/\True)/\zn))/\((decide (zk G<zh))=false->True/\((!aK.isNil zo)=true->zo=zc)/\((!aK.isNil zo)=false->True/\aI (kT zf none zj)=zc))))))))) (by kernel_rfl) ?_
 dsimp -iota -proj -eta only;refine fun h0=>iL (fun h1 =>?a) (fun h1 h2=>iL (fun h3 =>?b) (fun h3 h4=>iL (fun h5 =>?c) (fun h5 h6=>iL (fun h7 =>?d) (fun h7 h8=>iL (fun h9 =>?e) (fun h9 h10=>⟨?f,fun F q_0=>iL (fun h11=>⟨?g,ba,iB (fun h12=>(by have hf:=nf (fA _) h12;rw[xj (by unfold l5;omega) (q_0.fault (by omega) hf) (by omega)])) (fun h12=>⟨?h,ba,⟨fun h13=>(by rw[c6]at h13;rw[xj (by unfold l5;omega) (q_0.dup (by omega) (dI h12) h13) (by decide)];rfl),fun h13 h14 h15=>⟨?i,(by rw[c6]at h13;exact⟨F+1,q_0.next (by omega) (dI h12) h13,by omega,⟨by omega,ba⟩,(by trivial)⟩)⟩⟩⟩)⟩) (fun h11 h12=>⟨?j,fun G q_1=>iL (fun h13=>⟨?k,ba,iB (fun h14=>(by rw[HF (by unfold l5;omega) (q_0.done (by omega)) (q_1.fault (by omega) h14) (by decide)];rfl)) (fun h14 h15 h16=>⟨?l,(⟨G+1,q_1.next (by omega) h14,by omega,⟨by omega,ba⟩,(by trivial)⟩)⟩)⟩) (fun h13=>⟨ba,iB (fun h14=>(by have hf:=nf (xi _ _ _) h14;rw[Ki (by unfold l5;omega) (q_0.done (by omega)) (q_1.done (by omega)) rfl (by omega)])) (fun h14=>⟨ba,(by rw[Kj (by unfold l5;omega) (q_0.done (by omega)) (q_1.done (by omega)) (aQ.1 h14) rfl])⟩)⟩)⟩)⟩)))))
 case a|b|c|d|e=>rw[Kh (by unfold l5;omega)];rfl
 case f|j=>exact⟨0,.zero _,⟨rfl,ba⟩,ba⟩
 case g|h|k=>omega
 case i|l=>simp only[aJ,aM]at*;omega
def Tryz.RP:bW Tryz.prog Tryz.B.eT Tryz.X 83 [aB] [.err] (fun _=>True) (fun x y=>y=(fun o=>aI (dB o)) x):=
 cD (X:=Tryz.X) Tryz.KX Tryz.func83 (by kernel_rfl) (fun x=>FV x) (fun x hw hp=>RO x hw)
def Ov(b:Bool)(hw:gM [.bool] b):(dL Tryz.B [] Tryz.f86 [] [.bool] [.str] (fun x y=>y=(fun b=>iO b) x) b).holds:=by
 refine holds_of (p:=
  (b=true->[119,101,97,107,32]=iO b)/\(b=false->(@bc UInt8=iO b))) (by kernel_rfl) ?_
 refine⟨fun h0 =>?a,fun h0 =>?b⟩
 case a|b=>cases b <;> first|rfl|simp_all
def Tryz.Ow:bW Tryz.prog Tryz.B.eT Tryz.X 86 [.bool] [.str] (fun _=>True) (fun x y=>y=(fun b=>iO b) x):=
 cD (X:=Tryz.X) (bR Tryz.bQ) Tryz.func86 (by kernel_rfl) (fun _=>[]) (fun x hw hp=>Ov x hw)
def Tryz.Jr:List (FuncId×(Bool×aT)):=[(45,Tryz.spZ0),(17,Tryz.spZ1),(85,(false,sb 169 5)),(88,(false,qN 169 5)),(87,(true,w6 169 5)),(84,Tryz.spZ2),(83,(true,cC [aB] [.err] (fun _=>True) (fun o=>aI (dB o)))),(86,(true,cC [.bool] [.str] (fun _=>True) (fun b=>iO b)))]
def Tryz.Ox:bP Tryz.prog Tryz.B Tryz.X Tryz.Jr:=
 aO (aE Tryz.jt) (aO (aE Tryz.iw) (aO (Tryz.Ai) (aO (Tryz.xX) (aO (Tryz.FC) (aO (aE Tryz.oU) (aO (aE Tryz.RP) (aO (aE Tryz.Ow) (bR Tryz.bQ))))))))
def Js(o:D aB):dX:=[
 (0,fun st=>{X:=Nat,inv:=fun i=>i<=o.1.length,cB:=fun i=>o.1.length-i,bM:=fun i=>[(23,sI i)],keep:=[1,2,3,5,6,21,22],aF:=fun i=>[(bJ st 5,.ext 2 kz (bE (pE o i),(169:Int),(5:Int),()))],ib:=[bJ st 5]}),
 (2,fun st=>{X:=Nat,inv:=fun i=>i<=o.2.1.length,cB:=fun i=>o.2.1.length-i,bM:=fun i=>[(35,sI i)],keep:=[1,2,3,5,6,33,34],aF:=fun i=>[(bJ st 5,.ext 2 kz (bE (nV o i),(169:Int),(5:Int),()))],ib:=[bJ st 5]}),
 (4,fun st=>{X:=Nat,inv:=fun i=>i<=o.2.2.1.length,cB:=fun i=>o.2.2.1.length-i,bM:=fun i=>[(49,sI i)],keep:=[1,2,3,5,6,47,48],aF:=fun i=>[(bJ st 5,.ext 2 kz (bE (nW o i),(169:Int),(5:Int),()))],ib:=[bJ st 5]}),
 (6,fun st=>{X:=Nat,inv:=fun i=>i<=o.2.2.2.1.length,cB:=fun i=>o.2.2.2.1.length-i,bM:=fun i=>[(72,sI i)],keep:=[2,3,5,6,70,71],aF:=fun i=>[(bJ st 5,.ext 2 kz (bE (jC o i),(169:Int),(5:Int),()))],ib:=[bJ st 5]})]
def Uq(o:D aB)(hw:gM [aB] o):(dL (nF Tryz.B [41,64,91,85,104,110,123,129]) Tryz.Jr Tryz.f54 (Js o) [aB] [.str,.err] (fun x y=>y=(fun o=>ku o) x) o).holds:=by
 refine holds_of (p:=
  let za:=aI (dB o)
  let zb:=ku o
  let zc:=bb o.1
  let zd:=(↑(169:Nat):Int)
  let ze:=fun(b:UInt8)=>(↑(b6 b):Int)
  let zf:=((169:Int),(5:Int),())
  let zg:=fun(F:Nat)=>(↑F:Int)
  let zh:=fun(F:Nat)=>(0:Int)<=zg F
  let zi:=[(110:UInt8),101,101,100,32]
  let zj:=[(10:UInt8)]
  let zk:=bb zj
  let zl:=(169:Int)=zd
  let zm:=(↑(5:Nat):Int)
  let zn:=(5:Int)=zm
  let zo:=fun(F:Nat)=>bo ze (pE o F)
  let zp:=fun(F:Nat)=>zi++nth Ty.str o.1 F++zj
  let zq:=fun(F:Nat)=>aJ (zg F)
  let zr:=aJ (1:Int)
  let zs:=fun(F:Nat)=>zg F+(1:Int)
  let zt:=fun(F:Nat)=>aJ (zs F)
  let zu:=(zd,zm,())
  let zv:=o.2.1
  let zw:=o.2.2.1
  let zx:=o.2.2.2.1
  let zy:=(o.1=o.1/\zv=zv/\zw=zw/\zx=zx/\True)/\True
  let zz:=bb zv
  let zaa:=[(119:UInt8),111,114,100,32]
  let zab:=fun(G:Nat)=>zaa++bp (nth (Ty.int bm) zv G)
  let zac:=fun(G:Nat)=>bo ze (nV o G)
  let zad:=bb zw
  let zae:=fun(I:Nat)=>iO (nth aS zw I).2.2.1
  let zaf:=[(115:UInt8),121,109,98,111,108,32]
  let zag:=fun(I:Nat)=>zae I++zaf++(nth aS zw I).1
  let zah:=[(32:UInt8)]
  let zai:=bb zah
  let zaj:=fun(I:Nat)=>bp (nth aS zw I).2.1
  let zak:=fun(I:Nat)=>bo ze (nW o I)
  let zal:=fun(I:Nat)=>zag I++zah++zaj I++zj
  let zam:=bb zx
  let zan:=[(98:UInt8),97,115,101,32]
  let zao:=fun(K:Nat)=>bp (nth bD zx K).1
  let zap:=fun(K:Nat)=>bp (nth bD zx K).2.2.1
  let zaq:=fun(K:Nat)=>zan++zao K++zah++zap K
  let zar:=fun(K:Nat)=>bo ze (jC o K)
  let zas:=fun(K:Nat)=>bb (zar K)
  let zat:=fun(K:Nat)=>iO (nth bD zx K).2.2.2.2.1
  let zau:=[(119:UInt8),104,111,108,101,32]
  let zav:=fun(K:Nat)=>zat K++zau++zao K++zah
  let zaw:=fun(K:Nat)=>(nth bD zx K).2.2.2.1
  let zax:=fun(K:Nat)=>zav K++zap K++zah++zaw K
  let zay:=[(110:UInt8),101,97,114,32]
  let zaz:=fun(K:Nat)=>zat K++zay++zao K++zah
  let zba:=fun(K:Nat)=>zaz K++zap K++zah++zaw K
  True/\((!aK.isNil za)=true->([],za)=zb)/\((!aK.isNil za)=false->zc<=aM->(∃(x:Nat),x<=zc/\((0:Int)=(↑x:Int)/\True)/\([],zd,(↑(5:TypeId):Int),())=(bo ze (pE o x),zf)/\True)/\∀F:Nat,F<=zc->((decide (zg F<(↑zc:Int)))=true->(zh F/\zg F<(↑zc:Int))/\bb zi+bb (nth Ty.str o.1 F)<=aM/\bb (zi++nth Ty.str o.1 F)+zk<=aM/\(zl/\zn/\bb (zo F)+bb (zp F)<=(140737488355328:Nat))/\(zq F->zr->zt F/\∃(x':Nat),x'<=zc/\zc-x'<zc-F/\(zs F=(↑x':Int)/\True)/\(zo F++bo ze (zp F),zu)=(bo ze (pE o x'),zf)/\zy))/\((decide (zg F<(↑zc:Int)))=false->zz<=aM->(∃(x:Nat),x<=zz/\((0:Int)=(↑x:Int)/\True)/\(zo F,zf)=(bo ze (nV o x),zf)/\True)/\∀G:Nat,G<=zz->((decide (zg G<(↑zz:Int)))=true->(zh G/\zg G<(↑zz:Int))/\True/\bb zaa+bb (bp (nth (Ty.int bm) zv G))<=aM/\bb (zab G)+zk<=aM/\(zl/\zn/\bb (zac G)+bb (zab G++zj)<=(140737488355328:Nat))/\(zq G->zr->zt G/\∃(x':Nat),x'<=zz/\zz-x'<zz-G/\(zs G=(↑x':Int)/\True)/\(zac G++bo ze (zab G++zj),zu)=(bo ze (nV o x'),zf)/\zy))/\((decide (zg G<(↑zz:Int)))=false->zad<=aM->(∃(x:Nat),x<=zad/\((0:Int)=(↑x:Int)/\True)/\(zac G,zf)=(bo ze (nW o x),zf)/\True)/\∀I:Nat,I<=zad->((decide (zg I<(↑zad:Int)))=true->(zh I/\zg I<(↑zad:Int))/\True/\bb (zae I)+bb zaf<=aM/\bb (zae I++zaf)+bb (nth aS zw I).1<=aM/\bb (zag I)+zai<=aM/\True/\bb (zag I++zah)+bb (zaj I)<=aM/\bb (zag I++zah++zaj I)+zk<=aM/\(zl/\zn/\bb (zak I)+bb (zal I)<=(140737488355328:Nat))/\(zq I->zr->zt I/\∃(x':Nat),x'<=zad/\zad-x'<zad-I/\(zs I=(↑x':Int)/\True)/\(zak I++bo ze (zal I),zu)=(bo ze (nW o x'),zf)/\zy))/\((decide (zg I<(↑zad:Int)))=false->zam<=aM->(∃(x:Nat),x<=zam/\((0:Int)=(↑x:Int)/\True)/\(zak I,zf)=(bo ze (jC o x),zf)/\True)/\∀K:Nat,K<=zam->((decide (zg K<(↑zam:Int)))=true->(zh K/\zg K<(↑zam:Int))/\(((nth bD zx K).2.1 == (1:Int))=true->True/\bb zan+bb (zao K)<=aM/\bb (zan++zao K)+zai<=aM/\True/\bb (zan++zao K++zah)+bb (zap K)<=aM/\bb (zaq K)+zk<=aM/\(zl/\zn/\zas K+bb (zaq K++zj)<=(140737488355328:Nat))/\(zq K->zr->zt K/\∃(x':Nat),x'<=zam/\zam-x'<zam-K/\(zs K=(↑x':Int)/\True)/\(zar K++bo ze (zaq K++zj),zu)=(bo ze (jC o x'),zf)/\zy))/\(((nth bD zx K).2.1 == (1:Int))=false->(((nth bD zx K).2.1 == (2:Int))=true->True/\bb (zat K)+bb zau<=aM/\True/\bb (zat K++zau)+bb (zao K)<=aM/\bb (zat K++zau++zao K)+zai<=aM/\True/\bb (zav K)+bb (zap K)<=aM/\bb (zav K++zap K)+zai<=aM/\bb (zav K++zap K++zah)+bb (zaw K)<=aM/\bb (zax K)+zk<=aM/\(zl/\zn/\zas K+bb (zax K++zj)<=(140737488355328:Nat))/\(zq K->zr->zt K/\∃(x':Nat),x'<=zam/\zam-x'<zam-K/\(zs K=(↑x':Int)/\True)/\(zar K++bo ze (zax K++zj),zu)=(bo ze (jC o x'),zf)/\zy))/\(((nth bD zx K).2.1 == (2:Int))=false->True/\bb (zat K)+bb zay<=aM/\True/\bb (zat K++zay)+bb (zao K)<=aM/\bb (zat K++zay++zao K)+zai<=aM/\True/\bb (zaz K)+bb (zap K)<=aM/\bb (zaz K++zap K)+zai<=aM/\bb (zaz K++zap K++zah)+bb (zaw K)<=aM/\bb (zba K)+zk<=aM/\(zl/\zn/\zas K+bb (zba K++zj)<=(140737488355328:Nat))/\(zq K->zr->zt K/\∃(x':Nat),x'<=zam/\zam-x'<zam-K/\(zs K=(↑x':Int)/\True)/\(zar K++bo ze (zba K++zj),zu)=(bo ze (jC o x'),zf)/\zy))))/\((decide (zg K<(↑zam:Int)))=false->(zl/\zn)/\((decide ((↑(zas K):Int) > (1200:Int)))=true->([],aK.no (2:Int))=zb)/\((decide ((↑(zas K):Int) > (1200:Int)))=false->(zl/\zn)/\(bytesOf (zar K),aK.nil)=zb))))))) (by kernel_rfl) ?_
 dsimp -iota -proj -eta only;refine⟨ba,iB (fun h0=>(by rw[EY (fun e=>by rw[aQ.2 e]at h0;cases h0)])) (fun h0 h1=>⟨(⟨0,by omega,⟨rfl,ba⟩,rfl,ba⟩),fun F q_0=>iL (fun h2=>⟨?a,?b,?c,?d,fun h3 h4=>⟨?e,(⟨F+1,by omega,by omega,⟨by omega,ba⟩,oQ (PS (by omega)),(by trivial)⟩)⟩⟩) (fun h2 h3=>⟨(⟨0,by omega,⟨rfl,ba⟩,AV (by rw[PV,show F=o.1.length by omega]),ba⟩),fun G q_1=>iL (fun h4=>⟨?f,ba,?g,?h,?i,fun h5 h6=>⟨?j,(⟨G+1,by omega,by omega,⟨by omega,ba⟩,oQ (PT (by omega)),(by trivial)⟩)⟩⟩) (fun h4 h5=>⟨(⟨0,by omega,⟨rfl,ba⟩,AV (by rw[PW,show G=o.2.1.length by omega]),ba⟩),fun I q_2=>iL (fun h6=>⟨?k,ba,?l,?m,?n,ba,?o,?p,?q,fun h7 h8=>⟨?r,(⟨I+1,by omega,by omega,⟨by omega,ba⟩,oQ (PU (by omega)),(by trivial)⟩)⟩⟩) (fun h6 h7=>⟨(⟨0,by omega,⟨rfl,ba⟩,AV (by rw[PX,show I=o.2.2.1.length by omega]),ba⟩),fun K q_3=>iL (fun h8=>⟨?s,iQ (fun h9=>⟨ba,?t,?u,ba,?v,?w,?x,fun h10 h11=>⟨?y,(⟨K+1,by omega,by omega,⟨by omega,ba⟩,oQ (Nb (by omega) h9),(by trivial)⟩)⟩⟩) (fun h9=>iQ (fun h10=>⟨ba,?z,ba,?a0,?a1,ba,?a2,?a3,?a4,?a5,?a6,fun h11 h12=>⟨?a7,(⟨K+1,by omega,by omega,⟨by omega,ba⟩,oQ (Nc (by omega) h9 h10),(by trivial)⟩)⟩⟩) (fun h10=>⟨ba,?a8,ba,?a9,?aa,ba,?ab,?ac,?ad,?ae,?af,fun h11 h12=>⟨?ag,(⟨K+1,by omega,by omega,⟨by omega,ba⟩,oQ (Nd (by omega) h9 h10),(by trivial)⟩)⟩⟩))⟩) (fun h8=>⟨?ah,iL (fun h9=>(by rw[Co (aQ.1 h0) (show K=_ by omega) (by simp only[bz]at h9;omega)])) (fun h9=>⟨?ai,(by rw[vw (aQ.1 h0) (show K=_ by omega) (by simp only[bz]at h9;omega)];exact congrArg (·,aK.nil) (vp _))⟩)⟩)⟩)⟩)⟩)⟩)⟩
 case a|f|k|s=>omega
 case b|c=>have a:=EW (ng (aQ.1 h0)) (i:=F) (by omega);simp only[bt,bx,b3,bz,aM];omega
 case d|i|q|x|a6|af=>exact⟨rfl,rfl,by first|(have a:=HX (ng (aQ.1 h0)) (i:=K) (by omega);simp only[bt,bx,b3,bz,aM];omega)|(have a:=HW (ng (aQ.1 h0)) (i:=I) (by omega);simp only[bt,bx,b3,bz,aM];omega)|(have a:=EX (ng (aQ.1 h0)) (i:=G) (by omega);simp only[bt,bx,b3,bz,aM];omega)|(have a:=EW (ng (aQ.1 h0)) (i:=F) (by omega);simp only[bt,bx,b3,bz,aM];omega)⟩
 case e|j|r|y|a7|ag=>simp only[aJ,aM]at*;omega
 case g|h=>have a:=EX (ng (aQ.1 h0)) (i:=G) (by omega);simp only[bt,bx,b3,bz,aM];omega
 case l|m|n|o|p=>have a:=HW (ng (aQ.1 h0)) (i:=I) (by omega);simp only[bt,bx,b3,bz,aM];omega
 case t|u|v|w|z|a0|a1|a2|a3|a4|a5|a8|a9|aa|ab|ac|ad|ae=>have a:=HX (ng (aQ.1 h0)) (i:=K) (by omega);simp only[bt,bx,b3,bz,aM];omega
 case ah|ai=>trivial
def Tryz.Ur:bW Tryz.prog Tryz.B.eT Tryz.X 54 [aB] [.str,.err] (fun _=>True) (fun x y=>y=(fun o=>ku o) x):=
 cD (B:=(nF Tryz.B [41,64,91,85,104,110,123,129])) (X:=Tryz.X) (bP.hint (l:=[41,64,91,85,104,110,123,129]) Tryz.Ox) Tryz.func54 (by kernel_rfl) (fun x=>Js x) (fun x hw hp=>Uq x hw)
def Tryz.Jt:List (FuncId×(Bool×aT)):=[(84,Tryz.spZ2),(103,Tryz.spZ14),(81,Tryz.spZ15),(52,Tryz.spZ16),(51,Tryz.spZ17),(54,(true,cC [aB] [.str,.err] (fun _=>True) (fun o=>ku o))),(53,(false,aX Tryz.o7 [.obj 0,.d .str,.obj 5] (fun a x=>a.1.length<=1000000/\x.2.1.length<=1000000/\x.2.2.1.length<=1000000/\x.2.2.2.1.length<=1000000/\x.2.2.2.2.1.length<=1000000) Tryz.Bt))]
def Tryz.Oy:bP Tryz.prog Tryz.B Tryz.X Tryz.Jt:=
 aO (aE Tryz.oU) (aO (aE Tryz.sw) (aO (aE Tryz.nu) (aO (aE Tryz.mv) (aO (aE Tryz.sx) (aO (aE Tryz.Ur) (aO (Tryz.Um) (bR Tryz.bQ)))))))
def Ju(s:List UInt8):dX:=[(200000,fun st=>{X:=Nat×D aB×Bool,inv:=fun x=>lG (parts 10 (br s [10])) x.1 x.2.1 x.2.2,cB:=fun x=>bb (parts 10 (br s [10]))-x.1,bM:=fun x=>[(19,sI x.1)],keep:=[0,2,3,4,5,17,18],aN:=Tryz.o7,refs:=[(4,0),(5,5)],pd:=fun x=>P9 x.2})]
def RQ(s:List UInt8)(hw:gM [.str] s):(dL Tryz.B Tryz.Jt Tryz.f35 (Ju s) [.str] [aB,.err] (fun x y=>y=(fun s=>oq s) x) s).holds:=by
 refine holds_of (p:=
  let za:=([],[],[],[],())
  let zb:=oq s
  let zc:=br s [(10:UInt8)]
  let zd:=parts (10:UInt8) zc
  let ze:=@bc (List UInt8)=@bc (List UInt8)
  let zf:=@bc Int=@bc Int
  let zg:=@bc (List UInt8×Int×Bool×Unit)=@bc (List UInt8×Int×Bool×Unit)
  let zh:=@bc (Int×Int×Int×List UInt8×Bool×Unit)=@bc (Int×Int×Int×List UInt8×Bool×Unit)
  let zi:=List UInt8
  let zj:=Nat×(List zi×List Int×List (zi×Int×Bool×Unit)×List (Int×Int×Int×zi×Bool×Unit)×Unit)×Bool
  let zk:=(ze/\zf/\zg/\zh/\True)/\zh/\zg/\zf/\ze/\True
  let zl:=!false
  let zm:=(zl&&(zl&&(zl&&(zl&&(zl&&true)))))=true
  let zn:=fun(F:Nat×(List (List UInt8)×List Int×List (List UInt8×Int×Bool×Unit)×List (Int×Int×Int×List UInt8×Bool×Unit)×Unit)×Bool)=>(↑F.1:Int)<(↑(bb zd):Int)
  let zo:=fun(F:Nat×(List (List UInt8)×List Int×List (List UInt8×Int×Bool×Unit)×List (Int×Int×Int×List UInt8×Bool×Unit)×Unit)×Bool)=>F.2.1.2.2.1
  let zp:=fun(F:Nat×(List (List UInt8)×List Int×List (List UInt8×Int×Bool×Unit)×List (Int×Int×Int×List UInt8×Bool×Unit)×Unit)×Bool)=>F.2.1.2.2.2.1
  let zq:=fun(F:Nat×(List (List UInt8)×List Int×List (List UInt8×Int×Bool×Unit)×List (Int×Int×Int×List UInt8×Bool×Unit)×Unit)×Bool)=>gJ (Ts ((),F.2.1.1,F.2.1.2.1,zo F,zp F,(F.2.2,()),())) F.2.2 (nth Ty.str zd F.1)
  let zr:=fun(F:Nat×(List (List UInt8)×List Int×List (List UInt8×Int×Bool×Unit)×List (Int×Int×Int×List UInt8×Bool×Unit)×Unit)×Bool)=>(zq F).1.2.2.2.1
  let zs:=(za,aK.no 4)=zb
  bb s<=aM->((decide ((↑(bb s):Int) > 1200))=true->(za,aK.no 2)=zb)/\((decide ((↑(bb s):Int) > 1200))=false->True/\(bb zc<4294967281/\bb [(10:UInt8)]=1)/\(bb zd<=aM->(ze/\zf/\zg/\zh/\∃(x':zj),lG zd (bh x') (bg x').1 (bg x').2/\True/\(0=(↑(bh x'):Int)/\True)/\zk/\zm/\((),[],[],[],[],(false,()),())=P9 (bg x'))/\∀F:Nat×(List (List UInt8)×List Int×List (List UInt8×Int×Bool×Unit)×List (Int×Int×Int×List UInt8×Bool×Unit)×Unit)×Bool,lG zd F.1 F.2.1 F.2.2->((decide (zn F))=true->(0<=(↑F.1:Int)/\zn F)/\F.2.1.1=F.2.1.1/\F.2.1.2.1=F.2.1.2.1/\zo F=zo F/\zp F=zp F/\(bb (nth Ty.str zd F.1)<=1000000/\bb F.2.1.1<=1000000/\bb F.2.1.2.1<=1000000/\bb (zo F)<=1000000/\bb (zp F)<=1000000)/\(True->aJ (↑F.1:Int)->aJ 1->aJ ((↑F.1:Int)+1)/\(zq F).1.1=(zq F).1.1/\(zq F).1.2.1=(zq F).1.2.1/\(zq F).1.2.2.1=(zq F).1.2.2.1/\zr F=zr F/\∃(x':zj),lG zd (bh x') (bg x').1 (bg x').2/\bb zd-bh x'<bb zd-F.1/\((↑F.1:Int)+1=(↑(bh x'):Int)/\True)/\zk/\zm/\((),(zq F).1.1,(zq F).1.2.1,(zq F).1.2.2.1,zr F,((zq F).2,()),())=P9 (bg x')))/\((decide (zn F))=false->True/\((F.2.2)=true->zs)/\((F.2.2)=false->((!aK.isNil (ku F.2.1).2)=true->zs)/\((!aK.isNil (ku F.2.1).2)=false->((!(ku F.2.1).1 == s)=true->zs)/\((!(ku F.2.1).1 == s)=false->(F.2.1,aK.nil)=zb))))))) (by kernel_rfl) ?_
 dsimp -iota -proj -eta only;refine fun h0=>iL (fun h1=>(Ny (by omega))) (fun h1=>⟨ba,(by have:=yE s [10];exact⟨by omega,rfl⟩),fun h2=>⟨(⟨rfl,rfl,rfl,rfl,(0,bY aB,false),lG.zero _,ba,⟨rfl,ba⟩,⟨⟨rfl,rfl,rfl,rfl,ba⟩,rfl,rfl,rfl,rfl,ba⟩,rfl,rfl⟩),fun F q_0=>iL (fun h3=>⟨(by omega),rfl,rfl,rfl,rfl,?a,fun h4 h5 h6=>⟨(by simp only[aJ,aM]at*;omega),(by exact⟨rfl,rfl,rfl,rfl,(F.1+1,gJ F.2.1 F.2.2 (nth .str (parts 10 (br s [10])) F.1)),q_0.next (by omega),by simp only;omega,⟨by simp only;omega,ba⟩,(by trivial),rfl,rfl⟩)⟩⟩) (fun h3=>⟨ba,⟨fun h4=>(xK q_0 (by omega) (by omega) (.inl h4)),fun h4=>iB (fun h5=>(xK q_0 (by omega) (by omega) (.inr (.inl h5)))) (fun h5=>⟨fun h6 =>?b,fun h6 =>?c⟩)⟩⟩)⟩⟩)
 case a=>
  have hf:=Qb s (by omega);have a0:=q_0.le;have a1:=q_0.l1;have a2:=q_0.l2;have a3:=q_0.l3;have a4:=q_0.l4;exact⟨b4 (Nz (by omega) _) (by decide),by omega,by omega,by omega,by omega⟩
 case b=>
  simp only[bl,reduceCtorEq]at h6;exact xK q_0 (by omega) (by omega) (.inr (.inr h6))
 case c=>
  simp only[bl,reduceCtorEq]at h6;exact Tu (by omega) ‹aK.isNil _=true› h6
def Tryz.FW:bW Tryz.prog Tryz.B.eT Tryz.X 35 [.str] [aB,.err] (fun _=>True) (fun x y=>y=(fun s=>oq s) x):=
 cD (X:=Tryz.X) Tryz.Oy Tryz.func35 (by kernel_rfl) (fun x=>Ju x) (fun x hw hp=>RQ x hw)
def Tryz.spZ27:Bool×aT:=(false,aX Tryz.aU [.obj 0,.d .str] (fun _ _=>True) Tryz.x5)
def Tryz.spZ28:Bool×aT:=(true,cC [.str] [aB,.err] (fun _=>True) (fun s=>oq s))
def Tryz.RR:List (FuncId×(Bool×aT)):=[(13,Tryz.spZ27),(35,Tryz.spZ28),(36,Tryz.spZ26)]
def Tryz.Us:bP Tryz.prog Tryz.B Tryz.X Tryz.RR:=
 aO (Tryz.sy) (aO (aE Tryz.FW) (aO (aE Tryz.x6) (bR Tryz.bQ)))
def Tryz.RT(s:List UInt8)(f:cG):dX:=[
 (0,fun st=>{X:=Nat×List (List UInt8)×List (D aB),inv:=fun y=>ld (aL f) s y.1 y.2.1 y.2.2,cB:=fun y=>7-y.1,bM:=fun y=>[(9,sI y.1),(7,.s (.one (.app .str y.2.1 (bJ st 7)))),(8,.s (.one (.app aB y.2.2 (bJ st 8))))],aF:=fun y=>[(bJ st 7,.tok .str y.2.1),(bJ st 8,.tok aB y.2.2)],keep:=[0],ib:=[bJ st 7,bJ st 8]}),
 (2,fun st=>{X:=Nat,inv:=fun k=>k<=bb (cY (.slice .str) st 50),cB:=fun k=>bb (cY (.slice .str) st 50)-k,bM:=fun k=>[(52,sI k),(7,.s (.one (.app .str (gF (cY (.slice .str) st 7) (bd k (cY (.slice .str) st 50))) (bJ st 7))))],aF:=fun k=>[(bJ st 7,.tok .str (gF (cY (.slice .str) st 7) (bd k (cY (.slice .str) st 50))))],keep:=[0,4,5,6,8,9,10,12,13,18,19,20,21,24,25,26,27,28,29,30,31,32,33,34,35,36,37,38,39,40,41,42,43,44,45,46,47,48,49,50,51],ib:=[bJ st 7]})]
def Tryz.D0:List (Alt Tryz.aU [.obj 0,.d .str]):=[{bO:=Tryz.aU,res:=[.d (.slice .str),.d (.slice aB),.d .err],out:=fun _ x=>x,ret:=fun a x=>((bF (aL x) a.1).1,(bF (aL x) a.1).2.1,aI (bF (aL x) a.1).2.2,())}]
def KY(s:List UInt8)(f:cG)(hw:hU [.obj 0,.d .str] (s,()))(hp:(fun _ x=>x.2.1.1.length<=6) (s,()) f):(dA (nF Tryz.B [17]) Tryz.RR Tryz.f12 (Tryz.RT s f) Tryz.aU [.obj 0,.d .str] Tryz.D0 (s,()) f).holds:=by
 refine holds_of (p:=
  let za:=List UInt8
  let zb:=Nat×List za×List (List za×List Int×List (za×Int×Bool×Unit)×List (Int×Int×Int×za×Bool×Unit)×Unit)
  let zc:=aL f
  let zd:=fun(F:Nat×List (List UInt8)×List (List (List UInt8)×List Int×List (List UInt8×Int×Bool×Unit)×List (Int×Int×Int×List UInt8×Bool×Unit)×Unit))=>(↑F.1:Int)<(↑(bb F.2.1):Int)
  let ze:=fun(F:Nat×List (List UInt8)×List (List (List UInt8)×List Int×List (List UInt8×Int×Bool×Unit)×List (Int×Int×Int×List UInt8×Bool×Unit)×Unit))=>aL f (nth Ty.str F.2.1 F.1)
  let zf:=bF zc s
  let zg:=(zf.1,zf.2.1,aI zf.2.2,())
  let zh:=fun(F:Nat×List (List UInt8)×List (List (List UInt8)×List Int×List (List UInt8×Int×Bool×Unit)×List (Int×Int×Int×List UInt8×Bool×Unit)×Unit))=>(cW (ze F).1).1.1
  let zi:=fun(F:Nat×List (List UInt8)×List (List (List UInt8)×List Int×List (List UInt8×Int×Bool×Unit)×List (Int×Int×Int×List UInt8×Bool×Unit)×Unit))=>bb (zh F)
  let zj:=fun(F:Nat×List (List UInt8)×List (List (List UInt8)×List Int×List (List UInt8×Int×Bool×Unit)×List (Int×Int×Int×List UInt8×Bool×Unit)×Unit)) (G:Nat)=>gF F.2.1 (bd G (zh F))
  let zk:=aJ 1
  let zl:=fun(G:Nat)=>(↑G:Int)+1
  let zm:=@bc (List UInt8)=@bc (List UInt8)
  let zn:=C.eW 1=C.eW 1/\f.1.1=f.1.1/\True
  let zo:=f.2.1=f.2.1
  let zp:=fun(F:Nat×List (List UInt8)×List (List (List UInt8)×List Int×List (List UInt8×Int×Bool×Unit)×List (Int×Int×Int×List UInt8×Bool×Unit)×Unit))=>F.2.2++[(cW (ze F).1).1]
  let zq:=@bc (List (List UInt8)×List Int×List (List UInt8×Int×Bool×Unit)×List (Int×Int×Int×List UInt8×Bool×Unit)×Unit)=@bc (List (List UInt8)×List Int×List (List UInt8×Int×Bool×Unit)×List (Int×Int×Int×List UInt8×Bool×Unit)×Unit)
  let zr:=fun(F:Nat×List (List UInt8)×List (List (List UInt8)×List Int×List (List UInt8×Int×Bool×Unit)×List (Int×Int×Int×List UInt8×Bool×Unit)×Unit))=>(zh F=zh F/\(cW (ze F).1).1.2.1=(cW (ze F).1).1.2.1/\(cW (ze F).1).1.2.2.1=(cW (ze F).1).1.2.2.1/\(cW (ze F).1).1.2.2.2.1=(cW (ze F).1).1.2.2.2.1/\True)/\@bc (Int×Int×Int×List UInt8×Bool×Unit)=@bc (Int×Int×Int×List UInt8×Bool×Unit)/\@bc (List UInt8×Int×Bool×Unit)=@bc (List UInt8×Int×Bool×Unit)/\@bc Int=@bc Int/\zm/\zn/\zo/\zp F=zp F/\zq/\zm/\True
  (∃(x:zb),ld zc s (bh x) (bg x).1 (bg x).2/\(0=(↑(bh x):Int)/\[s]=(bg x).1/\@bc (List (List UInt8)×List Int×List (List UInt8×Int×Bool×Unit)×List (Int×Int×Int×List UInt8×Bool×Unit)×Unit)=(bg x).2/\True)/\[s]=(bg x).1/\@bc (List (List UInt8)×List Int×List (List UInt8×Int×Bool×Unit)×List (Int×Int×Int×List UInt8×Bool×Unit)×Unit)=(bg x).2/\True)/\∀F:Nat×List (List UInt8)×List (List (List UInt8)×List Int×List (List UInt8×Int×Bool×Unit)×List (Int×Int×Int×List UInt8×Bool×Unit)×Unit),ld zc s F.1 F.2.1 F.2.2->bb F.2.1<=aM->((decide (zd F))=true->(0<=(↑F.1:Int)/\zd F)/\True/\(True->((!aK.isNil (aI (ze F).2.2))=true->True/\f=f/\([],[],aI (ze F).2.2,())=zg)/\((!aK.isNil (aI (ze F).2.2))=false->True/\((!aK.isNil (aI (cW (ze F).1).2))=true->True/\f=f/\([],[],aI (cW (ze F).1).2,())=zg)/\((!aK.isNil (aI (cW (ze F).1).2))=false->(F.2.2=F.2.2/\bb F.2.2+bb [(cW (ze F).1).1]<=1000000000)/\(zi F<=aM->(∃(x:Nat),x<=zi F/\(0=(↑x:Int)/\F.2.1=gF F.2.1 (bd x (zh F))/\True)/\F.2.1=gF F.2.1 (bd x (zh F))/\True)/\∀G:Nat,G<=zi F->((decide ((↑G:Int)<(↑(zi F):Int)))=true->(0<=(↑G:Int)/\(↑G:Int)<(↑(zi F):Int))/\True/\((!da (zj F G) fun(x:za)=>x == nth Ty.str (zh F) G)=true->(zj F G=zj F G/\bb (zj F G)+bb [nth Ty.str (zh F) G]<=1000000000)/\(aJ (↑G:Int)->zk->aJ (zl G)/\∃(x':Nat),x'<=zi F/\zi F-x'<zi F-G/\(zl G=(↑x':Int)/\zj F G++[nth Ty.str (zh F) G]=gF F.2.1 (bd x' (zh F))/\True)/\zj F G++[nth Ty.str (zh F) G]=gF F.2.1 (bd x' (zh F))/\zr F))/\((!da (zj F G) fun(x:za)=>x == nth Ty.str (zh F) G)=false->aJ (↑G:Int)->zk->aJ (zl G)/\∃(x':Nat),x'<=zi F/\zi F-x'<zi F-G/\(zl G=(↑x':Int)/\zj F G=gF F.2.1 (bd x' (zh F))/\True)/\zj F G=gF F.2.1 (bd x' (zh F))/\zr F))/\((decide ((↑G:Int)<(↑(zi F):Int)))=false->aJ (↑F.1:Int)->zk->aJ ((↑F.1:Int)+1)/\∃(x':zb),ld zc s (bh x') (bg x').1 (bg x').2/\7-bh x'<7-F.1/\((↑F.1:Int)+1=(↑(bh x'):Int)/\zj F G=(bg x').1/\zp F=(bg x').2/\True)/\zj F G=(bg x').1/\zp F=(bg x').2/\zq/\zm/\zn/\zo/\True))))))/\((decide (zd F))=false->True/\f=f/\(F.2.1,F.2.2,aK.nil,())=zg)) (by kernel_rfl) ?_
 dsimp -iota -proj -eta only;refine⟨(⟨(0,[s],[]),ld.zero _ _,⟨rfl,rfl,rfl,ba⟩,(by trivial)⟩),fun F q_0 h0=>iL (fun h1=>⟨?a,ba,fun h2=>iB (fun h3=>(by rw[q_0.Tv (jD hp) (by omega) (fun e=>by rw[aQ.2 e]at h3;cases h3)];exact⟨ba,rfl,rfl⟩)) (fun h3=>⟨ba,iB (fun h4=>(by rw[q_0.VE (by omega) (aQ.1 h3) (fun e=>by rw[aQ.2 e]at h4;cases h4)];exact⟨ba,rfl,rfl⟩)) (fun h4=>⟨⟨rfl,q_0.XN⟩,fun h5=>⟨(⟨0,b7 _,⟨rfl,rfl,ba⟩,rfl,ba⟩),fun G q_1=>iL (fun h6=>⟨?b,ba,iB (fun h7=>⟨⟨rfl,q_0.WW (jD hp) (DF (aQ.1 h3) (aQ.1 h4)) _⟩,fun h8 h9=>⟨?c,(⟨G+1,by omega,by omega,⟨by omega,LF (by omega) ‹_›,ba⟩,LF (by omega) ‹_›,(by trivial)⟩)⟩⟩) (fun h7 h8 h9=>⟨?d,(⟨G+1,by omega,by omega,⟨by omega,LG (by omega) ‹_›,ba⟩,LG (by omega) ‹_›,(by trivial)⟩)⟩)⟩) (fun h6 h7 h8=>⟨?e,(by exact⟨(F.1+1,_,_),q_0.next (jD hp) (by omega) (DF (aQ.1 h3) (aQ.1 h4)),by have:=q_0.room (jD hp) (by omega) (DF (aQ.1 h3) (aQ.1 h4));simp only;omega,⟨by simp only;omega,LH (by omega),rfl,ba⟩,LH (by omega),rfl,(by trivial)⟩)⟩)⟩⟩)⟩)⟩) (fun h1=>(by rw[q_0.done (by omega)];exact⟨ba,rfl,rfl⟩))⟩
 case a|b=>omega
 case c|d|e=>simp only[aJ,aM]at*;omega
def Tryz.KZ:bX Tryz.prog Tryz.B.eT Tryz.X 12 false (aX Tryz.aU [.obj 0,.d .str] (fun _ x=>x.2.1.1.length<=6) Tryz.D0):=
 bH (B:=(nF Tryz.B [17])) (X:=Tryz.X) (bP.hint (l:=[17]) Tryz.Us) Tryz.func12 (by kernel_rfl) (fun(a:CD [.obj 0,.d .str]) (x:PD Tryz.aU)=>Tryz.RT a.1 x) (fun(a:CD [.obj 0,.d .str]) (x:PD Tryz.aU) hw hp=>KY a.1 x hw hp)
def Ut(n:Int)(hw:gM [.int .i64] n)(hp:(fun n=>0<=n/\n<=1000000) n):(dL Tryz.B [] Tryz.f91 [] [.int .i64] [.int .i64] (fun x y=>y=(fun n=>cM n) x) n).holds:=by
 refine holds_of (p:=
  let za:=aJ (16:Int)
  let zb:=aJ (n+(16:Int))
  let zc:=n+(16:Int)-(1:Int)
  aJ n->za->zb/\(zb->aJ (1:Int)->aJ zc/\(16:Int)≠(0:Int)/\∀F:Int,F=Int.tdiv zc (16:Int)->aJ zc->za->aJ F/\∀G:Int,G=F*(16:Int)->aJ F->za->aJ G/\G=cM n)) (by kernel_rfl) ?_
 dsimp -iota -proj -eta only;refine fun h0 h1=>⟨?a,fun h2 h3=>⟨?b,(by omega),fun F q_0 h4 h5=>⟨?c,fun G q_1 h6 h7=>⟨?d,?e⟩⟩⟩⟩
 case a|b=>simp only[aJ]at*;omega
 case c|d|e=>subst_vars;rw[Int.tdiv_eq_ediv_of_nonneg (by omega)];(try unfold cM);(try simp only[aJ]);omega
def Tryz.Uu:bW Tryz.prog Tryz.B.eT Tryz.X 91 [.int .i64] [.int .i64] (fun n=>0<=n/\n<=1000000) (fun x y=>y=(fun n=>cM n) x):=
 cD (X:=Tryz.X) (bR Tryz.bQ) Tryz.func91 (by kernel_rfl) (fun _=>[]) (fun x hw hp=>Ut x hw hp)
def Uv(a:Int×Int×Unit)(b:Int×Int×Unit)(hw:gM [aZ,aZ] (a,b))(hp:(fun x=>o1 x.1/\o1 x.2) (a,b)):(dL Tryz.B [] Tryz.f111 [] [aZ,aZ] [.bool] (fun x y=>y=(fun x=>iu x.1 x.2) x) (a,b)).holds:=by
 refine holds_of (p:=
  let za:=true=iu a b
  let zb:=a.1+a.2.1
  let zc:=b.1+b.2.1
  ((decide (a.2.1<=0))=true->za)/\((decide (a.2.1<=0))=false->((decide (b.2.1<=0))=true->za)/\((decide (b.2.1<=0))=false->aJ a.1->aJ a.2.1->aJ zb/\((decide (zb<=b.1))=true->za)/\((decide (zb<=b.1))=false->aJ b.1->aJ b.2.1->aJ zc/\decide (zc<=a.1)=iu a b)))) (by kernel_rfl) ?_
 dsimp -iota -proj -eta only;dsimp only at hp;simp only[o1]at hp;refine iE (fun h0 =>?a) (fun h0=>iE (fun h1 =>?b) (fun h1 h2 h3=>⟨?c,iE (fun h4 =>?d) (fun h4 h5 h6=>⟨?e,?f⟩)⟩))
 case a|b|d|f=>rw[dy];simp only[iu,Bool.or_eq_true,decide_eq_true_eq,true_iff];omega
 case c|e=>simp only[aJ]at*;omega
def Tryz.Jv:bW Tryz.prog Tryz.B.eT Tryz.X 111 [aZ,aZ] [.bool] (fun x=>o1 x.1/\o1 x.2) (fun x y=>y=(fun x=>iu x.1 x.2) x):=
 cD (X:=Tryz.X) (bR Tryz.bQ) Tryz.func111 (by kernel_rfl) (fun _=>[]) (fun x hw hp=>Uv x.1 x.2 hw hp)
def Tryz.spZ29:Bool×aT:=(true,cC [aZ,aZ] [.bool] (fun x=>o1 x.1/\o1 x.2) (fun x=>iu x.1 x.2))
def Tryz.FX:List (FuncId×(Bool×aT)):=[(111,Tryz.spZ29)]
def Tryz.K0:bP Tryz.prog Tryz.B Tryz.X Tryz.FX:=
 aO (aE Tryz.Jv) (bR Tryz.bQ)
def Tryz.Jw:List (FuncId×(Bool×aT)):=[(110,(false,gz Tryz.B Tryz.FX Tryz.f110 []))]
def Tryz.Oz:bP Tryz.prog Tryz.B Tryz.X Tryz.Jw:=
 aO (eV Tryz.K0 Tryz.func110 (by kernel_rfl) []) (bR Tryz.bQ)
def FY:dX:=[(0,fun st=>{X:=Nat,inv:=fun i=>i<=(cY (.slice aZ) st 0).length/\∀j,j<i->iu (SQ aZ st (MU st 1 0)) (nth aZ (cY (.slice aZ) st 0) j)=true,cB:=fun i=>(cY (.slice aZ) st 0).length-i,bM:=fun i=>[(8,sI i)],keep:=[0,1,7]})]
def Tryz.Jy:List (FuncId×(Bool×aT)):=[(126,(false,gz Tryz.B Tryz.Jw Tryz.f126 FY))]
def Tryz.OA:bP Tryz.prog Tryz.B Tryz.X Tryz.Jy:=
 aO (eV Tryz.Oz Tryz.func126 (by kernel_rfl) FY) (bR Tryz.bQ)
def Tryz.Jz:List (FuncId×(Bool×aT)):=[(109,(false,gz Tryz.B Tryz.Jy Tryz.f109 []))]
def Tryz.OB:bP Tryz.prog Tryz.B Tryz.X Tryz.Jz:=
 aO (eV Tryz.OA Tryz.func109 (by kernel_rfl) []) (bR Tryz.bQ)
def Wi(r:Int×Int×Unit)(l:List (D aZ))(hw:gM [aZ,.slice aZ] (r,l))(hp:(fun x=>o1 x.1/\∀y∈x.2,o1 y) (r,l)):(dL Tryz.B Tryz.Jz Tryz.f92 [] [aZ,.slice aZ] [.bool] (fun x y=>y=(fun x=>jg x.1 x.2) x) (r,l)).holds:=by
 refine holds_of (p:=
  let za:=bb l
  za<=aM->(∃(x:Nat),(x<=za/\∀(j:Nat),j<x->iu r (nth aZ l j)=true)/\(0=(↑x:Int)/\True)/\True)/\∀F:Nat,(F<=za/\∀(j:Nat),j<F->iu r (nth aZ l j)=true)->((decide ((↑F:Int)<(↑za:Int)))=true->(0<=(↑F:Int)/\(↑F:Int)<(↑za:Int))/\(o1 r/\o1 (nth aZ l F))/\((!iu r (nth aZ l F))=true->(!decide ((↑F:Int)>=0))=jg r l)/\((!iu r (nth aZ l F))=false->aJ (↑F:Int)->aJ 1->aJ ((↑F:Int)+1)/\∃(x':Nat),(x'<=za/\∀(j:Nat),j<x'->iu r (nth aZ l j)=true)/\za-x'<za-F/\((↑F:Int)+1=(↑x':Int)/\True)/\(r.1=r.1/\r.2.1=r.2.1/\True)/\True))/\((decide ((↑F:Int)<(↑za:Int)))=false->(!decide ((-1:Int)>=0))=jg r l)) (by kernel_rfl) ?_
 dsimp -iota -proj -eta only;dsimp only at hp;refine fun h0=>⟨?a,fun F q_0=>iL (fun h1=>⟨(by omega),⟨hp.1,hp.2 _ (dN (by omega))⟩,iB (fun h2=>(by rw[zE (j:=F) (by omega) h2];simp)) (fun h2 h3 h4=>⟨(by simp only[aJ,aM]at*;omega),(by exact⟨F+1,⟨by omega,fun j hj=>by by_cases e:j=F;(subst e;exact h2);exact q_0.2 j (by omega)⟩,by omega,⟨by omega,ba⟩,(by trivial)⟩)⟩)⟩) (fun h1=>(by rw[Cg fun j hj=>q_0.2 j (by omega)];simp))⟩
 case a=>refine⟨0,?_⟩;(repeat' (first|exact trivial|rfl|omega|assumption|apply dv))
def Tryz.Wj:bW Tryz.prog Tryz.B.eT Tryz.X 92 [aZ,.slice aZ] [.bool] (fun x=>o1 x.1/\∀y∈x.2,o1 y) (fun x y=>y=(fun x=>jg x.1 x.2) x):=
 cD (X:=Tryz.X) Tryz.OB Tryz.func92 (by kernel_rfl) (fun _=>[]) (fun x hw hp=>Wi x.1 x.2 hw hp)
def Tryz.JA:List (FuncId×(Bool×aT)):=[(45,Tryz.spZ0),(17,Tryz.spZ1),(91,(true,cC [.int .i64] [.int .i64] (fun n=>0<=n/\n<=1000000) (fun n=>cM n))),(111,Tryz.spZ29),(92,(true,cC [aZ,.slice aZ] [.bool] (fun x=>o1 x.1/\∀y∈x.2,o1 y) (fun x=>jg x.1 x.2)))]
def Tryz.OE:bP Tryz.prog Tryz.B Tryz.X Tryz.JA:=
 aO (aE Tryz.jt) (aO (aE Tryz.iw) (aO (aE Tryz.Uu) (aO (aE Tryz.Jv) (aO (aE Tryz.Wj) (bR Tryz.bQ)))))
def JB(s:List Int)(l:List (D aZ)):dX:=[
 (0,fun st=>{X:=Nat,inv:=fun i=>i<=s.length/\∀j,j<i->1<=(nth (.int .i64) s j:Int)/\(nth (.int .i64) s j:Int)<=40,cB:=fun i=>s.length-i,bM:=fun i=>[(26,sI i)],keep:=[0,1,24,25]}),
 (2,fun st=>{X:=Nat,inv:=fun i=>i<=l.length/\∀j,j<i->nR (nth aZ l j),cB:=fun i=>l.length-i,bM:=fun i=>[(40,sI i)],keep:=[0,1,38,39]}),
 (4,fun st=>{X:=Nat×List (D aZ)×List Int,inv:=fun x=>x.1<=s.length/\gW x.2.1 (s.drop x.1) x.2.2=gW l s []/\(∀y∈x.2.1,nR y)/\x.2.1.length=l.length+x.1/\x.2.2.length=x.1,cB:=fun x=>s.length-x.1,bM:=fun x=>[(68,sI x.1),(10,.s (.one (.app aZ x.2.1 (bJ st 10)))),(11,.s (.one (.app (.int .i64) x.2.2 (bJ st 11))))],aF:=fun x=>[(bJ st 10,.tok aZ x.2.1),(bJ st 11,.tok (.int .i64) x.2.2)],keep:=[66,67],ib:=[bJ st 10,bJ st 11]}),
 (6,fun st=>{X:=Nat,inv:=fun j=>j<=32/\gA (cY (.slice aZ) st 10) (Gy (.int .i64) st (bJ st 14) 1) (40-j) (16*(j:Int))=gA (cY (.slice aZ) st 10) (Gy (.int .i64) st (bJ st 14) 1) 40 0,cB:=fun j=>40-j,bM:=fun j=>[],aF:=fun j=>[(bJ st 14,.cells 181 [.d (.int .i64) (16*(j:Int)),.d (.int .i64) (Gy (.int .i64) st (bJ st 14) 1)])],keep:=[4,5,10,11,13,14,66,67,68,69,70,71,72,73,74],ib:=[bJ st 14]})]
def Uw(s:List Int)(l:List (D aZ))(hw:gM [.slice (.int .i64),.slice aZ] (s,l)):(dL (nF Tryz.B [65]) Tryz.JA Tryz.f62 (JB s l) [.slice (.int .i64),.slice aZ] [.slice (.int .i64),.err] (fun x y=>y=(fun x=>cN x) x) (s,l)).holds:=by
 refine holds_of (p:=
  let za:=bb s
  let zb:=za<=aM
  let zc:=(↑za:Int)
  let zd:=cN (s,l)
  let ze:=([],aK.no 2)=zd
  let zf:=bb l
  let zg:=Ty.int bm
  let zh:=fun(F:Nat)=>(↑F:Int)
  let zi:=([],aK.no 1)=zd
  let zj:=aJ 1
  let zk:=@bc Int=@bc Int/\True
  let zl:=Int×Int×Unit
  let zm:=Nat×List zl×List Int
  let zn:=gW l s (@bc Int)
  let zo:=fun(I:Nat×List (Int×Int×Unit)×List Int)=>cM (nth zg s I.1)
  let zp:=fun(I:Nat×List (Int×Int×Unit)×List Int)=>gA I.2.1 (zo I) 40 0
  let zq:=fun(K:Nat)=>16*zh K
  zb->((decide (zc > 6))=true->ze)/\((decide (zc > 6))=false->zf<=aM->((decide ((↑zf:Int) > 20))=true->ze)/\((decide ((↑zf:Int) > 20))=false->zb->(∃(x:Nat),(x<=za/\∀(j:Nat),j<x->1<=nth zg s j/\nth zg s j<=40)/\(0=(↑x:Int)/\True)/\True)/\∀F:Nat,(F<=za/\∀(j:Nat),j<F->1<=nth zg s j/\nth zg s j<=40)->((decide (zh F<zc))=true->(0<=zh F/\zh F<zc)/\((decide (nth zg s F<1))=true->zi)/\((decide (nth zg s F<1))=false->((decide (nth zg s F > 40))=true->zi)/\((decide (nth zg s F > 40))=false->aJ (zh F)->zj->aJ (zh F+1)/\∃(x':Nat),(x'<=za/\∀(j:Nat),j<x'->1<=nth zg s j/\nth zg s j<=40)/\za-x'<za-F/\(zh F+1=(↑x':Int)/\True)/\zk)))/\((decide (zh F<zc))=false->zf<=aM->(∃(x:Nat),(x<=zf/\∀(j:Nat),j<x->nR (nth aZ l j))/\(0=(↑x:Int)/\True)/\True)/\∀G:Nat,(G<=zf/\∀(j:Nat),j<G->nR (nth aZ l j))->((decide (zh G<(↑zf:Int)))=true->(0<=zh G/\zh G<(↑zf:Int))/\((decide ((nth aZ l G).1<0))=true->zi)/\((decide ((nth aZ l G).1<0))=false->((decide ((nth aZ l G).1 > 256))=true->zi)/\((decide ((nth aZ l G).1 > 256))=false->((decide ((nth aZ l G).2.1<0))=true->zi)/\((decide ((nth aZ l G).2.1<0))=false->((decide ((nth aZ l G).2.1 > 256))=true->zi)/\((decide ((nth aZ l G).2.1 > 256))=false->aJ (zh G)->zj->aJ (zh G+1)/\∃(x':Nat),(x'<=zf/\∀(j:Nat),j<x'->nR (nth aZ l j))/\zf-x'<zf-G/\(zh G+1=(↑x':Int)/\True)/\zk)))))/\((decide (zh G<(↑zf:Int)))=false->zf<=1000000000/\(zb->(∃(x:zm),(bh x<=za/\gW (bg x).1 (bj (bh x) s) (bg x).2=zn/\(∀(y:zl),y∈(bg x).1->nR y)/\bb (bg x).1=zf+bh x/\bb (bg x).2=bh x)/\(0=(↑(bh x):Int)/\l=(bg x).1/\@bc Int=(bg x).2/\True)/\l=(bg x).1/\@bc Int=(bg x).2/\True)/\∀I:Nat×List (Int×Int×Unit)×List Int,I.1<=za/\gW I.2.1 (bj I.1 s) I.2.2=zn/\(∀(y:zl),y∈I.2.1->nR y)/\bb I.2.1=zf+I.1/\bb I.2.2=I.1->((decide ((↑I.1:Int)<zc))=true->(0<=(↑I.1:Int)/\(↑I.1:Int)<zc)/\(0<=nth zg s I.1/\nth zg s I.1<=1000000)/\(∃(x:Nat),(x<=32/\gA I.2.1 (zo I) (40-x) (16*(↑x:Int))=zp I)/\True/\(0=16*(↑x:Int)/\zo I=zo I/\True)/\True)/\∀K:Nat,K<=32/\gA I.2.1 (zo I) (40-K) (zq K)=zp I->(o1 (zq K,zo I,())/\∀(y:zl),y∈I.2.1->o1 y)/\((!jg (zq K,zo I,()) I.2.1)=true->aJ (zq K)->aJ 16->aJ (zq K+16)/\∃(x':Nat),(x'<=32/\gA I.2.1 (zo I) (40-x') (16*(↑x':Int))=zp I)/\40-x'<40-K/\True/\(zq K+16=16*(↑x':Int)/\zo I=zo I/\True)/\I.2.1=I.2.1/\I.2.2=I.2.2/\zk)/\((!jg (zq K,zo I,()) I.2.1)=false->aJ (zq K)->aJ (zo I)->aJ (zq K+zo I)/\((decide (zq K+zo I > 256))=true->([],aK.no 8)=zd)/\((decide (zq K+zo I > 256))=false->(I.2.1=I.2.1/\bb I.2.1+bb [(zq K,zo I,())]<=1000000000)/\(I.2.2=I.2.2/\bb I.2.2+bb [zq K]<=1000000000)/\(aJ (↑I.1:Int)->zj->aJ ((↑I.1:Int)+1)/\∃(x':zm),(bh x'<=za/\gW (bg x').1 (bj (bh x') s) (bg x').2=zn/\(∀(y:zl),y∈(bg x').1->nR y)/\bb (bg x').1=zf+bh x'/\bb (bg x').2=bh x')/\za-bh x'<za-I.1/\((↑I.1:Int)+1=(↑(bh x'):Int)/\I.2.1++[(zq K,zo I,())]=(bg x').1/\I.2.2++[zq K]=(bg x').2/\True)/\I.2.1++[(zq K,zo I,())]=(bg x').1/\I.2.2++[zq K]=(bg x').2/\zk))))/\((decide ((↑I.1:Int)<zc))=false->(I.2.2,aK.nil)=zd))))))) (by kernel_rfl) ?_
 dsimp -iota -proj -eta only;refine fun h0=>iL (fun h1 =>?a) (fun h1 h2=>iL (fun h3 =>?b) (fun h3 h4=>⟨?c,fun F q_0=>iL (fun h5=>⟨?d,iL (fun h6 =>?e) (fun h6=>iL (fun h7 =>?f) (fun h7 h8 h9=>⟨?g,(by(try dsimp only[D]at*);exact⟨F+1,⟨by omega,fun j hj=>by by_cases e:j=F;(subst e;(try dsimp only[D]);omega);exact q_0.2 j (by omega)⟩,by omega,⟨by omega,ba⟩,(by trivial)⟩)⟩))⟩) (fun h5 h6=>⟨?h,fun G q_1=>iL (fun h7=>⟨?i,iL (fun h8 =>?j) (fun h8=>iL (fun h9 =>?k) (fun h9=>iL (fun h10 =>?l) (fun h10=>iL (fun h11 =>?m) (fun h11 h12 h13=>⟨?n,(by(try dsimp only[D]at*);exact⟨G+1,⟨by omega,fun j hj=>by by_cases e:j=G;(subst e;unfold nR;(try dsimp only[D]);omega);exact q_1.2 j (by omega)⟩,by omega,⟨by omega,ba⟩,(by trivial)⟩)⟩))))⟩) (fun h7=>⟨?o,fun h8=>⟨(⟨(0,l,[]),⟨b7 _,rfl,(fun y (hy:y∈l)=>by obtain⟨i,hi,e⟩:=gV (t:=aZ) hy;rw[<-e];exact q_1.2 i (by omega)),rfl,rfl⟩,(by trivial),(by trivial)⟩),fun I q_2=>iL (fun h9=>⟨?p,(by have:=q_0.2 I.1 (by omega);(try dsimp only[D]at*);omega),?q,fun K q_3=>⟨?r,iB (fun h10 h11 h12=>⟨?s,?t⟩) (fun h10 h11 h12=>⟨?u,iL (fun h13 =>?v) (fun h13=>⟨?w,?x,fun h14 h15=>⟨?y,?z⟩⟩)⟩)⟩⟩) (fun h9=>(by rw[xe (by omega) (fun j hj=>q_0.2 j (by omega)) (fun j hj=>q_1.2 j (by omega)),<-q_2.2.1,Ke (by omega)]))⟩⟩)⟩)⟩))
 case a|b=>rw[zF (by omega)]
 case c|h|q=>refine⟨0,?_⟩;(repeat' (first|exact trivial|rfl|omega|assumption|apply dv))
 case d|i|o|p=>omega
 case e|f=>(try dsimp only[D]at*);rw[zG (by omega) (i:=F) (by omega) (by(try dsimp only[D]);omega)]
 case g|n|s|y=>simp only[aJ,aM]at*;omega
 case j|k|l|m=>(try dsimp only[D]at*);rw[xc (by omega) (i:=G) (by omega) (by unfold nR;(try dsimp only[D]);omega)]
 case r=>
  have hs:=q_0.2 I.1 (by omega);have hr:=lz hs.1 hs.2;exact⟨by refine⟨?_,?_,?_,?_⟩ <;> simp only <;> omega,fun y hy=>(q_2.2.2.1 y hy).o1⟩
 case t=>
  have hf:jg (16*(K:Int),cM (nth (.int .i64) s I.1),()) I.2.1=false:=by assumption
  have hn:=Pw q_2.2.2.1 hf;exact⟨K+1,⟨by omega,by rw[<-q_3.2,show 40-K=(40-(K+1))+1 by omega,EF hf,show 16*((K+1:Nat):Int)=16*(K:Int)+16 by omega]⟩,by omega,ba,⟨by omega,rfl,ba⟩,(by trivial)⟩
 case u=>
  have hs:=q_0.2 I.1 (by omega);have hr:=lz hs.1 hs.2;have hf:jg (16*(K:Int),cM (nth (.int .i64) s I.1),()) I.2.1=true:=by assumption
  have hb:=q_3.2.symm.trans (qv hf);simp only[aJ];omega
 case v=>
  have hs:=q_0.2 I.1 (by omega);have hr:=lz hs.1 hs.2;have hf:jg (16*(K:Int),cM (nth (.int .i64) s I.1),()) I.2.1=true:=by assumption
  have hb:=q_3.2.symm.trans (qv hf);rw[xe (by omega) (fun j hj=>q_0.2 j (by omega)) (fun j hj=>q_1.2 j (by omega)),<-q_2.2.1,sd (by omega),if_pos (by rw[hb];omega)]
 case w|x=>simp only[bw,true_and];omega
 case z=>
  have hs:=q_0.2 I.1 (by omega);have hr:=lz hs.1 hs.2;have hf:jg (16*(K:Int),cM (nth (.int .i64) s I.1),()) I.2.1=true:=by assumption
  have hb:=q_3.2.symm.trans (qv hf);exact⟨(I.1+1,_,_),⟨by omega,by rw[<-q_2.2.1,sd (k:=I.1) (by omega),if_neg (by rw[hb];omega),hb],SX q_2.2.2.1 (by refine⟨?_,?_,?_,?_⟩ <;> simp only <;> omega),by simp only[bt,bw];omega,by simp only[bt,bw];omega⟩,by simp only;omega,⟨by simp only;omega,rfl,rfl,ba⟩,(by trivial)⟩
def Tryz.Ux:bW Tryz.prog Tryz.B.eT Tryz.X 62 [.slice (.int .i64),.slice aZ] [.slice (.int .i64),.err] (fun _=>True) (fun x y=>y=(fun x=>cN x) x):=
 cD (B:=(nF Tryz.B [65])) (X:=Tryz.X) (bP.hint (l:=[65]) Tryz.OE) Tryz.func62 (by kernel_rfl) (fun x=>JB x.1 x.2) (fun x hw hp=>Uw x.1 x.2 hw)
def JC(a:List Int)(b:List Int):dX:=[(0,fun st=>{X:=Nat,inv:=fun i=>i<=a.length/\∀j,j<i->nth (.int .i64) a j=nth (.int .i64) b j,cB:=fun i=>a.length-i,bM:=fun i=>[(5,sI i)],keep:=[0,1]})]
def D1(a:List Int)(b:List Int)(hw:gM [.slice (.int .i64),.slice (.int .i64)] (a,b)):(dL Tryz.B [] Tryz.f42 (JC a b) [.slice (.int .i64),.slice (.int .i64)] [.bool] (fun x y=>y=(fun x=>mK x.1 x.2) x) (a,b)).holds:=by
 refine holds_of (p:=
  let za:=bb a
  let zb:=(↑(bb b):Int)
  let zc:=false=mK a b
  let zd:=Ty.int bm
  za<=aM->bb b<=aM->(((↑za:Int) != zb)=true->zc)/\(((↑za:Int) != zb)=false->(∃(x:Nat),(x<=za/\∀(j:Nat),j<x->nth zd a j=nth zd b j)/\(0=(↑x:Int)/\True)/\True)/\∀F:Nat,(F<=za/\∀(j:Nat),j<F->nth zd a j=nth zd b j)->za<=aM->((decide ((↑F:Int)<(↑za:Int)))=true->(0<=(↑F:Int)/\(↑F:Int)<(↑za:Int))/\(0<=(↑F:Int)/\(↑F:Int)<zb)/\((nth zd a F != nth zd b F)=true->zc)/\((nth zd a F != nth zd b F)=false->aJ (↑F:Int)->aJ 1->aJ ((↑F:Int)+1)/\∃(x':Nat),(x'<=za/\∀(j:Nat),j<x'->nth zd a j=nth zd b j)/\za-x'<za-F/\((↑F:Int)+1=(↑x':Int)/\True)/\True))/\((decide ((↑F:Int)<(↑za:Int)))=false->true=mK a b))) (by kernel_rfl) ?_
 dsimp -iota -proj -eta only;refine fun h0 h1=>iN (fun h2=>(Px ‹_›)) (fun h2=>⟨(⟨0,⟨by omega,fun j hj=>by omega⟩,⟨rfl,ba⟩,ba⟩),fun F q_0 h3=>iL (fun h4=>⟨?a,?b,iN (fun h5=>(SY (i:=F) ‹_›)) (fun h5 h6 h7=>⟨(by simp only[aJ,aM]at*;omega),(⟨F+1,⟨by omega,Py q_0.2 ‹_›⟩,by omega,⟨by omega,ba⟩,(by trivial)⟩)⟩)⟩) (fun h4=>(MZ ‹_› (fun i hi=>q_0.2 i (by omega))))⟩)
 case a|b=>omega
def Tryz.D2:bW Tryz.prog Tryz.B.eT Tryz.X 42 [.slice (.int .i64),.slice (.int .i64)] [.bool] (fun _=>True) (fun x y=>y=(fun x=>mK x.1 x.2) x):=
 cD (X:=Tryz.X) (bR Tryz.bQ) Tryz.func42 (by kernel_rfl) (fun x=>JC x.1 x.2) (fun x hw hp=>D1 x.1 x.2 hw)
def JD(l:List (D aB))(s:List UInt8):dX:=[
 (0,fun st=>{X:=Nat×Int×Int,inv:=fun x=>x.1<=l.length/\jd l s x.1 0 x.2.1 x.2.2,cB:=fun x=>l.length-x.1,bM:=fun x=>[(14,sI x.1),(6,sI x.2.1),(7,sI x.2.2)],keep:=[1,12,13]}),
 (2,fun st=>{X:=Nat×Int×Int,inv:=fun x=>x.1<=(nth aB l (cY (.int .i64) st 14).toNat).2.2.1.length/\jd l s (cY (.int .i64) st 14).toNat x.1 x.2.1 x.2.2,cB:=fun x=>(nth aB l (cY (.int .i64) st 14).toNat).2.2.1.length-x.1,bM:=fun x=>[(22,sI x.1),(6,sI x.2.1),(7,sI x.2.2)],keep:=[1,8,9,12,13,14,15,16,17,18,19,20,21]})]
def Uy(l:List (D aB))(s:List UInt8)(hw:gM [.slice aB,.str] (l,s)):(dL Tryz.B [] Tryz.f127 (JD l s) [.slice aB,.str] [.int .i64,.int .i64] (fun x y=>y=(fun x=>eH x) x) (l,s)).holds:=by
 refine holds_of (p:=
  let za:=bb l
  let zb:=Nat×Int×Int
  let zc:=fun(F:Nat×Int×Int)=>(↑F.1:Int)
  let zd:=fun(F:Nat×Int×Int)=>(nth aB l F.1).2.2.1
  let ze:=fun(F:Nat×Int×Int)=>bb (zd F)
  let zf:=aJ 1
  let zg:=fun(G:Nat×Int×Int)=>zc G+1
  let zh:=fun(F:Nat×Int×Int)=>(nth aB l F.1).2.2.2.1
  let zi:=fun(F:Nat×Int×Int)=>((nth aB l F.1).1=(nth aB l F.1).1/\(nth aB l F.1).2.1=(nth aB l F.1).2.1/\zd F=zd F/\zh F=zh F/\True)/\@bc (Int×Int×Int×List UInt8×Bool×Unit)=@bc (Int×Int×Int×List UInt8×Bool×Unit)/\@bc (List UInt8×Int×Bool×Unit)=@bc (List UInt8×Int×Bool×Unit)/\@bc Int=@bc Int/\@bc (List UInt8)=@bc (List UInt8)/\True
  let zj:=fun(G:Nat×Int×Int) (F:Nat×Int×Int)=>aJ (zc G)->zf->aJ (zg G)/\∃(x':zb),(bh x'<=ze F/\jd l s F.1 (bh x') (bg x').1 (bg x').2)/\ze F-bh x'<ze F-G.1/\(zg G=(↑(bh x'):Int)/\G.2.1=(bg x').1/\G.2.2=(bg x').2/\True)/\zi F
  let zk:=eH (l,s)
  za<=aM->(∃(x:zb),(bh x<=za/\jd l s (bh x) 0 (bg x).1 (bg x).2)/\(0=(↑(bh x):Int)/\(-1:Int)=(bg x).1/\(-1:Int)=(bg x).2/\True)/\True)/\∀F:Nat×Int×Int,F.1<=za/\jd l s F.1 0 F.2.1 F.2.2->((decide (zc F<(↑za:Int)))=true->(0<=zc F/\zc F<(↑za:Int))/\(ze F<=aM->(∃(x:zb),(bh x<=ze F/\jd l s F.1 (bh x) (bg x).1 (bg x).2)/\(0=(↑(bh x):Int)/\F.2.1=(bg x).1/\F.2.2=(bg x).2/\True)/\True)/\∀G:Nat×Int×Int,G.1<=ze F/\jd l s F.1 G.1 G.2.1 G.2.2->((decide (zc G<(↑(ze F):Int)))=true->(0<=zc G/\zc G<(↑(ze F):Int))/\((!(nth aS (zd F) G.1).1 == s)=true->zj G F)/\((!(nth aS (zd F) G.1).1 == s)=false->((!(nth aS (zd F) G.1).2.2.1)=true->(zc F,zc G)=zk)/\((!(nth aS (zd F) G.1).2.2.1)=false->((decide (G.2.1<0))=true->aJ (zc G)->zf->aJ (zg G)/\∃(x':zb),(bh x'<=ze F/\jd l s F.1 (bh x') (bg x').1 (bg x').2)/\ze F-bh x'<ze F-G.1/\(zg G=(↑(bh x'):Int)/\zc F=(bg x').1/\zc G=(bg x').2/\True)/\zi F)/\((decide (G.2.1<0))=false->zj G F))))/\((decide (zc G<(↑(ze F):Int)))=false->aJ (zc F)->zf->aJ (zg F)/\∃(x':zb),(bh x'<=za/\jd l s (bh x') 0 (bg x').1 (bg x').2)/\za-bh x'<za-F.1/\(zg F=(↑(bh x'):Int)/\G.2.1=(bg x').1/\G.2.2=(bg x').2/\True)/\True)))/\((decide (zc F<(↑za:Int)))=false->F.2=zk)) (by kernel_rfl) ?_
 dsimp -iota -proj -eta only;refine fun h0=>⟨(⟨(0,-1,-1),⟨by omega,jd.start l s⟩,⟨rfl,rfl,rfl,ba⟩,ba⟩),fun F q_0=>iL (fun h1=>⟨?a,fun h2=>⟨(⟨(0,F.2),⟨by omega,q_0.2⟩,⟨rfl,rfl,rfl,ba⟩,ba⟩),fun G q_1=>iL (fun h3=>⟨?b,⟨fun h4 h5 h6=>⟨?c,?d⟩,fun h4=>iB (fun h5 =>?e) (fun h5=>iL (fun h6 h7 h8=>⟨?f,?g⟩) (fun h6 h7 h8=>⟨?h,?i⟩))⟩⟩) (fun h3 h4 h5=>⟨(by simp only[aJ,aM]at*;omega),(by exact⟨(F.1+1,G.2),⟨by omega,q_1.2.row (by omega)⟩,by simp only;omega,⟨by simp only;omega,rfl,rfl,ba⟩,(by trivial)⟩)⟩)⟩⟩) (fun h1=>((q_0.2.done (by omega)).symm))⟩
 case a|b=>omega
 case c|f|h=>
  simp only[bl,reduceCtorEq]at h4;simp only[aJ,aM]at*;omega
 case d=>
  simp only[bl,reduceCtorEq]at h4;exact⟨(G.1+1,G.2),⟨by omega,q_1.2.skip ‹_›⟩,by simp only;omega,⟨by simp only;omega,rfl,rfl,ba⟩,(by trivial)⟩
 case e=>
  simp only[bl,reduceCtorEq]at h4;exact(q_1.2.WS (by omega) (by omega) ‹_› ‹_›).symm
 case g=>
  simp only[bl,reduceCtorEq]at h4;exact⟨(G.1+1,_,_),⟨by omega,q_1.2.Ds (by omega) (by omega) ‹_› (by simp_all) (by omega)⟩,by simp only;omega,⟨by simp only;omega,rfl,rfl,ba⟩,(by trivial)⟩
 case i=>
  simp only[bl,reduceCtorEq]at h4;exact⟨(G.1+1,G.2),⟨by omega,q_1.2.more (by simp_all) (by omega)⟩,by simp only;omega,⟨by simp only;omega,rfl,rfl,ba⟩,(by trivial)⟩
def Tryz.Uz:bW Tryz.prog Tryz.B.eT Tryz.X 127 [.slice aB,.str] [.int .i64,.int .i64] (fun _=>True) (fun x y=>y=(fun x=>eH x) x):=
 cD (X:=Tryz.X) (bR Tryz.bQ) Tryz.func127 (by kernel_rfl) (fun x=>JD x.1 x.2) (fun x hw hp=>Uy x.1 x.2 hw)
def Tryz.JE:List (FuncId×(Bool×aT)):=[(45,Tryz.spZ0),(17,Tryz.spZ1),(127,(true,cC [.slice aB,.str] [.int .i64,.int .i64] (fun _=>True) (fun x=>eH x)))]
def Tryz.OF:bP Tryz.prog Tryz.B Tryz.X Tryz.JE:=
 aO (aE Tryz.jt) (aO (aE Tryz.iw) (aO (aE Tryz.Uz) (bR Tryz.bQ)))
def RU(l:List (D aB))(b:List Int)(t:D bD)(hw:gM [.slice aB,.slice (.int .i64),bD] (l,b,t))(hp:(fun x=>jP x.1/\x.2.1.length=x.1.length/\pR x.2.1) (l,b,t)):(dL Tryz.B Tryz.JE Tryz.f112 [] [.slice aB,.slice (.int .i64),bD] [.int .i64,.err] (fun x y=>y=(fun x=>fQ x.1 x.2.1 x.2.2) x) (l,b,t)).holds:=by
 refine holds_of (p:=
  let za:=eH (l,t.2.2.2.1)
  let zb:=0<=za.1
  let zc:=(nth aB l (bf za.1)).2.2.1
  let zd:=nth (Ty.int bm) b (bf za.1)
  let ze:=(nth aS zc (bf za.2)).2.1
  let zf:=fQ l b t
  True/\((decide (za.1>=0))=true->(zb/\za.1<(↑(bb b):Int))/\(zb/\za.1<(↑(bb l):Int))/\(0<=za.2/\za.2<(↑(bb zc):Int))/\(aJ zd->aJ ze->aJ (zd+ze)/\(zd+ze,aK.nil)=zf))/\((decide (za.1>=0))=false->((t.2.2.2.2.1)=true->(0,aK.nil)=zf)/\((t.2.2.2.2.1)=false->(0,aK.no 6)=zf))) (by kernel_rfl) ?_
 dsimp -iota -proj -eta only;dsimp only at hp;refine⟨ba,iE (fun h0=>⟨?a,?b,?c,fun h1 h2=>⟨?d,((Ch (by omega)).symm)⟩⟩) (fun h0=>⟨fun h1=>((zI (by omega) h1).symm),fun h1=>((xg (by omega) h1).symm)⟩)⟩
 case a|b|c=>
  have hf:=yx (l:=l) (s:=t.2.2.2.1) (by omega);omega
 case d=>
  have hf:=yx (l:=l) (s:=t.2.2.2.1) (by omega);have hb:=qa (n:=l.length) (i:=(eH (l,t.2.2.2.1)).1) hp.2.2 hp.2.1 (by omega) hf.1;have hs:=PF (s:=t.2.2.2.1) hp.1 (by omega);unfold Small at hs;dsimp only[D]at*;simp only[aJ];omega
def Tryz.RV:bW Tryz.prog Tryz.B.eT Tryz.X 112 [.slice aB,.slice (.int .i64),bD] [.int .i64,.err] (fun x=>jP x.1/\x.2.1.length=x.1.length/\pR x.2.1) (fun x y=>y=(fun x=>fQ x.1 x.2.1 x.2.2) x):=
 cD (X:=Tryz.X) Tryz.OF Tryz.func112 (by kernel_rfl) (fun _=>[]) (fun x hw hp=>RU x.1 x.2.1 x.2.2 hw hp)
def Tryz.FZ:List (FuncId×(Bool×aT)):=[(112,(true,cC [.slice aB,.slice (.int .i64),bD] [.int .i64,.err] (fun x=>jP x.1/\x.2.1.length=x.1.length/\pR x.2.1) (fun x=>fQ x.1 x.2.1 x.2.2)))]
def Tryz.K2:bP Tryz.prog Tryz.B Tryz.X Tryz.FZ:=
 aO (aE Tryz.RV) (bR Tryz.bQ)
def Xe(l:List (D aB))(b:List Int)(i:Int)(t:D bD)(hw:gM [.slice aB,.slice (.int .i64),.int .i64,bD] (l,b,i,t))(hp:(fun x=>jP x.1/\x.2.1.length=x.1.length/\pR x.2.1/\0<=x.2.2.1/\x.2.2.1<x.1.length/\Small x.2.2.2.1/\Word x.2.2.2.2.2.1) (l,b,i,t)):(dL Tryz.B Tryz.FZ Tryz.f93 [] [.slice aB,.slice (.int .i64),.int .i64,bD] [.int .i64,.err] (fun x y=>y=(fun x=>gX x.1 x.2.1 x.2.2.1 x.2.2.2) x) (l,b,i,t)).holds:=by
 refine holds_of (p:=
  let za:=0<=i/\i<(↑(bb b):Int)
  let zb:=nth (Ty.int bm) b (bf i)
  let zc:=t.2.2.1
  let zd:=zb+zc
  let ze:=fQ l b t
  let zf:=gX l b i t
  let zg:=ze.1+zc
  let zh:=t.2.1 == 3
  let zi:=zb+t.1
  let zj:=aJ zi
  let zk:=zg-zi
  let zl:=(0,aK.no 7)=zf
  let zm:=(-2147483648:Int)
  let zn:=zd-zi
  za/\(aJ zb->aJ zc->aJ zd/\((t.2.1 != 1)=true->(jP l/\bb b=bb l/\pR b)/\((!aK.isNil ze.2)=true->(0,ze.2)=zf)/\((!aK.isNil ze.2)=false->aJ ze.1->aJ zc->aJ zg/\(zh=true->za/\(aJ zb->aJ t.1->zj/\(aJ zg->zj->aJ zk/\((decide (zk<(-500:Int)))=true->zl)/\((decide (zk<(-500:Int)))=false->((decide (zk > 500))=true->zl)/\((decide (zk > 500))=false->((decide (zk<zm))=true->zl)/\((decide (zk<zm))=false->((decide (zk > 2147483647))=true->zl)/\((decide (zk > 2147483647))=false->(zk,aK.nil)=zf)))))))/\(zh=false->((decide (zg<zm))=true->zl)/\((decide (zg<zm))=false->((decide (zg > 2147483647))=true->zl)/\((decide (zg > 2147483647))=false->(zg,aK.nil)=zf)))))/\((t.2.1 != 1)=false->(zh=true->za/\(aJ zb->aJ t.1->zj/\(aJ zd->zj->aJ zn/\((decide (zn<(-500:Int)))=true->zl)/\((decide (zn<(-500:Int)))=false->((decide (zn > 500))=true->zl)/\((decide (zn > 500))=false->((decide (zn<zm))=true->zl)/\((decide (zn<zm))=false->((decide (zn > 2147483647))=true->zl)/\((decide (zn > 2147483647))=false->(zn,aK.nil)=zf)))))))/\(zh=false->((decide (zd<zm))=true->zl)/\((decide (zd<zm))=false->((decide (zd > 2147483647))=true->zl)/\((decide (zd > 2147483647))=false->(zd,aK.nil)=zf)))))) (by kernel_rfl) ?_
 dsimp -iota -proj -eta only;dsimp only at hp;refine⟨?a,fun h0 h1=>⟨?b,iN (fun h2=>⟨(by simp_all),iB (fun h3=>((Vv ‹_› ‹_›).symm)) (fun h3 h4 h5=>⟨?c,iQ (fun h6=>⟨?d,fun h7 h8=>⟨?e,fun h9 h10=>⟨?f,iL (fun h11 =>?g) (fun h11=>iL (fun h12 =>?h) (fun h12=>iL (fun h13 =>?i) (fun h13=>iL (fun h14 =>?j) (fun h14=>(by rw[yz ‹_› ‹_›,Vw ‹_› rfl (by dsimp only[D]at*;omega)])))))⟩⟩⟩) (fun h6=>iL (fun h7 =>?k) (fun h7=>iL (fun h8 =>?l) (fun h8=>(by rw[yz ‹_› ‹_›,DA ‹_› rfl (by dsimp only[D]at*;omega)]))))⟩)⟩) (fun h2=>iQ (fun h3=>⟨?m,fun h4 h5=>⟨?n,fun h6 h7=>⟨?o,iL (fun h8 =>?p) (fun h8=>iL (fun h9 =>?q) (fun h9=>iL (fun h10 =>?r) (fun h10=>iL (fun h11 =>?s) (fun h11 =>?t))))⟩⟩⟩) (fun h3=>iL (fun h4 =>?u) (fun h4=>iL (fun h5 =>?v) (fun h5=>(by rw[AQ ‹_›,DA (by simp_all) rfl (by dsimp only[D]at*;omega)])))))⟩⟩
 case a|d|i|j|m|r|s=>omega
 case b|c|e|f|n|o=>
  have hb:=qa hp.2.2.1 hp.2.1 hp.2.2.2.1 hp.2.2.2.2.1;have ht:=xh t hp.1 hp.2.1 hp.2.2.1;have hs:=hp.2.2.2.2.2;unfold Small Word at hs;dsimp only[D]at*;simp only[aJ];omega
 case g|h=>rw[yz ‹_› ‹_›,S7 ‹_› (by dsimp only[D]at*;omega)]
 case k|l=>
  have hb:=qa hp.2.2.1 hp.2.1 hp.2.2.2.1 hp.2.2.2.2.1;have ht:=xh t hp.1 hp.2.1 hp.2.2.1;have hs:=hp.2.2.2.2.2;unfold Small Word at hs;dsimp only[D]at*
  first|omega|(rw[yz ‹_› ‹_›,HA ‹_› (by omega)])
 case p|q|t=>dsimp only[D]at*;omega
 case u|v=>
  have hb:=qa hp.2.2.1 hp.2.1 hp.2.2.2.1 hp.2.2.2.2.1;have ht:=xh t hp.1 hp.2.1 hp.2.2.1;have hs:=hp.2.2.2.2.2;unfold Small Word at hs;dsimp only[D]at*
  first|omega|(rw[AQ ‹_›,HA (by simp_all) (by omega)])
def Tryz.Xf:bW Tryz.prog Tryz.B.eT Tryz.X 93 [.slice aB,.slice (.int .i64),.int .i64,bD] [.int .i64,.err] (fun x=>jP x.1/\x.2.1.length=x.1.length/\pR x.2.1/\0<=x.2.2.1/\x.2.2.1<x.1.length/\Small x.2.2.2.1/\Word x.2.2.2.2.2.1) (fun x y=>y=(fun x=>gX x.1 x.2.1 x.2.2.1 x.2.2.2) x):=
 cD (X:=Tryz.X) Tryz.K2 Tryz.func93 (by kernel_rfl) (fun _=>[]) (fun x hw hp=>Xe x.1 x.2.1 x.2.2.1 x.2.2.2 hw hp)
def Tryz.F0:List (FuncId×(Bool×aT)):=[(93,(true,cC [.slice aB,.slice (.int .i64),.int .i64,bD] [.int .i64,.err] (fun x=>jP x.1/\x.2.1.length=x.1.length/\pR x.2.1/\0<=x.2.2.1/\x.2.2.1<x.1.length/\Small x.2.2.2.1/\Word x.2.2.2.2.2.1) (fun x=>gX x.1 x.2.1 x.2.2.1 x.2.2.2)))]
def Tryz.K3:bP Tryz.prog Tryz.B Tryz.X Tryz.F0:=
 aO (aE Tryz.Xf) (bR Tryz.bQ)
def RW(l:List (D aB))(b:List Int):dX:=[
 (0,fun st=>{X:=Nat,inv:=fun i=>i<=b.length/\∀j,j<i->0<=(nth (.int .i64) b j:Int)/\(nth (.int .i64) b j:Int)<=256,cB:=fun i=>b.length-i,bM:=fun i=>[(23,sI i)],keep:=[0,1,21,22]}),
 (2,fun st=>{X:=Nat×List (D aR),inv:=fun x=>x.1<=l.length/\nS l b (l.drop x.1) x.1 x.2=nS l b l 0 []/\x.2.length<=10*x.1,cB:=fun x=>l.length-x.1,bM:=fun x=>[(37,sI x.1),(8,.s (.one (.app aR x.2 (bJ st 8))))],aF:=fun x=>[(bJ st 8,.tok aR x.2)],keep:=[0,1,35,36],ib:=[bJ st 8]}),
 (4,fun st=>{X:=Nat×List (D aR),inv:=fun x=>x.1<=(nth aB l (cY (.int .i64) st 37).toNat).2.2.2.1.length/\oD (nS l b (l.drop ((cY (.int .i64) st 37).toNat+1)) ((cY (.int .i64) st 37).toNat+1)) (oh l b (cY (.int .i64) st 37).toNat ((nth aB l (cY (.int .i64) st 37).toNat).2.2.2.1.drop x.1) x.2)=nS l b l 0 []/\x.2.length<=10*(cY (.int .i64) st 37).toNat+x.1,cB:=fun x=>(nth aB l (cY (.int .i64) st 37).toNat).2.2.2.1.length-x.1,bM:=fun x=>[(45,sI x.1),(8,.s (.one (.app aR x.2 (bJ st 8))))],aF:=fun x=>[(bJ st 8,.tok aR x.2)],keep:=[0,1,9,10,35,36,37,38,39,40,41,42,43,44],ib:=[bJ st 8]})]
def Xg(l:List (D aB))(b:List Int)(hw:gM [.slice aB,.slice (.int .i64)] (l,b))(hp:(fun x=>jP x.1) (l,b)):(dL Tryz.B Tryz.F0 Tryz.f64 (RW l b) [.slice aB,.slice (.int .i64)] [.slice aR,.err] (fun x y=>y=(fun x=>iJ x) x) (l,b)).holds:=by
 refine holds_of (p:=
  let za:=bb b
  let zb:=bb l
  let zc:=iJ (l,b)
  let zd:=Ty.int bm
  let ze:=([],aK.no 1)=zc
  let zf:=aJ 1
  let zg:=@bc (Int×Int×Int×Unit)=@bc (Int×Int×Int×Unit)/\True
  let zh:=Nat×List (Int×Int×Int×Unit)
  let zi:=nS l b l 0 (@bc Pt)
  let zj:=fun(G:Nat×List (Int×Int×Int×Unit))=>10*G.1
  let zk:=fun(G:Nat×List (Int×Int×Int×Unit))=>(↑G.1:Int)
  let zl:=fun(G:Nat×List (Int×Int×Int×Unit))=>zk G<(↑zb:Int)
  let zm:=fun(G:Nat×List (Int×Int×Int×Unit))=>0<=zk G
  let zn:=fun(G:Nat×List (Int×Int×Int×Unit))=>(nth aB l G.1).2.2.2.1
  let zo:=fun(G:Nat×List (Int×Int×Int×Unit))=>bb (zn G)
  let zp:=fun(G:Nat×List (Int×Int×Int×Unit))=>nS l b (bj (G.1+1) l) (G.1+1)
  let zq:=fun(G I:Nat×List (Int×Int×Int×Unit))=>(gX l b (zk G) (nth bD (zn G) I.1)).2
  let zr:=fun(G I:Nat×List (Int×Int×Int×Unit))=>[(zk G,(nth bD (zn G) I.1).1,(gX l b (zk G) (nth bD (zn G) I.1)).1,())]
  za<=aM->zb<=aM->(((↑za:Int) != (↑zb:Int))=true->([],aK.no 3)=zc)/\(((↑za:Int) != (↑zb:Int))=false->za<=aM->(∃(x:Nat),(x<=za/\∀(j:Nat),j<x->0<=nth zd b j/\nth zd b j<=256)/\(0=(↑x:Int)/\True)/\True)/\∀F:Nat,(F<=za/\∀(j:Nat),j<F->0<=nth zd b j/\nth zd b j<=256)->((decide ((↑F:Int)<(↑za:Int)))=true->(0<=(↑F:Int)/\(↑F:Int)<(↑za:Int))/\((decide (nth zd b F<0))=true->ze)/\((decide (nth zd b F<0))=false->((decide (nth zd b F > 256))=true->ze)/\((decide (nth zd b F > 256))=false->aJ (↑F:Int)->zf->aJ ((↑F:Int)+1)/\∃(x':Nat),(x'<=za/\∀(j:Nat),j<x'->0<=nth zd b j/\nth zd b j<=256)/\za-x'<za-F/\((↑F:Int)+1=(↑x':Int)/\True)/\zg)))/\((decide ((↑F:Int)<(↑za:Int)))=false->zb<=aM->(∃(x:zh),(bh x<=zb/\nS l b (bj (bh x) l) (bh x) (bg x)=zi/\bb (bg x)<=10*bh x)/\(0=(↑(bh x):Int)/\@bc (Int×Int×Int×Unit)=bg x/\True)/\@bc (Int×Int×Int×Unit)=bg x/\True)/\∀G:Nat×List (Int×Int×Int×Unit),G.1<=zb/\nS l b (bj G.1 l) G.1 G.2=zi/\bb G.2<=zj G->((decide (zl G))=true->(zm G/\zl G)/\(zo G<=aM->(∃(x:zh),(bh x<=zo G/\oD (zp G) (oh l b G.1 (bj (bh x) (zn G)) (bg x))=zi/\bb (bg x)<=zj G+bh x)/\(0=(↑(bh x):Int)/\G.2=bg x/\True)/\G.2=bg x/\True)/\∀I:Nat×List (Int×Int×Int×Unit),I.1<=zo G/\oD (zp G) (oh l b G.1 (bj I.1 (zn G)) I.2)=zi/\bb I.2<=zj G+I.1->((decide (zk I<(↑(zo G):Int)))=true->(zm I/\zk I<(↑(zo G):Int))/\(jP l/\za=zb/\pR b/\zm G/\zl G/\Small (nth bD (zn G) I.1).1/\Word (nth bD (zn G) I.1).2.2.1)/\((!aK.isNil (zq G I))=true->([],zq G I)=zc)/\((!aK.isNil (zq G I))=false->(I.2=I.2/\bb I.2+bb (zr G I)<=1000000000)/\(aJ (zk I)->zf->aJ (zk I+1)/\∃(x':zh),(bh x'<=zo G/\oD (zp G) (oh l b G.1 (bj (bh x') (zn G)) (bg x'))=zi/\bb (bg x')<=zj G+bh x')/\zo G-bh x'<zo G-I.1/\(zk I+1=(↑(bh x'):Int)/\I.2++zr G I=bg x'/\True)/\I.2++zr G I=bg x'/\((nth aB l G.1).1=(nth aB l G.1).1/\(nth aB l G.1).2.1=(nth aB l G.1).2.1/\(nth aB l G.1).2.2.1=(nth aB l G.1).2.2.1/\zn G=zn G/\True)/\@bc (Int×Int×Int×List UInt8×Bool×Unit)=@bc (Int×Int×Int×List UInt8×Bool×Unit)/\@bc (List UInt8×Int×Bool×Unit)=@bc (List UInt8×Int×Bool×Unit)/\@bc Int=@bc Int/\@bc (List UInt8)=@bc (List UInt8)/\zg)))/\((decide (zk I<(↑(zo G):Int)))=false->aJ (zk G)->zf->aJ (zk G+1)/\∃(x':zh),(bh x'<=zb/\nS l b (bj (bh x') l) (bh x') (bg x')=zi/\bb (bg x')<=10*bh x')/\zb-bh x'<zb-G.1/\(zk G+1=(↑(bh x'):Int)/\I.2=bg x'/\True)/\I.2=bg x'/\zg)))/\((decide (zl G))=false->(G.2,aK.nil)=zc)))) (by kernel_rfl) ?_
 dsimp -iota -proj -eta only;dsimp only at hp;refine fun h0 h1=>iN (fun h2=>((S6 (by omega)).symm)) (fun h2 h3=>⟨(⟨0,⟨by omega,fun j hj=>by omega⟩,⟨rfl,ba⟩,ba⟩),fun F q_0=>iL (fun h4=>⟨?a,iL (fun h5 =>?b) (fun h5=>iL (fun h6 =>?c) (fun h6 h7 h8=>⟨?d,(⟨F+1,⟨by omega,lY q_0.2 (by dsimp only[D]at*;omega)⟩,by omega,⟨by omega,ba⟩,(by trivial)⟩)⟩))⟩) (fun h4 h5=>⟨(⟨(0,[]),⟨by omega,rfl,by simp⟩,(by trivial),(by trivial)⟩),fun G q_1=>iL (fun h6=>⟨?e,fun h7=>⟨(by exact⟨(0,G.2),⟨by omega,by rw[<-PC (by omega)];exact q_1.2.1,by simp only;omega⟩,(by trivial),(by trivial)⟩),fun I q_2=>iL (fun h8=>⟨?f,?g,iB (fun h9 =>?h) (fun h9=>⟨?i,fun h10 h11=>⟨?j,?k⟩⟩)⟩) (fun h8 h9 h10=>⟨?l,?m⟩)⟩⟩) (fun h6 =>?n)⟩)⟩)
 case a|e|f=>omega
 case b|c=>exact(PE (i:=F) (by omega) (by omega) (by dsimp only[D]at*;omega)).symm
 case d|j|l=>simp only[aJ,aM]at*;omega
 case g=>
  have hlen:b.length=l.length:=(by omega);have hib:pR b:=fun j hj=>q_0.2 j (by omega)
  have hm:=hp.2 G.1 (by omega);have htk:=hm.2.2 I.1 (by omega);have hb:=qa (i:=(G.1:Int)) hib hlen (by omega) (by omega);unfold Small Word at htk;rw[e0]at hb;exact⟨hp,hlen,hib,by omega,by omega,htk.1,htk.2⟩
 case h=>
  have hlen:b.length=l.length:=(by omega);have hib:pR b:=fun j hj=>q_0.2 j (by omega)
  rw[Dz hlen hib,<-q_2.2.1,Vt (by omega) ‹_›]
 case i=>
  have hlen:b.length=l.length:=(by omega);have hib:pR b:=fun j hj=>q_0.2 j (by omega)
  have hm:=hp.2 G.1 (by omega);have htk:=hm.2.2 I.1 (by omega);have hb:=qa (i:=(G.1:Int)) hib hlen (by omega) (by omega);unfold Small Word at htk;rw[e0]at hb;have:=hm.1;have:=hp.1;exact⟨rfl,by simp only[bw,aM];omega⟩
 case k=>
  have ho:(gX l b G.1 (nth bD (nth aB l G.1).2.2.2.1 I.1)).2.isNil=true:=by assumption
  exact⟨(I.1+1,_),⟨by omega,by rw[<-q_2.2.1,WT (k:=I.1) (by omega) ho],by simp only[bt,bw];omega⟩,by simp only;omega,⟨by simp only;omega,rfl,ba⟩,(by trivial)⟩
 case m=>
  have hm:=hp.2 G.1 (by omega);exact⟨(G.1+1,I.2),⟨by omega,by rw[<-q_2.2.1,Vu (by omega)],by have:=hm.1;simp only;omega⟩,by simp only;omega,⟨by simp only;omega,rfl,ba⟩,(by trivial)⟩
 case n=>
  have hlen:b.length=l.length:=(by omega);have hib:pR b:=fun j hj=>q_0.2 j (by omega)
  rw[Dz hlen hib,<-q_1.2.1,Vs (by omega)]
def Tryz.Xh:bW Tryz.prog Tryz.B.eT Tryz.X 64 [.slice aB,.slice (.int .i64)] [.slice aR,.err] (fun x=>jP x.1) (fun x y=>y=(fun x=>iJ x) x):=
 cD (X:=Tryz.X) Tryz.K3 Tryz.func64 (by kernel_rfl) (fun x=>RW x.1 x.2) (fun x hw hp=>Xg x.1 x.2 hw hp)
def RX(w:List (List Int))(l:List (D aR)):dX:=[
 (200000,fun st=>{X:=Nat,inv:=fun i=>i<=w.length,cB:=fun i=>w.length-i,bM:=fun i=>[(13,sI i)],aN:=[.ext 0 mm],refs:=[(6,0)],pd:=fun i=>(w.take i,()),keep:=[1,4,5,11,12]}),
 (2,fun st=>{X:=Nat,inv:=fun k=>k<=l.length/\∀j,j<k->uj w (nth aR l j),cB:=fun k=>l.length-k,bM:=fun k=>[(25,sI k)],aF:=fun k=>[(bJ st 6,.ext 0 mm (lA w (l.take k)))],keep:=[6,23,24],ib:=[bJ st 6]})]
def Xi(w:List (List Int))(l:List (D aR))(hw:gM [mm,.slice aR] (w,l))(hp:(fun x=>x.1.length<=100000/\∀i,i<x.1.length->(nth jr x.1 i).length<=100000000) (w,l)):(dL (nF Tryz.B [6]) [] Tryz.f65 (RX w l) [mm,.slice aR] [mm,.err] (fun x y=>y=(fun x=>je x) x) (w,l)).holds:=by
 refine holds_of (p:=
  let za:=bb w
  let zb:=@bc (List Int)=@bc (List Int)/\True
  let zc:=(!false&&true)=true
  let zd:=fun(F:Nat)=>[nth (Ty.slice (Ty.int bm)) w F]
  let ze:=fun(F:Nat)=>(↑F:Int)+1
  let zf:=bb l
  let zg:=fun(G:Nat)=>(nth aR l G).1
  let zh:=([],aK.no 1)=je (w,l)
  let zi:=fun(G:Nat)=>lA w (bd G l)
  let zj:=fun(G:Nat)=>(nth aR l G).2.1
  let zk:=fun(G:Nat)=>0<=zg G/\zg G<(↑(bb (zi G)):Int)
  let zl:=fun(G:Nat)=>bf (zg G)<bb (zi G)
  let zm:=fun(G:Nat)=>nth jr (zi G) (bf (zg G))
  za<=aM->(∃(x':Nat),x'<=za/\True/\(0=(↑x':Int)/\True)/\zb/\zc/\([],())=(bd x' w,()))/\∀F:Nat,F<=za->((decide ((↑F:Int)<(↑za:Int)))=true->(0<=(↑F:Int)/\(↑F:Int)<(↑za:Int))/\bb (nth (Ty.slice (Ty.int bm)) w F)<=1000000000/\(0<bb (zd F)/\bb (bd F w)+bb (zd F)<=1000000000)/\(aJ (↑F:Int)->aJ 1->aJ (ze F)/\∃(x':Nat),x'<=za/\za-x'<za-F/\(ze F=(↑x':Int)/\True)/\zb/\zc/\(bd F w++zd F,())=(bd x' w,())))/\((decide ((↑F:Int)<(↑za:Int)))=false->zf<=aM->(∃(x:Nat),(x<=zf/\∀(j:Nat),j<x->uj w (nth aR l j))/\(0=(↑x:Int)/\True)/\bd F w=lA w (bd x l)/\True)/\∀G:Nat,(G<=zf/\∀(j:Nat),j<G->uj w (nth aR l j))->((decide ((↑G:Int)<(↑zf:Int)))=true->(0<=(↑G:Int)/\(↑G:Int)<(↑zf:Int))/\((decide (zg G<0))=true->zh)/\((decide (zg G<0))=false->bb (zi G)<=aM->((decide (zg G>=(↑(bb (zi G)):Int)))=true->zh)/\((decide (zg G>=(↑(bb (zi G)):Int)))=false->((decide (zj G<0))=true->zh)/\((decide (zj G<0))=false->zk G/\zl G/\zl G/\(bb (zm G)<=aM->((decide (zj G>=(↑(bb (zm G)):Int)))=true->zh)/\((decide (zj G>=(↑(bb (zm G)):Int)))=false->zk G/\zl G/\(zl G/\0<=zj G/\zj G<(↑(bb (zm G)):Int))/\(zl G/\bf (zj G)<bb (zm G))/\(aJ (↑G:Int)->aJ 1->aJ (ze G)/\∃(x':Nat),(x'<=zf/\∀(j:Nat),j<x'->uj w (nth aR l j))/\zf-x'<zf-G/\(ze G=(↑x':Int)/\True)/\c7 (zi G) (bf (zg G)) (c7 (zm G) (bf (zj G)) (nth aR l G).2.2.1)=lA w (bd x' l)/\zb)))))))/\((decide ((↑G:Int)<(↑zf:Int)))=false->(zi G,aK.nil)=je (w,l)))) (by kernel_rfl) ?_
 dsimp -iota -proj -eta only;dsimp only at hp;refine fun h0=>⟨(⟨0,by omega,ba,⟨rfl,ba⟩,⟨rfl,ba⟩,rfl,rfl⟩),fun F q_0=>iL (fun h1=>⟨?a,(by have:=hp.2 F (by omega);show bb (nth jr w F)<=1000000000;omega),(by have:=hp.1;simp only[bw,b5,aM];omega),fun h2 h3=>⟨?b,(⟨F+1,by omega,by omega,⟨by omega,ba⟩,⟨rfl,ba⟩,rfl,by rw[lM (t:=jr) (by omega)]⟩)⟩⟩) (fun h1 h2=>⟨(by exact⟨0,⟨by omega,fun j hj=>by omega⟩,⟨rfl,ba⟩,by rw[c8 (by omega)];rfl,ba⟩),fun G q_1=>iL (fun h3=>⟨?c,iL (fun h4 =>?d) (fun h4 h5=>iE (fun h6 =>?e) (fun h6=>iL (fun h7 =>?f) (fun h7=>⟨?g,?h,?i,fun h8=>iE (fun h9 =>?j) (fun h9=>⟨?k,?l,?m,?n,fun h10 h11=>⟨?o,?p⟩⟩)⟩)))⟩) (fun h3=>(by rw[yy fun i hi=>q_1.2 i (by omega),c8 (by omega)]))⟩)⟩
 case a|c=>omega
 case b|o=>simp only[aJ,aM]at*;omega
 case d|e|f|j=>
  have hr:=xf (l.take G) w (nth aR l G).1.toNat;have hll:=qw (l.take G) w;exact(S3 (i:=G) (by omega) (by unfold uj;dsimp only[D]at*;omega)).symm
 case g|h|i|k|l|m|n=>
  have hr:=xf (l.take G) w (nth aR l G).1.toNat;have hll:=qw (l.take G) w
  first|omega|(dsimp only[D]at*;omega)
 case p=>
  have hr:=xf (l.take G) w (nth aR l G).1.toNat;have hll:=qw (l.take G) w;exact⟨G+1,⟨by omega,lY q_1.2 (by unfold uj;dsimp only[D]at*;omega)⟩,by omega,⟨by omega,ba⟩,PB (by omega),(by trivial)⟩
def Tryz.Xj:bW Tryz.prog Tryz.B.eT Tryz.X 65 [mm,.slice aR] [mm,.err] (fun x=>x.1.length<=100000/\∀i,i<x.1.length->(nth jr x.1 i).length<=100000000) (fun x y=>y=(fun x=>je x) x):=
 cD (B:=(nF Tryz.B [6])) (X:=Tryz.X) (bP.hint (l:=[6]) (bR Tryz.bQ)) Tryz.func65 (by kernel_rfl) (fun x=>RX x.1 x.2) (fun x hw hp=>Xi x.1 x.2 hw hp)
def JF(l:List (D aB)):dX:=[
 (0,fun st=>{X:=Nat,inv:=fun i=>i<=l.length,cB:=fun i=>l.length-i,bM:=fun i=>[(8,sI i),(3,.s (.one (.app (.int .i64) (bZ (l.take i)) (bJ st 3))))],aF:=fun i=>[(bJ st 3,.tok (.int .i64) (bZ (l.take i)))],keep:=[2,6,7],ib:=[bJ st 3]})]
def RY(l:List (D aB))(hw:gM [.slice aB] l)(hp:(fun l=>l.length<=1000) l):(dL Tryz.B [] Tryz.f63 (JF l) [.slice aB] [.slice (.int .i64)] (fun x y=>y=(fun l=>bZ l) x) l).holds:=by
 refine holds_of (p:=
  let za:=bb l
  let zb:=fun(F:Nat)=>bb (nth aB l F).2.1
  let zc:=fun(F:Nat)=>bZ (bd F l)
  let zd:=fun(F:Nat)=>zc F++[(↑(zb F):Int)]
  za<=aM->(∃(x:Nat),x<=za/\(0=(↑x:Int)/\@bc Int=bZ (bd x l)/\True)/\@bc Int=bZ (bd x l)/\True)/\∀F:Nat,F<=za->((decide ((↑F:Int)<(↑za:Int)))=true->(0<=(↑F:Int)/\(↑F:Int)<(↑za:Int))/\(zb F<=aM->(zc F=zc F/\bb (zc F)+bb [(↑(zb F):Int)]<=1000000000)/\(aJ (↑F:Int)->aJ 1->aJ ((↑F:Int)+1)/\∃(x':Nat),x'<=za/\za-x'<za-F/\((↑F:Int)+1=(↑x':Int)/\zd F=bZ (bd x' l)/\True)/\zd F=bZ (bd x' l)/\@bc Int=@bc Int/\True)))/\((decide ((↑F:Int)<(↑za:Int)))=false->zc F=bZ l)) (by kernel_rfl) ?_
 dsimp -iota -proj -eta only;exact fun h0=>⟨(⟨0,by omega,⟨rfl,rfl,ba⟩,rfl,ba⟩),fun F q_0=>iL (fun h1=>⟨(by omega),fun h2=>⟨(by exact⟨rfl,by rw[pJ,b5];simp only[bw];omega⟩),fun h3 h4=>⟨(by simp only[aJ,aM]at*;omega),(⟨F+1,by omega,by omega,⟨by omega,(zQ (by omega)).symm,ba⟩,(zQ (by omega)).symm,(by trivial)⟩)⟩⟩⟩) (fun h1=>(by rw[c8 (by omega)]))⟩
def Tryz.RZ:bW Tryz.prog Tryz.B.eT Tryz.X 63 [.slice aB] [.slice (.int .i64)] (fun l=>l.length<=1000) (fun x y=>y=(fun l=>bZ l) x):=
 cD (X:=Tryz.X) (bR Tryz.bQ) Tryz.func63 (by kernel_rfl) (fun x=>JF x) (fun x hw hp=>RY x hw hp)
def JG(l:List (D aB)):dX:=[
 (0,fun st=>{X:=Nat,inv:=fun i=>i<=l.length,cB:=fun i=>l.length-i,bM:=fun i=>[(8,sI i),(3,.s (.one (.app jr (dC (l.take i)) (bJ st 3))))],aF:=fun i=>[(bJ st 3,.tok jr (dC (l.take i)))],keep:=[2,6,7],ib:=[bJ st 3]})]
def R0(l:List (D aB))(hw:gM [.slice aB] l)(hp:(fun l=>l.length<=1000) l):(dL Tryz.B [] Tryz.f66 (JG l) [.slice aB] [mm] (fun x y=>y=(fun l=>dC l) x) l).holds:=by
 refine holds_of (p:=
  let za:=bb l
  let zb:=fun(F:Nat)=>dC (bd F l)
  let zc:=fun(F:Nat)=>zb F++[(nth aB l F).2.1]
  za<=aM->(∃(x:Nat),x<=za/\(0=(↑x:Int)/\@bc (List Int)=dC (bd x l)/\True)/\@bc (List Int)=dC (bd x l)/\True)/\∀F:Nat,F<=za->((decide ((↑F:Int)<(↑za:Int)))=true->(0<=(↑F:Int)/\(↑F:Int)<(↑za:Int))/\(zb F=zb F/\bb (zb F)+bb [(nth aB l F).2.1]<=1000000000)/\(aJ (↑F:Int)->aJ 1->aJ ((↑F:Int)+1)/\∃(x':Nat),x'<=za/\za-x'<za-F/\((↑F:Int)+1=(↑x':Int)/\zc F=dC (bd x' l)/\True)/\zc F=dC (bd x' l)/\@bc (List Int)=@bc (List Int)/\True))/\((decide ((↑F:Int)<(↑za:Int)))=false->zb F=dC l)) (by kernel_rfl) ?_
 dsimp -iota -proj -eta only;exact fun h0=>⟨(⟨0,by omega,⟨rfl,rfl,ba⟩,rfl,ba⟩),fun F q_0=>iL (fun h1=>⟨(by omega),(by exact⟨rfl,by rw[nL,b5];simp only[bw];omega⟩),fun h2 h3=>⟨(by simp only[aJ,aM]at*;omega),(⟨F+1,by omega,by omega,⟨by omega,(zR (by omega)).symm,ba⟩,(zR (by omega)).symm,(by trivial)⟩)⟩⟩) (fun h1=>(by rw[c8 (by omega)]))⟩
def Tryz.R1:bW Tryz.prog Tryz.B.eT Tryz.X 66 [.slice aB] [mm] (fun l=>l.length<=1000) (fun x y=>y=(fun l=>dC l) x):=
 cD (X:=Tryz.X) (bR Tryz.bQ) Tryz.func66 (by kernel_rfl) (fun x=>JG x) (fun x hw hp=>R0 x hw hp)
def Tryz.R2:List (FuncId×(Bool×aT)):=[(66,(true,cC [.slice aB] [mm] (fun l=>l.length<=1000) (fun l=>dC l))),(65,(true,cC [mm,.slice aR] [mm,.err] (fun x=>x.1.length<=100000/\∀i,i<x.1.length->(nth jr x.1 i).length<=100000000) (fun x=>je x)))]
def Tryz.UA:bP Tryz.prog Tryz.B Tryz.X Tryz.R2:=
 aO (aE Tryz.R1) (aO (aE Tryz.Xj) (bR Tryz.bQ))
def R3(ns:List (List UInt8))(bs:List Int)(os:List (D aB))(ps:List (D aR)):dX:=[
 (0,fun st=>{X:=Nat,inv:=fun i=>i<=os.length,cB:=fun i=>os.length-i,bM:=fun i=>[(39,sI i),(12,.s (.one (.app dG (jl ns bs (je (dC os,ps)).1 i) (bJ st 12))))],aF:=fun i=>[(bJ st 12,.tok dG (jl ns bs (je (dC os,ps)).1 i))],keep:=[0,1,8,9,10,38],ib:=[bJ st 12]})]
def Xk(ns:List (List UInt8))(bs:List Int)(os:List (D aB))(ps:List (D aR))(hw:gM [.slice .str,.slice (.int .i64),.slice aB,.slice aR] (ns,bs,os,ps))(hp:(fun x=>x.2.2.1.length<=1000/\∀i,i<x.2.2.1.length->(nth aB x.2.2.1 i).2.1.length<=1000) (ns,bs,os,ps)):(dL Tryz.B Tryz.R2 Tryz.f41 (R3 ns bs os ps) [.slice .str,.slice (.int .i64),.slice aB,.slice aR] [.slice dG,.err] (fun x y=>y=(fun x=>jO x.1 x.2.1 x.2.2.1 x.2.2.2) x) (ns,bs,os,ps)).holds:=by
 refine holds_of (p:=
  let za:=bb os
  let zb:=za<=aM
  let zc:=(↑(bb ns):Int)
  let zd:=(↑za:Int)
  let ze:=jO ns bs os ps
  let zf:=([],aK.no 3)=ze
  let zg:=(↑(bb bs):Int)
  let zh:=dC os
  let zi:=je (zh,ps)
  let zj:=(je (zh,ps)).1
  let zk:=fun(F:Nat)=>(↑F:Int)
  let zl:=fun(F:Nat)=>0<=zk F
  let zm:=fun(F:Nat)=>jl ns bs zj F
  let zn:=fun(F:Nat)=>[(nth Ty.str ns F,nth (Ty.int bm) bs F,nth (Ty.slice (Ty.int bm)) zi.1 F,())]
  bb ns<=aM->zb->((zc != zd)=true->zf)/\((zc != zd)=false->bb bs<=aM->zb->((zg != zd)=true->zf)/\((zg != zd)=false->za<=1000/\(bb zh<=100000/\∀(i:Nat),i<bb zh->bb (nth jr zh i)<=100000000)/\((!aK.isNil zi.2)=true->([],zi.2)=ze)/\((!aK.isNil zi.2)=false->zb->(∃(x:Nat),x<=za/\(0=(↑x:Int)/\@bc (List UInt8×Int×List Int×Unit)=jl ns bs zj x/\True)/\@bc (List UInt8×Int×List Int×Unit)=jl ns bs zj x/\True)/\∀F:Nat,F<=za->((decide (zk F<zd))=true->(zl F/\zk F<zc)/\(zl F/\zk F<zg)/\(zl F/\zk F<(↑(bb zi.1):Int))/\(zm F=zm F/\bb (zm F)+bb (zn F)<=1000000000)/\(aJ (zk F)->aJ 1->aJ (zk F+1)/\∃(x':Nat),x'<=za/\za-x'<za-F/\(zk F+1=(↑x':Int)/\zm F++zn F=jl ns bs zj x'/\True)/\zm F++zn F=jl ns bs zj x'/\@bc (List UInt8×Int×List Int×Unit)=@bc (List UInt8×Int×List Int×Unit)/\True))/\((decide (zk F<zd))=false->(zm F,aK.nil)=ze))))) (by kernel_rfl) ?_
 dsimp -iota -proj -eta only;dsimp only at hp;refine fun h0 h1=>iN (fun h2=>((Cy (.inl (by omega))).symm)) (fun h2 h3 h4=>iN (fun h5=>((Cy (.inr (by omega))).symm)) (fun h5=>⟨?a,(VB hp),iB (fun h6=>((Tn (by omega) (by omega) h6).symm)) (fun h6 h7=>⟨(⟨0,by omega,⟨rfl,rfl,ba⟩,rfl,ba⟩),fun F q_0=>iL (fun h8=>⟨?b,?c,(by rw[S5 ‹_›,nL];omega),(by exact⟨rfl,by rw[Nr];simp only[bw];omega⟩),fun h9 h10=>⟨(by simp only[aJ,aM]at*;omega),(⟨F+1,by omega,by omega,⟨by omega,(zT _ _ _ _).symm,ba⟩,(zT _ _ _ _).symm,(by trivial)⟩)⟩⟩) (fun h8=>(by rw[DE (by omega) (by omega) ‹_›,show F=os.length by omega]))⟩)⟩))
 case a|b|c=>omega
def Tryz.R4:bW Tryz.prog Tryz.B.eT Tryz.X 41 [.slice .str,.slice (.int .i64),.slice aB,.slice aR] [.slice dG,.err] (fun x=>x.2.2.1.length<=1000/\∀i,i<x.2.2.1.length->(nth aB x.2.2.1 i).2.1.length<=1000) (fun x y=>y=(fun x=>jO x.1 x.2.1 x.2.2.1 x.2.2.2) x):=
 cD (X:=Tryz.X) Tryz.UA Tryz.func41 (by kernel_rfl) (fun x=>R3 x.1 x.2.1 x.2.2.1 x.2.2.2) (fun x hw hp=>Xk x.1 x.2.1 x.2.2.1 x.2.2.2 hw hp)
def Tryz.F1:List (FuncId×(Bool×aT)):=[(12,(false,aX Tryz.aU [.obj 0,.d .str] (fun _ x=>x.2.1.1.length<=6) Tryz.D0)),(63,(true,cC [.slice aB] [.slice (.int .i64)] (fun l=>l.length<=1000) (fun l=>bZ l))),(62,(true,cC [.slice (.int .i64),.slice aZ] [.slice (.int .i64),.err] (fun _=>True) (fun x=>cN x))),(64,(true,cC [.slice aB,.slice (.int .i64)] [.slice aR,.err] (fun x=>jP x.1) (fun x=>iJ x)))]
def Tryz.K4:bP Tryz.prog Tryz.B Tryz.X Tryz.F1:=
 aO (Tryz.KZ) (aO (aE Tryz.RZ) (aO (aE Tryz.Ux) (aO (aE Tryz.Xh) (bR Tryz.bQ))))
def Tryz.vY:List (Alt Tryz.aU [.obj 0,.d .str]):=[{bO:=Tryz.aU,res:=[.d (.slice .str),.d (.slice aB),.d (.slice (.int .i64)),.d (.slice aR),.d .err],out:=fun _ x=>x,ret:=fun a x=>((aY (aL x) a.1).1,(aY (aL x) a.1).2.1,(aY (aL x) a.1).2.2.1,(aY (aL x) a.1).2.2.2.1,aI (aY (aL x) a.1).2.2.2.2,())}]
def R5(s:List UInt8)(f:cG)(hw:hU [.obj 0,.d .str] (s,()))(hp:(fun _ x=>x.2.1.1.length<=6) (s,()) f):(dA Tryz.B Tryz.F1 Tryz.f40 [] Tryz.aU [.obj 0,.d .str] Tryz.vY (s,()) f).holds:=by
 refine holds_of (p:=
  let za:=bF (aL f) s
  let zb:=aI za.2.2
  let zc:=f=f
  let zd:=aY (aL f) s
  let ze:=(zd.1,zd.2.1,zd.2.2.1,zd.2.2.2.1,aI zd.2.2.2.2,())
  let zf:=za.2.1
  let zg:=cN (bZ zf,[])
  let zh:=iJ (zf,zg.1)
  bb f.2.1.1<=6/\(True->((!aK.isNil zb)=true->True/\zc/\([],[],[],[],zb,())=ze)/\((!aK.isNil zb)=false->bb zf<=1000/\True/\((!aK.isNil zg.2)=true->True/\zc/\([],[],[],[],zg.2,())=ze)/\((!aK.isNil zg.2)=false->jP zf/\((!aK.isNil zh.2)=true->True/\zc/\([],[],[],[],zh.2,())=ze)/\((!aK.isNil zh.2)=false->True/\zc/\(za.1,zf,zg.1,zh.1,aK.nil,())=ze))))) (by kernel_rfl) ?_
 dsimp -iota -proj -eta only;exact⟨(by trivial),fun h0=>iB (fun h1=>⟨ba,rfl,by rw[xI (eG h1)]⟩) (fun h1=>⟨(b4 (P8 (jD hp) (aQ.1 ‹_›)) (by decide)),ba,iB (fun h2=>⟨ba,rfl,by rw[xJ (aQ.1 ‹_›) h2,ru (Cv _)]⟩) (fun h2=>⟨(Ns (jD hp) (aQ.1 ‹_›)),iB (fun h3=>⟨ba,rfl,by rw[Cw (aQ.1 ‹_›) ‹_› h3,Tq]⟩) (fun h3=>(by exact⟨ba,rfl,by rw[zS (aQ.1 ‹_›) ‹_› ‹_›];rfl⟩))⟩)⟩)⟩
def Tryz.F2:bX Tryz.prog Tryz.B.eT Tryz.X 40 false (aX Tryz.aU [.obj 0,.d .str] (fun _ x=>x.2.1.1.length<=6) Tryz.vY):=
 bH (X:=Tryz.X) Tryz.K4 Tryz.func40 (by kernel_rfl) (fun(a:CD [.obj 0,.d .str]) (x:PD Tryz.aU)=>[]) (fun(a:CD [.obj 0,.d .str]) (x:PD Tryz.aU) hw hp=>R5 a.1 x hw hp)
def Tryz.spZ30:Bool×aT:=(false,aX Tryz.aU [.obj 0,.d .str] (fun _ x=>x.2.1.1.length<=6) Tryz.vY)
def Tryz.spZ31:Bool×aT:=(true,cC [.slice .str,.slice (.int .i64),.slice aB,.slice aR] [.slice dG,.err] (fun x=>x.2.2.1.length<=1000/\∀i,i<x.2.2.1.length->(nth aB x.2.2.1 i).2.1.length<=1000) (fun x=>jO x.1 x.2.1 x.2.2.1 x.2.2.2))
def Tryz.Me:List (FuncId×(Bool×aT)):=[(40,Tryz.spZ30),(41,Tryz.spZ31)]
def Tryz.R6:bP Tryz.prog Tryz.B Tryz.X Tryz.Me:=
 aO (Tryz.F2) (aO (aE Tryz.R4) (bR Tryz.bQ))
def Tryz.Bu:List (Alt Tryz.aU [.obj 0,.d .str]):=[{bO:=Tryz.aU,res:=[.d (.slice dG),.d .err],out:=fun _ x=>x,ret:=fun a x=>((gK (aL x) a.1).1,aI (gK (aL x) a.1).2,())}]
def Wk(s:List UInt8)(f:cG)(hw:hU [.obj 0,.d .str] (s,()))(hp:(fun _ x=>x.2.1.1.length<=6) (s,()) f):(dA Tryz.B Tryz.Me Tryz.f22 [] Tryz.aU [.obj 0,.d .str] Tryz.Bu (s,()) f).holds:=by
 refine holds_of (p:=
  let za:=aY (aL f) s
  let zb:=aI za.2.2.2.2
  let zc:=gK (aL f) s
  let zd:=(zc.1,aI zc.2,())
  let ze:=bb za.2.1
  let zf:=jO za.1 za.2.2.1 za.2.1 za.2.2.2.1
  bb f.2.1.1<=6/\(True->((!aK.isNil zb)=true->True/\f=f/\([],zb,())=zd)/\((!aK.isNil zb)=false->(ze<=1000/\∀(i:Nat),i<ze->bb (nth aB za.2.1 i).2.1<=1000)/\True/\f=f/\(zf.1,zf.2,())=zd))) (by kernel_rfl) ?_
 dsimp -iota -proj -eta only;exact⟨(by trivial),fun h0=>iB (fun h1=>⟨ba,rfl,by rw[To (eG h1)]⟩) (fun h1=>⟨(H7 (jD hp) (aQ.1 ‹_›)),⟨ba,rfl,Tp (aQ.1 ‹_›)⟩⟩)⟩
def Tryz.Mf:bX Tryz.prog Tryz.B.eT Tryz.X 22 false (aX Tryz.aU [.obj 0,.d .str] (fun _ x=>x.2.1.1.length<=6) Tryz.Bu):=
 bH (X:=Tryz.X) Tryz.R6 Tryz.func22 (by kernel_rfl) (fun(a:CD [.obj 0,.d .str]) (x:PD Tryz.aU)=>[]) (fun(a:CD [.obj 0,.d .str]) (x:PD Tryz.aU) hw hp=>Wk a.1 x hw hp)
end Go.Proofs.YtgokjhhcfemnhadGreatDoor

