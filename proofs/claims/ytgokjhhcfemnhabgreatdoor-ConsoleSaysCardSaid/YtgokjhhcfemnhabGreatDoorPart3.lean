/- A part of the proof that the law ConsoleSaysCard holds of the given program: facts that are used there. -/
import Derived.Test.YtgokjhhcfemnhabGreatDoorPart2
import Derived.RangeFuncWrites
import Derived.RangeFuncCalls
import Derived.OrdersIn
import Derived.TacticsIn
import Derived.RangeFuncBox
import Derived.Lib.Strings
import Derived.Lib.Join
import Derived.Handed
import Derived.Clock
import Derived.Lib.LaidTab
import Derived.Lib.LaidU8
import Derived.Lay
set_option linter.unusedSimpArgs false
set_option linter.unusedVariables false
set_option linter.defProp false
noncomputable section
open List renaming length_append->ab,length_cons->ai,take->aj,length_singleton->ak,range->ao,mem_append->aq,length_set->au,drop->av,mem_map->ay,length_take->a8,length_map->bd,map_cons->bf,mem_cons->bj,mem_singleton->bm,filter_append->bq,cons_append->b8,take_length->cf,mem_of_getElem?->cj,mem_filterMap->ck,length_nil->cr,length_range->ct,length_drop->cw,length->c8,mem_cons_of_mem->da,filter_cons->db,replicate->dc,map_append->dd,nodup_cons->de,take_of_length_le->di,all_eq_true->dm,nil_append->dw,length_filter_le->dx,flatMap_cons->dy,append_assoc->dz,filter_eq_self->dT,ext_getElem?->ec,mem_or_eq_of_mem_set->ee,length_eraseIdx->eg,take_succ_cons->ei,length_pos_iff->en,take_left'->eo
open Bool renaming and_eq_true->ad,not_eq_true'->dr
open Nat renaming le_trans->ae,le_refl->ag,lt_of_lt_of_le->al,zero_le->ar,beq->a7,eq_of_beq_eq_true->bb,mul_le_mul_right->br,add_mul->bt,not_lt_zero->bu,or_lt_two_pow->cc,lt_irrefl->cn,not_lt->cp,mul_lt_mul_of_pos_right->cy,le_add_right->df
open Go.Lib renaming itoa->af,join->aw,splitK->ax,join_cons->bw,decDigits->bx,count_one->cd,joinTail->ch,count->cu,index->cz,trimSuffix->ej
open Go.Fence renaming wide->ah
open Int renaming toNat_natCast->az,le_refl->bg,le_trans->bo,ofNat_le->bp,not_lt->bz,toNat->b5,tmod_eq_emod_of_nonneg->b9
open Option.some renaming inj->ba
open Prod renaming ext->bc
open Go.Oper renaming uponIn->bh,semAt_eq->dj
open Classical renaming not_not->b4,choose->c6,choose_spec->c7
open Go.IntKind renaming wrap->b6,i64->b7,u8->dq
open UInt8 renaming ofNat->cg
open Array renaming getD_eq_getD_getElem?->cm,toArray_toList->du
open BitVec renaming ofInt->cq
open Go.DataW renaming trod->dh
open Go.Region renaming Mode->dk
open Go.Value renaming ownBlock->dp
open Go.World renaming putObj_heap_other->dt
open Option renaming isSome_iff_exists->dv
open Go.OpenSpec renaming ofChange->ep
open Go.RowKit.Below renaming refl->er
open Bool renaming false->ψ,true->φ
open Option renaming some->ξ,none->χ
open Decidable renaming decide->ρ
namespace Go.Mrl
open Go.Vg
def XC{n:Nat}{p:Pt}(h:eW p.2.2.1=ψ):dY n p=1:=by unfold dY;rw[π];exact .inr (.inr (.inr (.inr h)))
def SW{n:Nat}{p:Pt}(h1:(0:Int)<=p.1)(h2:p.1<(n:Int))(h3:(0:Int)<=p.2.1)(h4:p.2.1<=(39:Int))(h5:eW p.2.2.1=φ):dY n p=0:=by
 unfold dY;rw[ε];rintro(e|e|e|e|e)
 ·exact absurd e (bz.2 h1)
 ·exact absurd h2 (bz.2 e)
 ·exact absurd e (bz.2 h3)
 ·exact absurd e (bz.2 h4)
 ·rw[h5]at e;cases e
def aji{e:D aC}{i:Nat}(h:i<e.2.1.length):iw e i++[32]++(nth aJ e.2.1 i).1++[32]++af (nth aJ e.2.1 i).2.1++[32]++af (nth aJ e.2.1 i).2.2.1=iw e (i+1):=by
 rw[Hk h];simp[oe]
def ajj{e:D aC}{i:Nat}(h:i<e.2.2.1.length):gT e i++[32]++af (nth aQ e.2.2.1 i).1++[32]++af (nth aQ e.2.2.1 i).2.1++[32]++af (nth aQ e.2.2.1 i).2.2.1=gT e (i+1):=by
 rw[Hl h];simp[og]
section
variable{s:aA}
end
def kC(rd:Rd)(l:List (D bS)):List (D aJ):=l.map fun p=>(p.1,(rd p.1).2.1,p.2.1,())
def Ef(rd:Rd)(l:List (D bS)):(kC rd l).length=l.length:=by simp[kC]
def Cm{rd:Rd}{l:List (D bS)}{i:Nat}(h:i<l.length):kC rd (l.take i)++[((nth bS l i).1,(rd (nth bS l i).1).2.1,(nth bS l i).2.1,())]=kC rd (l.take (i+1)):=by
 rw[fJ (t:=bS) h];simp[kC]
def PL{rd:Rd}{l:List (D bS)}{x:D aJ}(h:l.length<=1000):(kC rd l).length+ [x].length<=1000000000:=by rw[Ef,ak];omega
def KY{rd:Rd}(ok:gG rd){s:aA}(h:(cR rd s).2 > 0):dA rd s=(cD aC,(cR rd s).2):=by
 have e:=(SM ok h).1;have e5:(bC rd s).2.2.2.2=(cR rd s).2:=by rw[e]
 rw[Fu (by rw[e5];omega),e5]
def aeO{rd:Rd}(ok:gG rd){s:aA}(h:(cR rd s).2<=0):(cR rd s).1.length<=6:=by
 obtain⟨ns,os,bs,ps,e,hr,el⟩:=Pq ok h;rw[el];show(eD ns bs (ia (cM os) ps) os.length).length<=6;rw[oL];have a:=hr.sc.len;have b:=hr.sc.le;omega
def PM{rd:Rd}(ok:gG rd){s:aA}(h:(cR rd s).2<=0){i:Nat}(hi:¬i<(cR rd s).1.length):dA rd s=((s,kC rd ((cR rd s).1.take i),(bC rd s).2.2.2.1,()),0):=by
 rw[di ω];obtain⟨ns,os,bs,ps,e,hr,el⟩:=Pq ok h;rw[u6 (by rw[e]),e,el];have hst:cT rd ns bs ns.length=kC rd (eD ns bs (ia (cM os) ps) os.length):=by
  refine lG (t:=aJ) (by rw[fE,Ef,oL,hr.sc.len]) fun j hj =>?_
  rw[fE]at hj;have hl:j<(eD ns bs (ia (cM os) ps) os.length).length:=by rw[oL,hr.sc.len];exact hj
  rw[jX hj,show nth aJ (kC rd (eD ns bs (ia (cM os) ps) os.length)) j=_ from sX (t:=aJ) (u:=bS) hl,G3 (by rw[hr.sc.len];exact hj)]
 simp only;rw[hst]
def aaF{rd:Rd}{p:D aJ}(h:(rd p.1).2.2 > 0):gX rd p=ψ:=by unfold gX;rw[decide_eq_false ω];rfl
def XD{rd:Rd}{p:D aJ}(hc:(rd p.1).2.2=0\/(rd p.1).2.2=5)(h:(rd p.1).2.2<=0)(h2:(rd p.1).2.1=p.2.1):gX rd p=φ:=by
 unfold gX;rw[decide_eq_true ω,decide_eq_true h2];rfl
def PN(e:D aC):(dM e).2=aP (bF e):=by
 unfold dM;split
 ·rfl
 ·next h=>rw[b4.1 h];rfl
def SX{rd:Rd}(ok:gG rd)(s:aA):0<=(dA rd s).2:=by
 have h0:=D3 ok s;by_cases h:(cR rd s).2 > 0
 ·rw[KY ok h];exact h0
 ·rw[PM ok ω (i:=(cR rd s).1.length) ω];exact bg 0
end Go.Mrl

namespace Go.Vg
open Go.RowKit
def pA(F:Fence):Prop:=F=ah\/∃l,F=ah.inRound l
def o1(ds:List Deferred)(a:Act):Act:={a with defers:=ds}
def u9(ds:List Deferred)(a:Act)(d:Option Tmp)(v:Value):(o1 ds a).put d v=o1 ds (a.put d v):=by cases d <;> rfl
def PO(ds:List Deferred)(a:Act):(o1 ds a).eval=a.eval:=by funext x;cases x <;> rfl
def PQ(ds:List Deferred)(a:Act):(o1 ds a).tmps=a.tmps:=rfl
def put_defers(a:Act)(d:Option Tmp)(v:Value):(a.put d v).defers=a.defers:=by cases d <;> rfl
section
variable{P:Program}{F:Fence}{n:Nat}
def pA.fn(h:pA F)(f:FuncId):F.fn f:=by rcases h with rfl|⟨l,rfl⟩ <;> trivial
def pA.deep(h:pA F):¬F.depth.isSome=φ:=by rcases h with rfl|⟨l,rfl⟩ <;> simp[ah,Fence.inRound]
def pA.calls(h:pA F){f:FuncId}{args:Array Value}{w:World}{R:Ending->World->Prop}(hc:Calls P f args w R):CallsIn F n P f args w R:=by
 rcases h with rfl|⟨l,rfl⟩
 ·exact callsIn_wide.2 hc
 ·exact CallsIn.inRound l (callsIn_wide.2 hc)
def pA.rows(h:pA F){row:String}{args:Array Value}{w:World}{R:Value->World->Prop}(hc:Rows P row args w R):RowsIn F n P row args w R:=by
 have hs:∀{m m':Machine},Steps P m m'->StepsIn (Machine.fenced P F) P m m':=by
  rcases h with rfl|⟨l,rfl⟩
  ·exact stepsIn_wide.2
  ·exact fun hh=>stepsIn_wide.2 hh
 intro c cs _;obtain⟨v,w',r,s⟩:=hc c cs;exact⟨v,w',r,hs s⟩
structure Ae (Q:Exit->Act->World->Prop):Prop where
 bare:∀e a w,Q e a w->a.defers=[]
 pan:∀c a w,¬Q (.panic c) a w
 out:¬LetsOut Q
variable{Q Q':Exit->Act->World->Prop}
def Jd(hQ:Ae Q){o:Oper}{K:Act->World->Prop}(hK:∀a w,K a w->a.defers=[]){a:Act}{w:World}(h:o.wp P a w K Q):a.defers=[]:=by
 unfold Oper.wp at h;generalize (execOp a.eval o).run P w=r at h;cases r with
 |ok x w'=>
  cases x with
  |value v=>have:=hK _ _ h;rwa [put_defers]at this
  |skip=>have:=hK _ _ h;rwa [put_defers]at this
  |defer d=>have:=hK _ _ h;rw[put_defers]at this;cases this
  |enter f args=>
   obtain⟨e,w2,fr,hr,_⟩:=h [];cases e with
   |returned v=>have:=hK _ _ hr;rwa [put_defers]at this
   |panicked c=>exact absurd hr (hQ.pan _ _ _)
   |outgrown=>exact absurd hr hQ.out
  |row row args=>
   obtain⟨v,w2,hr,_⟩:=h default [];have:=hK _ _ hr;rwa [put_defers]at this
  |_=>exact h.elim
 |halt x w'=>
  cases x with
  |panic v=>exact absurd h (hQ.pan _ _ _)
  |_=>exact h.elim
def qy(o:Oper):Bool:=match o.op with
 |.defer _=>ψ
 |_=>φ
def XE{o:Oper}(h:qy o=φ):∀c,o.op≠.defer c:=by
 intro c e;unfold qy at h;rw[e]at h;cases h
def agM(hF:pA F)(hQ:Ae Q){o:Oper}(hnd:qy o=φ){K K':Act->World->Prop}{ds:List Deferred}(hK:∀a w,K a w->a.defers=[])(hK':∀a w,K a w->K' (o1 ds a) w){a:Act}{w:World}
  (h:o.wp P a w K Q):o.wpIn F n P (o1 ds a) w K' Q':=by
 refine⟨fun f _=>hF.fn f,?_⟩;rw[dj _ _ _ (XE hnd),PO];unfold Oper.wp at h;have hb:=Jd (P:=P) hQ hK (o:=o) (a:=a) (w:=w) h;generalize (execOp a.eval o).run P w=r at h;cases r with
 |ok x w'=>
  cases x with
  |value v=>simp only[bh,u9];exact hK' _ _ h
  |skip=>simp only[bh,u9];exact hK' _ _ h
  |defer d=>have:=hK _ _ h;rw[put_defers]at this;cases this
  |enter f args=>
   simp only[bh];refine⟨fun e=>absurd e hF.deep,hF.calls (Calls.mono h fun e w2 hr =>?_)⟩;cases e with
   |returned v=>simp only[u9];exact hK' _ _ hr
   |panicked c=>exact absurd hr (hQ.pan _ _ _)
   |outgrown=>exact absurd hr hQ.out
  |row row args=>
   simp only[bh];refine⟨fun e=>absurd e hF.deep,hF.rows (Rows.mono h fun v w2 hr =>?_)⟩;simp only[u9];exact hK' _ _ hr
  |_=>exact h.elim
 |halt x w'=>
  cases x with
  |panic v=>exact absurd h (hQ.pan _ _ _)
  |_=>exact h.elim
def Cn(hQ:Ae Q){ops:Array Oper}:∀(l:List Oper) (a:Act) (w:World),wpList P ops Q l a w->a.defers=[]
 |[],a,w,h=>hQ.bare _ _ _ h
 |o :: r,a,w,h=>by
  unfold wpList at h;split at h
  ·rcases h with h|⟨_,h⟩
   ·exact Jd hQ (fun a w h=>Cn hQ r a w h) h
   ·exact absurd h hQ.out
  ·have:=Cn hQ r _ _ h;rwa [put_defers]at this
def Je(hF:pA F)(hQ:Ae Q){ds:List Deferred}(hE:∀a w,Q .normal a w->Q' .normal (o1 ds a) w){ops:Array Oper}:∀(l:List Oper) (_:l.all qy=φ) (a:Act) (w:World),wpList P ops Q l a w->wpListIn F n P ops Q' l (o1 ds a) w
 |[],_,a,w,h=>hE a w h
 |o :: r,hl,a,w,h=>by
  simp only[List.all_cons,ad]at hl;unfold wpListIn;unfold wpList at h;rw[PQ];split
  ·rename_i hw
   rw[π hw]at h;rcases h with h|⟨_,h⟩
   ·exact agM hF hQ hl.1 (fun a w h=>Cn hQ r a w h) (fun a w h=>Je hF hQ hE r hl.2 a w h) h
   ·exact absurd h hQ.out
  ·rename_i hw
   rw[ε hw]at h;refine⟨fun f _=>hF.fn f,?_⟩;rw[u9];exact Je hF hQ hE r hl.2 _ _ h
def aaH(hQ:Ae Q){ops:Array Oper}{i:Nat}{K:Act->World->Prop}(hK:∀a w,K a w->a.defers=[]){a:Act}{w:World}(h:wpOp P ops Q i K a w):a.defers=[]:=by
 unfold wpOp at h;split at h
 ·exact hK _ _ h
 ·split at h
  ·rcases h with h|⟨_,h⟩
   ·exact Jd hQ hK h
   ·exact absurd h hQ.out
  ·have:=hK _ _ h;rwa [put_defers]at this
def PR(hQ:Ae Q){ops:Array Oper}{md:dk}:∀(n:Nat) (L:Array Bool) (a:Act) (w:World),wpAny P md ops Q n L a w->a.defers=[]
 |0,_,_,_,h=>hQ.bare _ _ _ h.2
 |n+1,L,a,w,h=>by
  cases hr:Region.ready md ops L with
  |nil=>exact hQ.bare _ _ _ (h.1 hr)
  |cons i r=>exact aaH hQ (fun a w h=>PR hQ n _ a w h) (h.2 i (by rw[hr];simp))
def ahv(hF:pA F)(hQ:Ae Q){ops:Array Oper}(hl:ops.toList.all qy=φ){ds:List Deferred}{i:Nat}{K K':Act->World->Prop}(hK:∀a w,K a w->a.defers=[])(hK':∀a w,K a w->K' (o1 ds a) w){a:Act}{w:World}
  (h:wpOp P ops Q i K a w):wpOpIn F n P ops Q' i K' (o1 ds a) w:=by
 unfold wpOpIn;unfold wpOp at h;split
 ·rename_i hi;simp only[hi]at h;exact hK' _ _ h
 ·rename_i o hi
  simp only[hi]at h;have ho:qy o=φ:=dm.1 hl o (by rw[<-Array.getElem?_toList]at hi;exact cj hi);rw[PQ];split
  ·rename_i hw
   rw[π hw]at h;rcases h with h|⟨_,h⟩
   ·exact agM hF hQ ho hK hK' h
   ·exact absurd h hQ.out
  ·rename_i hw
   rw[ε hw]at h;refine⟨fun f _=>hF.fn f,?_⟩;rw[u9];exact hK' _ _ h
def aaI(hF:pA F)(hQ:Ae Q){ds:List Deferred}(hE:∀a w,Q .normal a w->Q' .normal (o1 ds a) w){ops:Array Oper}(hl:ops.toList.all qy=φ){md:dk}:∀(k:Nat) (L:Array Bool) (a:Act) (w:World),wpAny P md ops Q k L a w->wpAnyIn F n P md ops Q' k L (o1 ds a) w
 |0,_,_,_,h=>⟨h.1,hE _ _ h.2⟩
 |k+1,L,a,w,h=>⟨fun e=>hE _ _ (h.1 e),fun i hi=>ahv hF hQ hl (fun a w h=>PR hQ k _ a w h) (fun a w h=>aaI hF hQ hE hl k _ a w h) (h.2 i hi)⟩
end
def mQ:Code->Bool
 |.skip=>φ
 |.region _ ops _=>ops.toList.all qy
 |.seq a b=>mQ a&&mQ b
 |.cond _ a b=>mQ a&&mQ b
 |.block _ b=>mQ b
 |.exit _=>φ
 |.ret=>φ
 |_=>ψ
section
variable{X:Ext}{P:Program}{cx:Cx}{F:Fence}{n:Nat}
def Eg(ds:List Deferred)(Q:Exit->Act->World->Prop):Exit->Act->World->Prop:=fun e a w=>∃a',a=o1 ds a'/\a'.defers=[]/\Q e a' w
def Fx{O:aO}{K:Ex->St->VC}{W:List Nat}{st:St}{S:bT}:Ae (lB cx X O K W st S) where
 bare e a w h:=by
  cases e with
  |normal=>obtain⟨_,_,_,_,_,k,_⟩:=h;exact k.defers
  |exit i=>obtain⟨_,_,_,_,_,k,_⟩:=h;exact k.defers
  |ret=>obtain⟨_,_,_,_,_,k,_⟩:=h;exact k.defers
  |goto l=>exact h.elim
  |panic c=>exact h.elim
  |outgrown=>exact h.elim
 pan c a w h:=h.elim
 out h:=let⟨_,_,hh⟩:=h;hh.elim
def lB.on{O:aO}{K:Ex->St->VC}{W:List Nat}{st:St}{S:bT}{ds:List Deferred}{e:Exit}{a:Act}{w:World}(h:lB cx X O K W st S e a w):Eg ds (lB cx X O K W st S) e (o1 ds a) w:=⟨a,rfl,Fx.bare _ _ _ h,h⟩
def ajk(hok:nU P cx X)(hF:pA F)(ds:List Deferred){O:aO}{id:Nat}{ops:Array Oper}{draw:Bool}(hl:ops.toList.all qy=φ){st:St}{loc:Nat->Loc}{w:World}{a:Act}{K:Ex->St->VC}(hA:hZ cx (aD O st loc w) st a)(g:Good cx.eT X (aD O st loc w))(hO:gx O w)
  (h:(C4 cx ops draw st (K .normal)).holds):(Code.region id ops draw).wpIn F n P (Eg ds (lB cx X O K (eV ops.toList) st (aD O st loc w))) (o1 ds a) w:=by
 have hW:∀(j:Nat) (oj:Oper) (d:Nat),ops[j]?=ξ oj->oj.dst=ξ d->d∈eV ops.toList:=by
  intro j oj d hj hd;exact ck.2 ⟨oj,by rw[<-Array.getElem?_toList]at hj;exact cj hj,hd⟩
 have hq:∀st' loc' a' w',(K .normal st').holds->Good cx.eT X (aD O st' loc' w')->Tr (aD O st loc w) (aD O st' loc' w')->hZ cx (aD O st' loc' w') st' a'->qi (eV ops.toList) st st'->
   lB cx X O K (eV ops.toList) st (aD O st loc w) .normal a' w':=fun st' loc' a' w' h1 h2 h3 h4 h5=>⟨st',loc',h1,h2,h3,h4,h5⟩
 unfold C4 at h;cases draw with
 |false=>
  refine wpIn_region_list (Je hF Fx (fun a w h=>h.on) _ hl _ _ ?_);exact DE hok hW ops.toList (fun o ho d hd=>ck.2 ⟨o,ho,hd⟩) hA g hO h hq
 |true=>
  split at h
  ·rename_i e;cases e
  ·rename_i e
   split at h
   ·rename_i hreg
    rw[Uh]at h;refine wpIn_region_any hok.mixed (aaI hF Fx (fun a w h=>h.on) hl _ _ _ _ (IQ (loud:=my cx ops.toList) _ _ _ _ (aD O st loc {w with drawn:=w.drawn+1}).A ?_));have hdrew:Below w.heap.size w {w with drawn:=w.drawn+1}:=⟨rfl,rfl,ag _,fun _ _=>rfl⟩;obtain⟨tr,g'⟩:=rH (S:=aD O st loc w) (S':=aD O st loc {w with drawn:=w.drawn+1}) g rfl rfl rfl rfl hdrew;refine DF hok hW hreg (fun c a w h=>h) ops.size _ ?_ ⟨hA.size,hA.defers,hA.env.tr tr⟩ g' (hO.tr (ag _)) h ?_
    ·intro j o ho hj
     rw[cm,Array.getElem?_replicate]at hj;split at hj <;> simp at hj
    ·intro st' loc' a' w' h1 h2 h3 h4 h5
     obtain⟨st2,loc2,k1,k2,k3,k4,k5⟩:=ir.ren (K:=K .normal) (f:=canon st.next (eV ops.toList)) (W:=eV ops.toList) hA (fun st'=>by
      rcases Gm st.next (eV ops.toList) st' with e|⟨r,q,k1,k2⟩
      ·exact .inl e
      ·exact .inr ⟨r,q,k1,k2⟩) (⟨st',loc',h1,h2,tr.trans h3,h4,h5⟩:ir cx X O (fun st'=>K .normal (canon st.next (eV ops.toList) st')) (eV ops.toList) st (aD O st loc w) a' w')
     exact hq st2 loc2 a' w' k1 k2 k3 k4 k5
   ·exact h.elim
def Eg.mono{ds:List Deferred}{Q Q':Exit->Act->World->Prop}(h:∀e a w,Q e a w->Q' e a w){e:Exit}{a:Act}{w:World}(hq:Eg ds Q e a w):Eg ds Q' e a w:=let⟨a',k1,k2,k3⟩:=hq;⟨a',k1,k2,h _ _ _ k3⟩
def Co(hok:nU P cx X)(hF:pA F)(ds:List Deferred){O:aO}:∀(c:Code) (cur:Nat) (_:mQ c=φ) {st:St} {loc:Nat->Loc} {w:World} {a:Act} {K:Ex->St->VC},
  hZ cx (aD O st loc w) st a->Good cx.eT X (aD O st loc w)->gx O w->(vc cx [] c cur st K).holds->c.wpIn F n P (Eg ds (lB cx X O K (writes [] cur c) st (aD O st loc w))) (o1 ds a) w:=by
 intro c;induction c with
 |skip=>intro cur _ st loc w a K hA g hO h;exact wpIn_skip (lB.on ⟨st,loc,h,g,Tr.refl _,hA,fun _ _ _ _ h=>h⟩)
 |region id ops draw=>
  intro cur hs st loc w a K hA g hO h;exact ajk hok hF ds hs hA g hO h
 |seq c1 c2 ih1 ih2=>
  intro cur hs st loc w a K hA g hO h;simp only[mQ,ad]at hs;refine wpIn_seq ?_;refine wpIn_mono (ih1 cur hs.1 hA g hO h) ?_;rintro e a0 w' ⟨a',rfl,hb,hq⟩;have key:∀e,e≠.normal->lB cx X O (fun e st'=>match e with
   |.normal=>vc cx [] c2 cur st' K
   |e=>K e st') (writes [] cur c1) st (aD O st loc w) e a' w'->Eg ds (lB cx X O K (writes [] cur (.seq c1 c2)) st (aD O st loc w)) e (o1 ds a') w':=by
   intro e he hq;refine lB.on (lB.mono (W:=writes [] cur c1) (st1:=st) (S1:=aD O st loc w) ?_ (Tr.refl _) (fun _ _ _ _ h=>h) (fun n hn=>aq.2 (.inl hn)));cases e with
   |normal=>exact absurd rfl he
   |exit i=>exact hq
   |ret=>exact hq
   |goto l=>exact hq.elim
   |panic c=>exact hq.elim
   |outgrown=>exact hq.elim
  cases e with
  |normal=>
   obtain⟨st',loc',k1,k2,k3,k4,k5⟩:=hq;refine wpIn_mono (ih2 cur hs.2 k4 k2 (hO.tr k3.size) k1) ?_;intro e a2 w2 hq2;exact hq2.mono fun e a w hq=>hq.mono k3 (W':=writes [] cur (.seq c1 c2)) (fun hm t ht=>k5 (fun h=>hm (aq.2 (.inl h))) t fun hm=>ht (aq.2 (.inl hm))) (fun n hn=>aq.2 (.inr hn))
  |exit i=>exact key _ ς hq
  |ret=>exact key _ ς hq
  |goto l=>exact hq.elim
  |panic c=>exact hq.elim
  |outgrown=>exact hq.elim
 |cond x c1 c2 ih1 ih2=>
  intro cur hs st loc w a K hA g hO h;simp only[mQ,ad]at hs;have hx:=cB hA.env x;have h1:∀{K},(vc cx [] c1 cur st K).holds->c1.wpIn F n P (Eg ds (lB cx X O K (writes [] cur (.cond x c1 c2)) st (aD O st loc w))) (o1 ds a) w:=fun h=>
   wpIn_mono (ih1 cur hs.1 hA g hO h) fun e a' w' hq=>hq.mono fun e a w hq=>hq.mono (Tr.refl _) (fun _ _ _ _ h=>h) (fun n hn=>aq.2 (.inl hn))
  have h2:∀{K},(vc cx [] c2 cur st K).holds->c2.wpIn F n P (Eg ds (lB cx X O K (writes [] cur (.cond x c1 c2)) st (aD O st loc w))) (o1 ds a) w:=fun h=>
   wpIn_mono (ih2 cur hs.2 hA g hO h) fun e a' w' hq=>hq.mono fun e a w hq=>hq.mono (Tr.refl _) (fun _ _ _ _ h=>h) (fun n hn=>aq.2 (.inr hn))
  have hev:(o1 ds a).eval x=a.eval x:=by rw[PO]
  have h':(match fC st.env x with
    |.lit φ=>vc cx [] c1 cur st K
    |.lit ψ=>vc cx [] c2 cur st K
    |.d .bool g =>.ite g (vc cx [] c1 cur st K) (vc cx [] c2 cur st K)
    |_ =>.ff).holds:=h
  split at h'
  ·rename_i hl;rw[hl]at hx;exact wpIn_cond_true (hev.trans hx) (h1 h')
  ·rename_i hl;rw[hl]at hx;exact wpIn_cond_false (hev.trans hx) (h2 h')
  ·rename_i b hl
   rw[hl]at hx;have hx:=(fW (eT:=cx.eT) (S:=aD O st loc w) (b:=b)).1 hx;cases b
   ·exact wpIn_cond_false (hev.trans hx) (h2 (h'.2 rfl))
   ·exact wpIn_cond_true (hev.trans hx) (h1 (h'.1 rfl))
  ·exact h'.elim
 |block id b ih=>
  intro cur hs st loc w a K hA g hO h;refine wpIn_block ?_;have h':(vc cx [] b id st fun e st'=>match e with
   |.exit i=>match a7 i id with
    |true=>K .normal st'
    |false=>K (.exit i) st'
   |e=>K e st').holds:=h
  refine wpIn_mono (ih id hs hA g hO h') ?_;rintro e a0 w' ⟨a',rfl,hb,hq⟩;cases e with
  |normal=>exact lB.on hq
  |exit i=>
   obtain⟨st',loc',k1,k2,k3,k4,k5⟩:=hq;simp only at k1;show if i=id then _ else _
   split at k1
   ·rename_i hi
    rw[π (bb hi)];exact lB.on ⟨st',loc',k1,k2,k3,k4,k5⟩
   ·rename_i hi
    rw[ε (fun e=>by rw[e,Nat.beq_refl]at hi;cases hi)];exact lB.on ⟨st',loc',k1,k2,k3,k4,k5⟩
  |ret=>exact lB.on hq
  |goto l=>exact hq.elim
  |panic c=>exact hq.elim
  |outgrown=>exact hq.elim
 |exit id=>intro cur _ st loc w a K hA g hO h;exact wpIn_exit (lB.on ⟨st,loc,h,g,Tr.refl _,hA,fun _ _ _ _ h=>h⟩)
 |ret=>intro cur _ st loc w a K hA g hO h;exact wpIn_ret (lB.on ⟨st,loc,h,g,Tr.refl _,hA,fun _ _ _ _ h=>h⟩)
 |_=>intro cur hs;cases hs
end
structure vU (B:Nat) (W W':World):Prop where
 os:W'.os=W.os
 output:W'.output=W.output
 size:W.heap.size<=W'.heap.size
 below:∀k,k<B->k<W.heap.size->W'.heap[k]?=W.heap[k]?
 cells:∀(k:Nat) (o:Obj),W.heap[k]?=ξ o->o.isCells=φ->W'.heap[k]?=W.heap[k]?
def vU.of{B:Nat}{W W':World}{row:Option Nat}(hg:W.grownBy W' row)(hr:∀r,row=ξ r->B<=r/\∃o:Obj,W.heap[r]?=ξ o/\o.isCells=ψ):vU B W W':=
 ⟨hg.os,hg.output,hg.size,fun k h1 h2=>hg.block k h2 (fun e=>by have:=(hr k e.symm).1;omega),fun k o hk hc=>grownBy_keeps_cells hg (fun r e=>(hr r e).2) hk hc⟩
def vU.cell{B:Nat}{W W':World}(h:vU B W W'){b o:Nat}{v:Value}(hc:W.cell? ⟨b,o,χ⟩=ξ v):W'.cell? ⟨b,o,χ⟩=ξ v:=by
 obtain⟨ob,ho,hcs⟩:=cells_of_cell hc;exact(World.cell?_of_block (h.cells _ ob ho hcs)).trans hc
def plainO:OC->Bool
 |.cells _ _=>φ
 |.bD _ _=>φ
 |.arr _ _=>φ
 |.tok _ _=>φ
 |.ext k _ _=>a7 k 0 || a7 k 2
 |.iter _ _ _=>ψ
def qR:List (Nat×OC)->Bool
 |[]=>φ
 |(_,oc) :: r=>plainO oc&&qR r
def pc:∀{l:List (Nat×OC)},qR l=φ->∀{n:Nat} {oc:OC},look l n=ξ oc->plainO oc=φ
 |[],_,_,_,h=>by simp[look]at h
 |(m,x) :: r,hp,n,oc,h=>by
  simp only[qR,ad]at hp;rw[cX]at h;split at h
  ·cases h;exact hp.1
  ·exact pc hp.2 h
section
variable{eT:TypeId}{X:Ext}
def CR.oO{S S':bT}(hob:S'.ob=S.ob)(hloc:S'.loc=S.loc)(hn:S'.next=S.next)(hc:∀b o v,¬S.A b o->S.w.cell? ⟨b,o,χ⟩=ξ v->S'.w.cell? ⟨b,o,χ⟩=ξ v/\¬S'.A b o)
  {c:C}{v:Value}(h:CR eT S c v):CR eT S' c v:=by
 cases c with
 |d t x=>exact VR.frame h hc
 |app t xs n=>obtain⟨h1,h2,h3⟩:=h;exact⟨VR.frame h1 hc,by rw[hn];exact h2,by rw[hob,hloc];exact h3⟩
 |q9 t x=>obtain⟨b,o,us,rfl,h1,h2⟩:=h;exact⟨b,o,us,rfl,h1.frame hc,h2.frame hc⟩
 |fn f caps=>simp only[CR,bT.fixed,hob,hloc,hn]at h ⊢;exact h
 |_=>simp only[CR,hob,hloc,hn]at h ⊢ <;> exact h
def fH.oO{S S':bT}(hob:S'.ob=S.ob)(hloc:S'.loc=S.loc)(hn:S'.next=S.next)(hc:∀b o v,¬S.A b o->S.w.cell? ⟨b,o,χ⟩=ξ v->S'.w.cell? ⟨b,o,χ⟩=ξ v/\¬S'.A b o)
  {cs:List C}{vs:List Value}(h:fH eT S cs vs):fH eT S' cs vs:=by
 induction h with
 |nil=>exact .nil
 |cons h1 h2 _ ih=>exact .cons (h1.oO hob hloc hn hc) h2 ih
def jR.oO{S S':bT}(hob:S'.ob=S.ob)(hloc:S'.loc=S.loc)(hn:S'.next=S.next)(hc:∀b o v,¬S.A b o->S.w.cell? ⟨b,o,χ⟩=ξ v->S'.w.cell? ⟨b,o,χ⟩=ξ v/\¬S'.A b o)
  {x:dI}{v:Value}(h:jR eT S x v):jR eT S' x v:=by
 cases x with
 |one c=>exact CR.oO hob hloc hn hc h
 |agg cs=>obtain⟨vs,rfl,h1⟩:=h;exact⟨vs,rfl,h1.oO hob hloc hn hc⟩
def dK.oO{S S':bT}(hob:S'.ob=S.ob)(hloc:S'.loc=S.loc)(hn:S'.next=S.next)(hc:∀b o v,¬S.A b o->S.w.cell? ⟨b,o,χ⟩=ξ v->S'.w.cell? ⟨b,o,χ⟩=ξ v/\¬S'.A b o)
  {xs:List dI}{vs:List Value}(h:dK eT S xs vs):dK eT S' xs vs:=by
 induction h with
 |nil=>exact .nil
 |cons h1 _ ih=>exact .cons (h1.oO hob hloc hn hc) ih
def eK.oO{S S':bT}(hob:S'.ob=S.ob)(hloc:S'.loc=S.loc)(hn:S'.next=S.next)(hc:∀b o v,¬S.A b o->S.w.cell? ⟨b,o,χ⟩=ξ v->S'.w.cell? ⟨b,o,χ⟩=ξ v/\¬S'.A b o)
  {x:SV}{v:Value}(h:eK eT S x v):eK eT S' x v:=by
 cases x with
 |s x=>exact jR.oO hob hloc hn hc h
 |pD xs=>obtain⟨vs,rfl,h1⟩:=h;exact⟨vs,rfl,h1.oO hob hloc hn hc⟩
def OR.oO{S S':bT}(hob:S'.ob=S.ob)(hloc:S'.loc=S.loc)(hn:S'.next=S.next)(hc:∀b o v,¬S.A b o->S.w.cell? ⟨b,o,χ⟩=ξ v->S'.w.cell? ⟨b,o,χ⟩=ξ v/\¬S'.A b o)
  {l:Loc}{oc:OC}(hb:∀b,b∈l.bs->S'.w.heap[b]?=S.w.heap[b]?)(ho:OR eT X S l oc):OR eT X S' l oc:=by
 have he:∀{t:Ty} {xs:List (D t)} {vs:Array Value},mV eT S t xs vs->mV eT S' t xs vs:=fun h i y hy=>let⟨us,h1,h2⟩:=h i y hy;⟨us,h1.frame hc,h2⟩
 cases oc with
 |cells T cs=>
  obtain⟨b,vs,h1,h2,h3,h4⟩:=ho;exact⟨b,vs,h1,h2,by rw[hb b (by simp[h2])];exact h3,h4.oO hob hloc hn hc⟩
 |bD t xs=>
  rcases ho with ho|⟨b,vs,T,cap,h1,h2,h3,h4,h5,h6,h7⟩
  ·exact .inl ho
  ·exact .inr ⟨b,vs,T,cap,h1,h2,by rw[hb b (by simp[h2])];exact h3,h4,h5,h6,he h7⟩
 |arr t xs=>
  obtain⟨b,vs,T,h1,h2,h3,h4,h5⟩:=ho;exact⟨b,vs,T,h1,h2,by rw[hb b (by simp[h2])];exact h3,h4,he h5⟩
 |tok t xs=>
  rcases ho with ho|⟨b,vs,T,cap,h1,h2,h3,h4,h5,h6,h7⟩
  ·exact .inl ho
  ·exact .inr ⟨b,vs,T,cap,h1,h2,by rw[hb b (by simp[h2])];exact h3,h4,h5,h6,he h7⟩
 |ext k t x=>exact X.frame ho hb
 |iter cs seen cl=>
  obtain⟨b,m,c,sn,h1,h2,h3,h4,h5,h6⟩:=ho;exact⟨b,m,c,sn,h1,h2,by rw[hb b (by simp[h2])];exact h3,h4.oO hob hloc hn hc,h5,h6⟩
def OR.aaJ{S:bT}{l:Loc}{oc:OC}(hp:plainO oc=φ)(ho:OR eT X S l oc):∀b∈l.bs,∃vs T fz,S.w.heap[b]?=ξ (.cells vs T fz):=by
 intro b hb;cases oc with
 |cells T cs=>obtain⟨b',vs,_,h2,h3,_⟩:=ho;rw[h2]at hb;simp at hb;subst hb;exact⟨_,_,_,h3⟩
 |bD t xs=>
  rcases ho with⟨_,_,h⟩|⟨b',vs,T,cap,_,h2,h3,_⟩
  ·rw[h]at hb;simp at hb
  ·rw[h2]at hb;simp at hb;subst hb;exact⟨_,_,_,h3⟩
 |arr t xs=>obtain⟨b',vs,T,_,h2,h3,_⟩:=ho;rw[h2]at hb;simp at hb;subst hb;exact⟨_,_,_,h3⟩
 |tok t xs=>
  rcases ho with⟨_,_,h⟩|⟨b',vs,T,cap,_,h2,h3,_⟩
  ·rw[h]at hb;simp at hb
  ·rw[h2]at hb;simp at hb;subst hb;exact⟨_,_,_,h3⟩
 |ext k t x=>
  simp only[plainO,Bool.or_eq_true]at hp;rcases hp with hp|hp
  ·have:=bb hp
   subst this;have hd:mU t x l S.w:=X.deep.1 ho;cases t with
   |slice e=>
    obtain⟨s,_,top,hs,_,⟨_,_,_,h⟩|⟨b',vs,T,cap,cs,_,h2,h3,_,_,_,h4⟩⟩:=hd
    ·rw[h]at hb;simp at hb
    ·rw[h2]at hb
     rcases bj.1 hb with rfl|hb
     ·exact⟨_,_,_,h3⟩
     ·obtain⟨c,hc,hcb⟩:=ck.1 hb
      simp at hcb;subst hcb;obtain⟨i,hi⟩:=List.getElem?_of_mem hc;obtain⟨_,vs',T',h5⟩:=h4.Dv i b hi;exact⟨_,_,_,h5⟩
   |_=>exact hd.elim
  ·have:=bb hp
   subst this;obtain⟨rfl,b',p,v,h⟩:=X.Y0.1 ho;rw[h.bs]at hb;rcases bj.1 hb with rfl|hb
   ·exact⟨_,_,_,h.heap⟩
   ·rcases h.row.2 with⟨rfl,_⟩|⟨g,cap,cur,rfl,_,hg,_⟩
    ·simp[dp]at hb
    ·simp[dp]at hb;subst hb;exact⟨_,_,_,hg⟩
 |iter cs seen cl=>cases hp
def Cp{S:bT}{W':World}{B:Nat}(g:Good eT X S)(hb:vU B S.w W')(hp:∀n oc,S.ob n=ξ oc->plainO oc=φ)(hg:∀b∈X.JA,b<B):Good eT X {S with w:=W'} where
 obj n oc h:=⟨(g.obj n oc h).1,OR.oO (S:=S) (S':={S with w:=W'}) rfl rfl rfl (fun b o v ha hc=>⟨hb.cell hc,ha⟩) (fun b hbm=>let⟨_,_,_,e⟩:=(g.obj n oc h).2.aaJ (hp n oc h) b hbm;hb.cells b _ e rfl) (g.obj n oc h).2⟩
 apart:=g.apart
 out:=g.out
 nw:=⟨X.FY g.nw.1 fun b hbm=>hb.below b (hg b hbm) (X.NC g.nw.1 b hbm),g.nw.2⟩
def Jf{S0 S:bT}{W':World}{B:Nat}(t:Tr S0 S)(hb:vU B S.w W')(hB:S0.w.heap.size<=B):Tr S0 {S with w:=W'} where
 O:=t.O
 next:=t.next
 os:=hb.os.trans t.os
 output:=hb.output.trans t.output
 size:=ae t.size hb.size
 own:=t.own
 cell b o v ha hc:=let⟨h1,h2⟩:=t.cell b o v ha hc;⟨hb.cell h1,h2⟩
 block b hlt ho:=(hb.below b (al hlt hB) (al hlt t.size)).trans (t.block b hlt ho)
 loc:=t.loc
 kind:=t.kind
def Fy{S:bT}{W':World}{B:Nat}{env:List (Nat×SV)}{a:Act}(h:iP eT S env a)(hb:vU B S.w W'):iP eT {S with w:=W'} env a:=
 fun t sv ht=>eK.oO (S:=S) (S':={S with w:=W'}) rfl rfl rfl (fun b o v ha hc=>⟨hb.cell hc,ha⟩) (h t sv ht)
def KZ{S:bT}(g:Good eT X S)(hp:∀n oc,S.ob n=ξ oc->plainO oc=φ){k:Nat}{o:Obj}(hk:S.w.heap[k]?=ξ o)(ho:o.isCells=ψ):¬S.owns k:=by
 rintro⟨n,oc,h1,h2⟩;obtain⟨vs,T,fz,e⟩:=(g.obj n oc h1).2.aaJ (hp n oc h1) k h2;rw[hk]at e;cases e;cases ho
end
def Af:List Ob->List Nat->List Nat->Bool
 |o :: os,n0 :: ns0,n :: ns=>(match nL o o with|true=>a7 n n0|false=>φ)&&Af os ns0 ns
 |_,_,_=>φ
def K0:∀{aY:List Ob} {ν0 ν:List Nat} {i n0 n:Nat} {o:Ob},Af aY ν0 ν=φ->aY[i]?=ξ o->nL o o=φ->ν0[i]?=ξ n0->ν[i]?=ξ n->n=n0
 |[],_,_,_,_,_,_,_,h,_,_,_=>by simp at h
 |_ :: _,[],_,_,_,_,_,_,_,_,h,_=>by simp at h
 |_ :: _,_ :: _,[],_,_,_,_,_,_,_,_,h=>by simp at h
 |a :: os,m0 :: ns0,m :: ns,0,n0,n,o,h,h1,h2,h3,h4=>by
  simp at h1 h3 h4;subst h1;subst h3;subst h4;simp only[Af,h2,ad]at h;exact bb h.1
 |a :: os,m0 :: ns0,m :: ns,i+1,n0,n,o,h,h1,h2,h3,h4=>by
  simp only[Af,ad]at h;exact K0 h.2 (by simpa using h1) h2 (by simpa using h3) (by simpa using h4)
def Hs(an:ll)(ν0:List Nat)(st st':St)(more:an.X->Prop):VC:=
 match xT st' an with
 |some ν=>match nodupB ν&&(xU st' an ν an.refs&&Af an.aY ν0 ν),fI ψ st'.aK an.aY ν an.aY ν with
  |true,ξ y =>.leaf (Og (C2 st' an y an.refs++ky an.aY y st'.aK an.aY ν++[∃x',an.inv x'/\more x'/\oU st' (an.bB x')/\oV st' (an.aK x'++j9 st an.gZ)/\(ry ν (rW an st x')=φ/\y=an.pd x')]))
  |_,_ =>.ff
 |none =>.ff
def Ht{an:ll}{ν0:List Nat}{st st':St}{more:an.X->Prop}(h:(Hs an ν0 st st' more).holds):∃x,an.inv x/\more x/\∃ν,On an st st' x ν/\Af an.aY ν0 ν=φ:=by
 unfold Hs at h;split at h
 ·rename_i ν _
  split at h
  ·rename_i y hc hy
   simp only[ad]at hc;have hall:=yQ h;obtain⟨x,h1,h2,h3,h4,h5,h6⟩:=hall (∃x',an.inv x'/\more x'/\oU st' (an.bB x')/\oV st' (an.aK x'++j9 st an.gZ)/\(ry ν (rW an st x')=φ/\y=an.pd x')) (List.mem_append_right _ (bm.2 rfl));subst h6;obtain⟨k1,_⟩:=lf.1 hall;obtain⟨k1,k2⟩:=lf.1 k1;exact⟨x,h1,h2,ν,⟨hc.1,hc.2.1,hy,k1,k2,h3,h4,h5⟩,hc.2.2⟩
  ·exact h.elim
 ·exact h.elim
section
variable{X:Ext}{cx:Cx}
end
structure oh:Type 1 where
 inv:List Nat->Prop
 keep:List Nat
 gZ:List Nat:=[]
 dU:List Nat:=[]
 aY:List Ob:=[]
 refs:List (Nat×Nat):=[]
 pd:List Nat->PD aY:=fun _=>Wp aY
def oh.Cq(r:oh):ll:={X:=List Nat,inv:=r.inv,bG:=fun _=>0,bB:=fun _=>[],keep:=r.keep,gZ:=r.gZ,aY:=r.aY,refs:=r.refs,pd:=r.pd}
def rUs(r:oh)(ν0:List Nat)(st:St):List Nat:=pj r.aY r.aY ν0 st.next
def iV(r:oh)(ν0:List Nat)(st:St)(pre:List Nat):St:=gC r.Cq st (rUs r ν0 st) pre
def uc(r:oh)(ν0:List Nat)(st:St)(pre:List Nat):Bool:=rX r.Cq st [] pre&&(qR (iV r ν0 st pre).aK&&(nodupB (rUs r ν0 st)&&mc (st.next+r.aY.length) (rUs r ν0 st)))
def fL{t:Ty}(xs:List (D t))(k i:Nat):List (D t):=(xs.drop (i*k)).take k
def gY(n k:Nat):Nat:=(n+k-1) / k
def mE(a:Option Addr)(n k i:Nat):Value:=.slice (a.map fun p=>{p with off:=p.off+i*k}) (min k (n-i*k)) (min k (n-i*k))
def Df(ps:List Tmp)(asg:Code):Option (Nat×Nat):=
 match ps,asg with
 |[p],.region _ ops ψ=>match ops.toList with
  |[o]=>match o.dst,o.op,o.guard with
   |some d,.assign (.tmp q),χ=>match a7 q p with
    |true=>ξ (p,d)
    |false=>χ
   |_,_,_=>χ
  |_=>χ
 |_,_=>χ
def agN(st:St)(r:oh):oh:={r with keep:=(Gp st.env r.keep).filter (fun t=>tQ [t] r.refs),gZ:=match r.gZ with
 |[]=>tP (r.dU++(match xT st r.Cq with|some l=>l|none=>[])) st.aK
 |l=>l}
@[reducible] def US:Ty:=.slice (.int .u8)
def Nz(an:oh)(ν0:List Nat)(st1:St)(bs:List (D (.int .u8)))(kN p d:Nat)(pre:List Nat)(i:Nat):St:=
 {iV an ν0 st1 pre with env:=(d,.s (.one (.d US (fL bs kN i)))) :: (p,.s (.one (.d US (fL bs kN i)))) :: (iV an ν0 st1 pre).env}
def rK(an:oh)(ν0:List Nat)(st1:St)(K:Ex->St->VC)(pre:List Nat)(i:Nat):Ex->St->VC:=fun e st'=>match e with
 |.normal=>Hs an.Cq ν0 st1 {st' with env:=(iV an ν0 st1 pre).env} fun x=>x=pre++[i]
 |.ret=>match qR st'.aK with
  |true =>.imp (pre=ao i) (K .ret {st' with env:=(iV an ν0 st1 pre).env})
  |false =>.ff
 |.exit _ =>.ff
def agO(cx:Cx)(an:oh)(st1:St)(bs:List (D (.int .u8)))(k:Int)(p d:Nat)(body:Code)(K:Ex->St->VC):VC:=
 match xT st1 an.Cq with
 |some ν0 =>.both (.leaf (1<=k/\k<=1000000000/\bs.length<=1000000000))
  (.both (Hs an.Cq ν0 st1 st1 fun x=>x=[]) (.both (.all (List Nat) fun pre =>.imp (an.inv pre) (match uc an ν0 st1 pre with
    |true =>.all Nat fun i =>.imp (pre.length<gY bs.length k.toNat)
     (vc cx [] body 0 (Nz an ν0 st1 bs k.toNat p d pre i) (rK an ν0 st1 K pre i))
    |false =>.ff))
   (.imp (an.inv (ao (gY bs.length k.toNat))) (K .normal (iV an ν0 st1 (ao (gY bs.length k.toNat)))))))
 |none =>.ff
def aeP(cx:Cx)(it:FuncId)(r:St->oh)(g:Operand)(p d:Nat)(body:Code)(st:St)(K:Ex->St->VC):VC:=
 match fC st.env g with
 |.fn f [n1,n2]=>match a7 f it&&!a7 n1 n2,look st.aK n1,look st.aK n2 with
  |true,ξ (.cells _ [.d (.slice (.int .u8)) bs]),ξ (.cells _ [.d (.int .i64) k])=>
   agO cx (agN (bN (bN st n1) n2) (r (bN (bN st n1) n2))) (bN (bN st n1) n2) bs k p d body K
  |_,_,_ =>.ff
 |_ =>.ff
def yj(P:Program)(it:FuncId):Prop:=
 ∀(b1 b2:Nat) (a:Option Addr) (len cap k:Nat) (w:World),1<=k->k<=1000000000->len<=1000000000->len<=cap->(0<len->∃b o,a=ξ ⟨b,o,χ⟩)->b1<w.heap.size->b2<w.heap.size->w.cell? ⟨b1,0,χ⟩=ξ (.slice a len cap)->w.cell? ⟨b2,0,χ⟩=ξ (.int .i64 k)->
  SeqStopsK ah 2 P it #[.pointer (ξ ⟨b1,0,χ⟩),.pointer (ξ ⟨b2,0,χ⟩)] (fun i:Nat =>#[mE a len k i])
   (fun A B=>B.cell? ⟨b1,0,χ⟩=A.cell? ⟨b1,0,χ⟩/\B.cell? ⟨b2,0,χ⟩=A.cell? ⟨b2,0,χ⟩) (fun xs=>xs=ao (gY len k)) (fun pre=>∃j,pre=ao j) (gY len k) w
def uP{t:Ty}(xs:List (D t))(k i:Nat):(fL xs k i).length=min k (xs.length-i*k):=by simp[fL]
section
variable{eT:TypeId}{X:Ext}
def aeQ{bs:List (D (.int .u8))}{A:aO}{w:World}{v:Value}(h:VR eT US bs A w v) :
  ∃a cap,v=.slice a bs.length cap/\bs.length<=cap/\(0<bs.length->∃b o,a=ξ ⟨b,o,χ⟩)/\∀k i,VR eT US (fL bs k i) A w (mE a bs.length k i):=by
 obtain⟨v',e,hbig,h⟩:=h.one rfl;cases e;rcases h with⟨rfl,a,c,rfl⟩|⟨b,o,cap,rfl,hc,h⟩
 ·refine⟨a,c,rfl,ar _,fun h=>absurd h (cn _),fun k i=>VR.dF rfl ⟨_,rfl,by simp[fL],.inl ⟨by simp[fL],a.map fun p=>{p with off:=p.off+i*k},0,by simp[mE]⟩⟩⟩
 ·refine⟨ξ ⟨b,o,χ⟩,cap,rfl,hc,fun _=>⟨b,o,rfl⟩,fun k i=>VR.dF rfl ⟨_,rfl,by rw[uP];omega,.inr ⟨b,o+i*k,min k (bs.length-i*k),by rw[uP];rfl,by rw[uP];exact ag _,fun j y hj =>?_⟩⟩⟩
  have hj':bs[i*k+j]?=ξ y:=by
   unfold fL at hj;rw[List.getElem?_take]at hj;split at hj
   ·rwa [List.getElem?_drop]at hj
   ·cases hj
  obtain⟨us,h1,h2⟩:=h _ y hj';refine⟨us,h1,fun m u hm =>?_⟩;have:=h2 m u hm;rw[show o+i*k+j*(Ty.int dq).size+m=o+(i*k+j)*(Ty.int dq).size+m by simp[Ty.size];omega];exact this
end
section
variable{P:Program}{F:Fence}{n:Nat}
def aaK{K:Act->World->Prop}{id:Nat}{ops:Array Oper}{o:Oper}{d q:Nat}(ho:ops.toList=[o])(hd:o.dst=ξ d)(hop:o.op=.assign (.tmp q))(hg:o.guard=χ){a:Act}{w:World}(hF:∀f,F.fn f)
  (h:K (a.put (ξ d) (a.eval (.tmp q))) w):(Code.region id ops ψ).wpIn F n P (Exit.then K (fun _ _ _=>False)) a w:=by
 refine wpIn_region_list ?_;rw[ho];unfold wpListIn;rw[π (by simp[Region.wanted,hg])];refine⟨fun f _=>hF f,?_⟩;rw[dj _ _ _ (by simp[hop])];have e:(execOp a.eval o).run P w=.ok (.value (a.eval (.tmp q))) w:=by unfold execOp;rw[hop];rfl
 rw[e];simp only[bh,hd];exact h
end
def SY{ps:List Tmp}{asg:Code}{p d:Nat}(h:Df ps asg=ξ (p,d)):ps=[p]/\∃id ops o,asg=.region id ops ψ/\ops.toList=[o]/\o.dst=ξ d/\o.op=.assign (.tmp p)/\o.guard=χ:=by
 unfold Df at h;split at h
 ·split at h
  ·split at h
   ·split at h
    ·cases h
     rename_i hb _;have:=bb hb;subst this;exact⟨rfl,_,_,_,rfl,by assumption,by assumption,by assumption,by assumption⟩
    ·cases h
   ·cases h
  ·cases h
 ·cases h
def XF(D:Nat):Deferred:={target:=.collected D,args:=#[]}
def Dg{a:Act}(h:a.defers=[]):o1 [] a=a:=by cases a;simp only at h;subst h;rfl
section
variable{X:Ext}{P:Program}{cx:Cx}
structure XG (cx:Cx) (X:Ext) (O:aO) (K:St->VC) (S:bT) (a a':Act) (w':World) (D:Nat) (st':St) (loc':Nat->Loc):Prop where
 act:a'=o1 [XF D] a
 vc:(K st').holds
 ic:Good cx.eT X (aD O st' loc' w')
 tr:Tr S (aD O st' loc' w')
 env:iP cx.eT (aD O st' loc' w') st'.env a
 far:S.w.heap.size<=D
 mark:w'.heap[D]?=ξ (.deferred (ξ []))
 plain:qR st'.aK=φ
def QR(cx:Cx)(X:Ext)(O:aO)(K:Ex->St->VC)(S:bT)(a:Act):Exit->Act->World->Prop
 |.normal,a',w'=>∃D st' loc',XG cx X O (K .normal) S a a' w' D st' loc'
 |.ret,a',w'=>∃D st' loc',XG cx X O (K .ret) S a a' w' D st' loc'
 |_,_,_=>False
def sh{st:St}:∀{l:List Nat} {n:Nat} {v:SV},n∈l->look st.env n=ξ v->look (qk st l) n=ξ v
 |[],_,_,h,_=>by simp at h
 |t :: r,n,v,h,hv=>by
  simp only[qk];by_cases e:t=n
  ·subst e
   rw[hv];simp only[cX,if_true]
  ·have hn:n∈r:=(bj.1 h).resolve_left fun h=>e h.symm
   cases look st.env t with
   |none=>exact sh hn hv
   |some u=>simp only[cX,ε e];exact sh hn hv
def aeR{an:ll}{st:St}{us:List Nat}{x:an.X}(hs:an.bB x=[])(hnr:tQ an.keep an.refs=φ){n:Nat}(hn:n∈an.keep){v:SV}(h:look st.env n=ξ v):look (gC an st us x).env n=ξ v:=by
 simp only[gC,C3,fT,hs];split
 ·rename_i u hu
  obtain⟨k,hk,_⟩:=tt hu;exact absurd hn (yX hnr hk)
 ·simp only[look]
  exact sh hn h
def Hu{O:aO}{an:oh}{ν0:List Nat}{st1 st':St}{loc loc':Nat->Loc}{w W:World}{a:Act}{pre:List Nat}(g:Good cx.eT X (aD O st' loc' W))(hsz:a.tmps.size=cx.N)(hdf:a.defers=[])(henv:iP cx.eT (aD O st' loc' W) st'.env a)
  (ht:Tr (aD O st1 loc w) (aD O st' loc' W))(hkeep:∀n∈an.keep,∀v,look st1.env n=ξ v->∃u,look st'.env n=ξ u/\qK u v)(hf:∃ν,On an.Cq st1 st' pre ν/\Af an.aY ν0 ν=φ)(hB:uc an ν0 st1 pre=φ) :
  ∃loc2,Good cx.eT X (aD O (iV an ν0 st1 pre) loc2 W)/\iP cx.eT (aD O (iV an ν0 st1 pre) loc2 W) (iV an ν0 st1 pre).env a/\Tr (aD O st1 loc w) (aD O (iV an ν0 st1 pre) loc2 W):=by
 simp only[uc,ad]at hB;obtain⟨h1,_,h3,h4⟩:=hB;obtain⟨ν,hf,hk⟩:=hf;obtain⟨loc2,m1,m2,m3⟩:=JU (an:=an.Cq) (st:=st1) (st':=st') (O:=O) (loc:=loc') (w:=W) (loc0:=loc) (w0:=w) (a:=a) (W:=[]) (ν:=ν) pre h3 sN (fun n hn=>uq h4 hn)
  (fun i m hi=>by
   rcases tS hi with⟨o,o',k1,k2,k3,k4⟩|k
   ·rw[k1]at k2;cases k2
    refine .inr ⟨?_,o,k1,k3⟩;have hl:i<ν.length:=by rw[<-rV hf.get];exact bR k1
    rw[List.getElem?_eq_getElem hl];exact congrArg ξ (K0 hk k1 k3 k4 (List.getElem?_eq_getElem hl))
   ·exact .inl k) g ⟨hsz,hdf,henv⟩ ht h1 hkeep hf
 exact⟨loc2,m1,m2.env,m3⟩
def aeS(hok:nU P cx X){it:FuncId}(hit:yj P it)(heg:∀args w,(callFunc it args).run P w=.ok (.enter it args) w){O:aO}{st:St}{loc:Nat->Loc}{w:World}{a:Act}{K:Ex->St->VC}{g:Operand}{ps:Array Tmp}{asg body:Code}{p d:Nat}
  (r:St->oh)(hsh:Df ps.toList asg=ξ (p,d))(hsb:mQ body=φ)(hpN:p<cx.N)(ud:d<cx.N)(hA:hZ cx (aD O st loc w) st a)(gd:Good cx.eT X (aD O st loc w))(hO:gx O w)
  (h:(aeP cx it r g p d body st K).holds):(Code.rangeFunc g ps asg body).wpIn ah 3 P (QR cx X O K (aD O st loc w) a) a w:=by
 obtain⟨hps,id,ops,o,rfl,hops,hdst,hop,hgd⟩:=SY hsh;unfold aeP at h;split at h
 case h_2=>exact h.elim
 rename_i f n1 n2 hev;split at h
 case h_2=>exact h.elim
 rename_i T1 bs T2 k hb h1 h2;simp only[ad,dr]at hb;have hf:=bb hb.1;subst hf;have hne:n1≠n2:=fun e=>by have h3:=hb.2;subst e;rw[Nat.beq_refl]at h3;cases h3
 obtain⟨st1,hst1⟩:∃s,s=bN (bN st n1) n2:=⟨_,rfl⟩
 rw[<-hst1]at h;generalize agN st1 (r st1)=an at h;unfold agO at h;split at h
 case h_2=>exact h.elim
 rename_i ν0 _;obtain⟨⟨hk1,hk2,hlen⟩,hfit,hbd,hend⟩:=h;obtain⟨x0,hinv0,hx0,hf0⟩:=Ht hfit;subst hx0;obtain⟨kN,hkN⟩:∃kN:Nat,kN=b5 k:=⟨_,rfl⟩
 have hkk:(k:Int)=(kN:Int):=by rw[hkN];exact(Int.toNat_of_nonneg (bo δ hk1)).symm
 rw[<-hkN]at hbd hend;have hHB:∀pre,an.inv pre->uc an ν0 st1 pre=φ/\∀i,pre.length<gY bs.length kN->(vc cx [] body 0 (Nz an ν0 st1 bs kN p d pre i) (rK an ν0 st1 K pre i)).holds:=by
  intro pre hp;have:=hbd pre hp;split at this
  ·rename_i e;exact⟨e,fun i hi=>this i hi⟩
  ·exact this.elim
 have hx:=cB hA.env g;rw[hev]at hx;obtain⟨hgv,hcap⟩:=hx;obtain⟨b1,vs1,hl1,hbs1,hheap1,hc1⟩:=(gd.obj n1 _ h1).2;obtain⟨b2,vs2,hl2,hbs2,hheap2,hc2⟩:=(gd.obj n2 _ h2).2;cases hc1 with
 |cons hv1 _ hr1=>
 cases hr1;cases hc2 with
 |cons hv2 _ hr2=>
 cases hr2;rename_i v1 _ v2 _;obtain⟨a0,cap,rfl,hcap1,hsome,hpart⟩:=aeQ hv1;obtain⟨rfl,_⟩:=dL.1 hv2;have hb1:b1<w.heap.size:=(Array.getElem?_eq_some_iff.1 hheap1).1;have hb2:b2<w.heap.size:=(Array.getElem?_eq_some_iff.1 hheap2).1;have hcell1:w.cell? ⟨b1,0,χ⟩=ξ (.slice a0 bs.length cap):=by rw[cell_of_row w b1 _ _ _ (0,0) hheap1];rfl
 have hcell2:w.cell? ⟨b2,0,χ⟩=ξ (.int .i64 kN):=by rw[cell_of_row w b2 _ _ _ (0,0) hheap2,<-hkk];rfl
 obtain⟨tr1,g1⟩:=pH (cx:=cx) gd n1;obtain⟨tr2,g2⟩:=pH (cx:=cx) g1 n2;rw[<-hst1]at tr2 g2;have trS:=tr1.trans tr2;have hlook:∀n oc,look st1.aK n=ξ oc->n≠n1/\n≠n2/\look st.aK n=ξ oc:=by
  intro n oc hn;rw[hst1]at hn;simp only[bN,oA]at hn;split at hn
  ·cases hn
  ·split at hn
   ·cases hn
   ·rename_i e1 e2;exact⟨fun e=>e2 e.symm,fun e=>e1 e.symm,hn⟩
 have hno1:∀{loc' W pre},Tr (aD O st1 loc w) (aD O (iV an ν0 st1 pre) loc' W)->¬(aD O (iV an ν0 st1 pre) loc' W).owns b1:=by
  intro loc' W pre t ho;rcases t.own b1 ho with⟨n,oc,k1,k2⟩|k
  ·obtain⟨e1,_,k3⟩:=hlook n oc k1
   exact e1 (gd.apart n n1 oc _ b1 k3 h1 k2 (by show b1∈((aD O st loc w).loc n1).bs;rw[hbs1];simp))
  ·exact absurd hb1 (cp.2 k)
 have hno2:∀{loc' W pre},Tr (aD O st1 loc w) (aD O (iV an ν0 st1 pre) loc' W)->¬(aD O (iV an ν0 st1 pre) loc' W).owns b2:=by
  intro loc' W pre t ho;rcases t.own b2 ho with⟨n,oc,k1,k2⟩|k
  ·obtain⟨_,e1,k3⟩:=hlook n oc k1
   exact e1 (gd.apart n n2 oc _ b2 k3 h2 k2 (by show b2∈((aD O st loc w).loc n2).bs;rw[hbs2];simp))
  ·exact absurd hb2 (cp.2 k)
 have hgbs:∀b∈X.JA,b<w.heap.size:=fun b hb=>X.NC gd.nw.1 b hb
 have hpartW:∀{loc' W pre} (_:Tr (aD O st1 loc w) (aD O (iV an ν0 st1 pre) loc' W)) i,VR cx.eT US (fL bs kN i) (aD O (iV an ν0 st1 pre) loc' W).A W (mE a0 bs.length kN i):=fun t i=>
  VR.frame (hpart kN i) (trS.trans t).cell
 have hv0:o1 [] a=a:=Dg hA.defers;have hplainH:∀{pre},uc an ν0 st1 pre=φ->qR (iV an ν0 st1 pre).aK=φ:=fun hB=>by simp only[uc,ad]at hB;exact hB.2.1
 have hO1:∀{W:World},w.heap.size<=W.heap.size->gx O W:=fun hs=>hO.tr hs
 refine wpIn_rangeFunc_ownG (F:=ah) (n:=3) rfl δ (gf:=f) (lb:=#[.pointer (ξ ⟨b1,0,χ⟩),.pointer (ξ ⟨b2,0,χ⟩)]) (by rw[hgv];simp only[List.map];rw[hl1,hl2]) trivial heg
  (hit b1 b2 a0 bs.length cap kN w (bp.1 (by rw[<-hkk];exact hk1)) (bp.1 (by rw[<-hkk];exact hk2)) hlen hcap1 hsome hb1 hb2 hcell1 hcell2)
  (fun h k=>⟨k.1.trans h.1,k.2.trans h.2⟩)
  (fun W l o o' hl ho hc _=>⟨World.cell?_of_block (dt (by simp only;omega)),World.cell?_of_block (dt (by simp only;omega))⟩)
  (er _ _) (fun x=>by rw[<-Array.length_toList (xs:=ps),hps];rfl)
  (fun pre W=>∃loc',an.inv pre/\uc an ν0 st1 pre=φ/\Good cx.eT X (aD O (iV an ν0 st1 pre) loc' W)/\iP cx.eT (aD O (iV an ν0 st1 pre) loc' W) (iV an ν0 st1 pre).env a/\Tr (aD O st1 loc w) (aD O (iV an ν0 st1 pre) loc' W))
  (fun c pre W=>c=.ret/\∃st' loc',((∃j,pre=ao j)->(K .ret st').holds)/\qR st'.aK=φ/\Good cx.eT X (aD O st' loc' W)/\iP cx.eT (aD O st' loc' W) st'.env a/\Tr (aD O st1 loc w) (aD O st' loc' W))
  ?_ ?_ ?_ (fun x=>(a.put (ξ p) (mE a0 bs.length kN x)).put (ξ d) (mE a0 bs.length kN x)) ?_ ?_ ?_ ?_
 ·rintro pre A B row ⟨loc',hi,hB,g',he',t'⟩ hg hr
  have bk:=vU.of hg hr;exact⟨loc',hi,hB,Cp g' bk (fun n oc hn=>pc (hplainH hB) hn) hgbs,Fy he' bk,Jf t' bk (ag _)⟩
 ·rintro c pre A B row ⟨rfl,st',loc',hk,hpl,g',he',t'⟩ hg hr
  have bk:=vU.of hg hr;exact⟨rfl,st',loc',hk,hpl,Cp g' bk (fun n oc hn=>pc hpl hn) hgbs,Fy he' bk,Jf t' bk (ag _)⟩
 ·have hB:=(hHB [] hinv0).1
  obtain⟨loc2,m1,m2,m3⟩:=Hu (an:=an) (pre:=[]) g2 hA.size hA.defers (fun n v hv=>by
   rw[hst1]at hv;exact(hA.env n v hv).tr trS) (Tr.refl _) (fun n _ v hv=>⟨v,hv,me v⟩) hf0 hB
  exact⟨loc2,hinv0,hB,m1,m2,m3⟩
 ·intro l x W K' hK'
  refine aaK hops hdst hop hgd (fun _=>trivial) ?_;have e:({tmps:=(ps.zip #[mE a0 bs.length kN x]).foldl (fun t (p,v)=>t.setIfInBounds p v) a.tmps,defers:=[]}:Act)=a.put (ξ p) (mE a0 bs.length kN x):=by
   have:ps= #[p]:=by rw[<-du (xs:=ps),hps]
   rw[this];refine Eq.trans ?_ (congrArg (fun z:Act=>z.put (ξ p) (mE a0 bs.length kN x)) hv0);rw[show(#[p]:Array Tmp).zip #[mE a0 bs.length kN x]= #[(p,mE a0 bs.length kN x)] by simp[Array.zip]];rfl
  rw[e];have e2:(a.put (ξ p) (mE a0 bs.length kN x)).eval (.tmp p)=mE a0 bs.length kN x:=by
   have hp':p<a.tmps.size:=by rw[hA.size];exact hpN
   simp[Act.put,Act.eval,cm,hp']
  rw[e2];exact hK'
 ·rintro l pre x W ⟨loc',hi,hB,g',he',t'⟩ hlt
  have hvc:=(hHB pre hi).2 x hlt;have hpv:=hpartW t' x;have hA1:hZ cx (aD O (iV an ν0 st1 pre) loc' W) {iV an ν0 st1 pre with env:=(p,.s (.one (.d US (fL bs kN x)))) :: (iV an ν0 st1 pre).env} (a.put (ξ p) (mE a0 bs.length kN x)):=
   hZ.put (st:=iV an ν0 st1 pre) ⟨hA.size,hA.defers,he'⟩ (Tr.refl _) rfl hpN hpv
  have hA2:hZ cx (aD O (iV an ν0 st1 pre) loc' W) (Nz an ν0 st1 bs kN p d pre x) ((a.put (ξ p) (mE a0 bs.length kN x)).put (ξ d) (mE a0 bs.length kN x)):=
   hZ.put hA1 (Tr.refl _) rfl ud hpv
  have hrun:=Co (n:=3-1-1) (st:=Nz an ν0 st1 bs kN p d pre x) hok (F:=ah.inRound l) (.inr ⟨l,rfl⟩) [] body 0 hsb hA2 g' (hO1 t'.size) hvc;rw[Dg hA2.defers]at hrun;refine wpIn_mono hrun ?_;rintro e a2 W2 ⟨a',rfl,_,hq⟩;have keeps:∀{st2 loc2},Tr (aD O (iV an ν0 st1 pre) loc' W) (aD O st2 loc2 W2)->KeepsFrom w.heap.size W W2:=fun k3=>
   ⟨k3.size,fun k o hk hko ho=>(k3.block k (Array.getElem?_eq_some_iff.1 hko).1 (KZ g' (fun n oc hn=>pc (hplainH hB) hn) hko ho)).trans hko⟩
  cases e with
  |normal=>
   obtain⟨st2,loc2,k1,k2,k3,k4,k5⟩:=hq;obtain⟨x1,i2,hx1,hf1⟩:=Ht k1;subst hx1;have hB2:=(hHB _ i2).1;have hnr:tQ an.Cq.keep an.Cq.refs=φ:=by simp only[uc,rX,ad]at hB;exact hB.1.2.2.2
   obtain⟨loc2,m1,m2,m3⟩:=Hu (an:=an) (st':={st2 with env:=(iV an ν0 st1 pre).env}) (pre:=pre++[x]) k2 hA.size hA.defers (he'.tr k3) (t'.trans k3) (fun n hn v hv=>⟨v,aeR (an:=an.Cq) rfl hnr hn hv,me v⟩) hf1 hB2;exact⟨keeps k3,⟨World.cell?_of_block (k3.block b1 (al hb1 t'.size) (hno1 t')),World.cell?_of_block (k3.block b2 (al hb2 t'.size) (hno2 t'))⟩,loc2,i2,hB2,m1,m2,m3⟩
  |ret=>
   obtain⟨st2,loc2,k1,k2,k3,k4,k5⟩:=hq;simp only[rK]at k1;split at k1
   ·rename_i hpl
    exact⟨keeps k3,rfl,_,loc2,fun⟨j,hj⟩=>k1 (by
     cases j with
     |zero=>simp at hj
     |succ j=>
      rw[List.range_succ]at hj;obtain⟨e1,e2⟩:=List.append_inj' hj rfl;simp at e2;rw[e2];exact e1),hpl,k2,he'.tr k3,t'.trans k3⟩
   ·exact k1.elim
  |exit i=>obtain⟨_,_,k1,_⟩:=hq;exact k1.elim
  |goto l=>exact hq.elim
  |panic c=>exact hq.elim
  |outgrown=>exact hq.elim
 ·rintro D xs W hD rfl ⟨loc',hi,hB,g',he',t'⟩ hm
  refine⟨D,_,loc',⟨?_,hend hi,g',trS.trans t',he',hD,hm,hplainH hB⟩⟩;rw[hA.defers];rfl
 ·rintro D c pre W hD hsp ⟨rfl,st',loc',hk,hpl,g',he',t'⟩ hm
  refine wpIn_ret ⟨D,st',loc',⟨?_,hk hsp,g',trS.trans t',he',hD,hm,hpl⟩⟩;rw[hA.defers];rfl
end
def UT(cx:Cx)(it:FuncId)(ra:List (Nat×(St->oh))):Code->St->(Ex->St->VC)->VC
 |.seq a b,st,K=>match mQ b with
  |true=>UT cx it ra a st fun e st'=>match e with
   |.normal=>vc cx [] b 0 st' K
   |e=>K e st'
  |false=>match mQ a with
   |true=>vc cx [] a 0 st fun e st'=>match e with
    |.normal=>UT cx it ra b st' K
    |e=>K e st'
   |false =>.ff
 |.block id (.rangeFunc g ps asg body),st,K=>match Df ps.toList asg,look ra id with
  |some (p,d),ξ r=>match Nat.blt p cx.N&&(Nat.blt d cx.N&&mQ body)with
   |true=>aeP cx it r g p d body st K
   |false =>.ff
  |_,_ =>.ff
 |_,_,_ =>.ff
def agP(cx:Cx)(it:FuncId)(ra:List (Nat×(St->oh)))(res:List ResultVar)(c:Code)(st:St)(K:List dI->St->VC):VC:=
 UT cx it ra c st fun e st'=>match e with
  |.exit _ =>.ff
  |_=>match qR st'.aK with
   |true=>tu cx st' res fun vs=>K vs st'
   |false =>.ff
def akp:Exit->Option Ex
 |.normal=>ξ .normal
 |.exit n=>ξ (.exit n)
 |.ret=>ξ .ret
 |_=>χ
def yk(B:Nat)(S:bT)(ds:List Deferred):Prop:=ds=[]\/∃D,ds=[XF D]/\B<=D/\S.w.heap[D]?=ξ (.deferred (ξ []))/\¬S.owns D
section
variable{X:Ext}{P:Program}{cx:Cx}
def yk.tr{B:Nat}{S S':bT}{ds:List Deferred}(h:yk B S ds)(t:Tr S S'):yk B S' ds:=by
 rcases h with h|⟨D,h1,h2,h3,h4⟩
 ·exact .inl h
 ·have hlt:D<S.w.heap.size:=(Array.getElem?_eq_some_iff.1 h3).1
  exact .inr ⟨D,h1,h2,(t.block D hlt h4).trans h3,fun ho=>(t.own D ho).elim h4 fun h=>absurd hlt (cp.2 h)⟩
structure aeT (cx:Cx) (X:Ext) (O:aO) (K:St->VC) (S:bT) (a':Act) (w':World) (ds:List Deferred) (a2:Act) (st':St) (loc':Nat->Loc):Prop where
 act:a'=o1 ds a2
 rel:hZ cx (aD O st' loc' w') st' a2
 vc:(K st').holds
 ic:Good cx.eT X (aD O st' loc' w')
 tr:Tr S (aD O st' loc' w')
 marks:yk S.w.heap.size (aD O st' loc' w') ds
def QE(cx:Cx)(X:Ext)(O:aO)(K:Ex->St->VC)(S:bT):Exit->Act->World->Prop:=fun e a' w'=>∃x,akp e=ξ x/\∃ds a2 st' loc',aeT cx X O (K x) S a' w' ds a2 st' loc'
def XH{O:aO}{K:Ex->St->VC}{W:List Nat}{st1:St}{S0 S1:bT}{ds:List Deferred}(t:Tr S0 S1)(hm:yk S0.w.heap.size S1 ds){e:Exit}{a:Act}{w:World}(h:Eg ds (lB cx X O K W st1 S1) e a w):QE cx X O K S0 e a w:=by
 obtain⟨a',rfl,hb,hq⟩:=h;cases e with
 |normal=>obtain⟨st',loc',k1,k2,k3,k4,_⟩:=hq;exact⟨_,rfl,ds,a',st',loc',rfl,k4,k1,k2,t.trans k3,hm.tr k3⟩
 |exit i=>obtain⟨st',loc',k1,k2,k3,k4,_⟩:=hq;exact⟨_,rfl,ds,a',st',loc',rfl,k4,k1,k2,t.trans k3,hm.tr k3⟩
 |ret=>obtain⟨st',loc',k1,k2,k3,k4,_⟩:=hq;exact⟨_,rfl,ds,a',st',loc',rfl,k4,k1,k2,t.trans k3,hm.tr k3⟩
 |goto l=>exact hq.elim
 |panic c=>exact hq.elim
 |outgrown=>exact hq.elim
def QE.mono{O:aO}{K:Ex->St->VC}{S0 S1:bT}(t:Tr S0 S1){e:Exit}{a:Act}{w:World}(h:QE cx X O K S1 e a w):QE cx X O K S0 e a w:=by
 obtain⟨x,hx,ds,a2,st',loc',q⟩:=h;refine⟨x,hx,ds,a2,st',loc',q.act,q.rel,q.vc,q.ic,t.trans q.tr,?_⟩;rcases q.marks with h|⟨D,h1,h2,h3⟩
 ·exact .inl h
 ·exact .inr ⟨D,h1,ae t.size h2,h3⟩
def aaL(hok:nU P cx X){it:FuncId}(hit:yj P it)(heg:∀args w,(callFunc it args).run P w=.ok (.enter it args) w){O:aO}(ra:List (Nat×(St->oh))):∀(c:Code) {st:St} {loc:Nat->Loc} {w:World} {a:Act} {K:Ex->St->VC},
  hZ cx (aD O st loc w) st a->Good cx.eT X (aD O st loc w)->gx O w->(UT cx it ra c st K).holds->c.wpIn ah 3 P (QE cx X O K (aD O st loc w)) a w:=by
 intro c;induction c with
 |seq c1 c2 ih1 ih2=>
  intro st loc w a K hA g hO h;simp only[UT]at h;split at h
  ·rename_i hs2
   refine wpIn_seq (wpIn_mono (ih1 hA g hO h) ?_);rintro e a1 w1 ⟨x,hx,ds,a2,st',loc',q⟩;cases e with
   |normal=>
    cases hx;obtain⟨rfl,q2,q3,q4,q5,q6⟩:=q;exact wpIn_mono (Co (n:=3) hok (F:=ah) (.inl rfl) ds c2 0 hs2 q2 q4 (hO.tr q5.size) q3) fun e a w hq=>XH q5 q6 hq
   |exit i=>cases hx;exact⟨_,rfl,ds,a2,st',loc',q⟩
   |ret=>cases hx;exact⟨_,rfl,ds,a2,st',loc',q⟩
   |goto l=>cases hx
   |panic c=>cases hx
   |outgrown=>cases hx
  ·split at h
   ·rename_i hs1
    have hr:=Co (n:=3) hok (F:=ah) (.inl rfl) [] c1 0 hs1 hA g hO h;rw[Dg hA.defers]at hr;refine wpIn_seq (wpIn_mono hr ?_);rintro e a1 w1 hq;cases e with
    |normal=>
     obtain⟨a',rfl,hb,st',loc',k1,k2,k3,k4,_⟩:=hq;show c2.wpIn _ _ _ _ (o1 [] a') w1;rw[Dg hb];exact wpIn_mono (ih2 k4 k2 (hO.tr k3.size) k1) fun e a w hq=>hq.mono k3
    |exit i=>exact XH (K:=K) (Tr.refl _) (.inl rfl) hq
    |ret=>exact XH (K:=K) (Tr.refl _) (.inl rfl) hq
    |goto l=>exact hq.choose_spec.2.2.elim
    |panic c=>exact hq.choose_spec.2.2.elim
    |outgrown=>exact hq.choose_spec.2.2.elim
   ·exact h.elim
 |block id b ih=>
  intro st loc w a K hA g hO h;cases b with
  |rangeFunc gf ps asg body=>
   simp only[UT]at h;split at h
   ·rename_i p d r hsh _
    split at h
    ·rename_i hb
     simp only[ad]at hb;refine wpIn_block (wpIn_mono (aeS hok hit heg r hsh hb.2.2 (oS hb.1) (oS hb.2.1) hA g hO h) ?_);have fin:∀{x:Ex} {a':Act} {w':World},(∃D st' loc',XG cx X O (K x) (aD O st loc w) a a' w' D st' loc')->∃ds a2 st' loc',aeT cx X O (K x) (aD O st loc w) a' w' ds a2 st' loc':=by
      rintro x a' w' ⟨D,st',loc',q⟩;exact⟨[XF D],a,st',loc',q.act,⟨hA.size,hA.defers,q.env⟩,q.vc,q.ic,q.tr,.inr ⟨D,rfl,q.far,q.mark,KZ q.ic (fun n oc hn=>pc q.plain hn) q.mark rfl⟩⟩
     intro e a' w' hq;cases e with
     |normal=>exact⟨_,rfl,fin hq⟩
     |ret=>exact⟨_,rfl,fin hq⟩
     |exit i=>exact hq.elim
     |goto l=>exact hq.elim
     |panic c=>exact hq.elim
     |outgrown=>exact hq.elim
    ·exact h.elim
   ·exact h.elim
  |_=>exact h.elim
 |_=>intro st loc w a K hA g hO h;exact h.elim
def aaM(hok:TyOK P cx){O:aO}{st:St}{loc:Nat->Loc}{w:World}{a:Act}(g:Good cx.eT X (aD O st loc w))(he:iP cx.eT (aD O st loc w) st.env a){fn:Func}{K:List dI->VC}(h:(tu cx st fn.results.toList K).holds) :
  ∃vs us,(K vs).holds/\dK cx.eT (aD O st loc w) vs us/\(results fn a.tmps).run P w=.ok (xi us) w:=by
 obtain⟨vs,us,m1,m2,m3⟩:=DK (P:=P) hok g he h;refine⟨vs,us,m1,m2,?_⟩;have hm:(fn.results.mapM (vB a.tmps):Sem (Array Value)).run P w=.ok us.toArray w:=by
  rw[<-du (xs:=fn.results),List.mapM_toArray,Sem.run_map,m3];rfl
 have he:results fn a.tmps=(do
   let xs <-fn.results.mapM (vB a.tmps)
   return if h:xs.size=1 then xs[0]else .tuple xs):=by
  unfold results;congr 1
 rw[he,Sem.run_bind,hm];simp only[Result.andThen_ok,Sem.run_pure]
 match us with
 |[]=>rfl
 |[u]=>rfl
 |_ :: _ :: _=>rfl
def PS(hok:nU P cx X){it:FuncId}(hit:yj P it)(heg:∀args w,(callFunc it args).run P w=.ok (.enter it args) w){f:FuncId}{fn:Func}{c:Code}(hf:P.funcs[f]?=ξ fn)(hb:fn.body=ξ c)(hN:cx.N=fn.ntmps)(ra:List (Nat×(St->oh))){O:aO}{st:St}{loc:Nat->Loc}{w:World}
  {args:Array Value}{K:List dI->St->VC}(hsz:args.size<=fn.ntmps)(g:Good cx.eT X (aD O st loc w))(hO:gx O w)
  (henv:∀t sv,look st.env t=ξ sv->∃v,args[t]?=ξ v/\eK cx.eT (aD O st loc w) sv v)
  (h:(agP cx it ra fn.results.toList c st K).holds) :
  Calls P f args w fun e w'=>∃vs us st' loc',e=.returned (xi us)/\(K vs st').holds/\dK cx.eT (aD O st' loc' w') vs us/\Good cx.eT X (aD O st' loc' w')/\Tr (aD O st loc w) (aD O st' loc' w'):=by
 refine callsIn_wide.1 (callsIn_of_wp_marks (n:=3) hf hb trivial ?_);have hA:hZ cx (aD O st loc w) st {tmps:=args++Array.replicate (fn.ntmps-args.size) undef,defers:=[]}:=by
  refine⟨by simp[hN];omega,rfl,fun t sv ht =>?_⟩;obtain⟨v,hv,hr⟩:=henv t sv ht;have hlt:t<args.size:=by
   rcases Nat.lt_or_ge t args.size with hh|hh
   ·exact hh
   ·rw[Array.getElem?_eq_none hh]at hv;cases hv
  rw[cm,Array.getElem?_append,π hlt,hv];exact hr
 refine wpIn_mono (aaL hok hit heg ra c hA g hO h) ?_;have fin:∀{a':Act} {w':World} {ds:List Deferred} {a2:Act} {st':St} {loc':Nat->Loc},aeT cx X O (fun st'=>match qR st'.aK with
   |true=>tu cx st' fn.results.toList fun vs=>K vs st'
   |false =>.ff) (aD O st loc w) a' w' ds a2 st' loc'->
   LeavesInM ah 3 P fn a'.tmps (fun e w'=>∃vs us st' loc',e=.returned (xi us)/\(K vs st').holds/\dK cx.eT (aD O st' loc' w') vs us/\Good cx.eT X (aD O st' loc' w')/\Tr (aD O st loc w) (aD O st' loc' w')) a'.defers .returning w':=by
  rintro a' w' ds a2 st' loc' ⟨rfl,q2,q3,q4,q5,q6⟩;split at q3
  case h_2=>exact q3.elim
  rename_i hpl;rcases q6 with rfl|⟨D,rfl,k1,k2,k3⟩
  ·obtain⟨vs,us,m1,m2,m3⟩:=aaM hok.toTyOK q4 q2.env q3
   exact⟨_,m3,vs,us,st',loc',rfl,m1,m2,q4,q5⟩
  ·have bk:vU w.heap.size w' (w'.putObj D (.deferred χ)):=vU.of (grownBy_putObj' w' D _) (fun r e=>by cases e;exact⟨k1,_,k2,rfl⟩)
   have g':Good cx.eT X (aD O st' loc' (w'.putObj D (.deferred χ))):=Cp q4 bk (fun n oc hn=>pc hpl hn) (fun b hb=>X.NC g.nw.1 b hb);have t':Tr (aD O st loc w) (aD O st' loc' (w'.putObj D (.deferred χ))):=Jf q5 bk (ag _);have e':iP cx.eT (aD O st' loc' (w'.putObj D (.deferred χ))) st'.env a2:=Fy q2.env bk;obtain⟨vs,us,m1,m2,m3⟩:=aaM hok.toTyOK g' e' q3;refine⟨ς,.inl ⟨D,_,rfl,run_takeDeferred k2,?_⟩⟩;exact⟨_,m3,vs,us,st',loc',rfl,m1,m2,g',t'⟩
 rintro e a' w' ⟨x,hx,ds,a2,st',loc',q⟩;cases e with
 |normal=>cases hx;exact fin q
 |ret=>cases hx;exact fin q
 |exit i=>cases hx;exact q.vc.elim
 |goto l=>cases hx
 |panic c=>cases hx
 |outgrown=>cases hx
variable{aY:List Ob}{args:List Cl}
def Jg(B:Cx)(Γ:List (FuncId×(Bool×aL)))(it:FuncId)(fn:Func)(ra:List (Nat×(St->oh)))(aY:List Ob)(args:List Cl)(alts:List (Alt aY args))(a:CD args)(x:PD aY):VC:=
 agP (uo B Γ fn.ntmps) it ra fn.results.toList (codeOf fn) (mN aY args a x) fun vs st'=>wC a x vs st' alts
def Jh{B:Cx}{Γ:List (FuncId×(Bool×aL))}(hok:bH P B X Γ){it:FuncId}(hit:yj P it){fi:Func}(hfi:P.funcs[it]?=ξ fi)(hgi:rY fi 3=φ){f:FuncId}{fn:Func}(hf:P.funcs[f]?=ξ fn)(hg:rY fn args.length=φ)(ra:CD args->PD aY->List (Nat×(St->oh)))
  {pre:CD args->PD aY->Prop}{alts:List (Alt aY args)}(h:∀a x,J3 args a->pre a x->(Jg B Γ it fn (ra a x) aY args alts a x).holds) :
  aW P B.eT X f ψ (bU aY args pre alts):=by
 simp only[rY,ad,dr]at hg hgi;obtain⟨⟨h1,h2⟩,h3⟩:=hg;obtain⟨c,hc⟩:=dv.1 h1;have heg:∀args w,(callFunc it args).run P w=.ok (.enter it args) w:=fun args w=>Bi hfi (by obtain⟨ci,hci⟩:=dv.1 hgi.1.1;rw[hci];rfl) hgi.1.2 args w
 refine⟨⟨fn,hf,by rw[hc];rfl,h2⟩,fun O st loc w asg vs K hK g hO ha =>?_⟩;unfold bU at hK;obtain⟨t1,g1,e1,k1⟩:=y9 args asg g;simp only at hK;split at hK
 case h_2=>exact hK.elim
 rename_i ν hν;split at hK
 case h_2=>exact hK.elim
 rename_i a x hnd hga hx;obtain⟨hp,hpre,hK⟩:=E2 hK;obtain⟨hp1,hp2⟩:=lf.1 hp;refine(J6 (f:=f) (B:=B) (pre:=pre) g1 hO (k1 vs ha) hnd hga hx hp1 hp2 hpre hK fun hwf O' loc0 g0 hOin' hargs hlen =>?_).mono ?_
 ·have hcode:codeOf fn=c:=by unfold codeOf;rw[hc];rfl
  have hvc:=h a x hwf hpre;unfold Jg at hvc;rw[hcode]at hvc;exact PS (X:=X) (hok fn.ntmps) hit heg hf hc (by rfl) (ra a x) (O:=O') (loc:=loc0) (w:=w) (args:=vs.toArray) (st:=mN aY args a x)
   (by rw[List.size_toArray,hlen];exact Nat.le_of_ble_eq_true h3) g0 hOin'
   (fun t sv ht=>by
    obtain⟨_,v,k1,k2⟩:=xk 0 hargs t sv ht;exact⟨v,by simpa using k1,k2⟩) hvc
 ·rintro e w' ⟨v,sv,st',loc',q1,q2,q3,q4,q5,q6⟩
  exact⟨v,sv,st',loc',q1,q2,q3.trans e1,(fun hq=>by cases hq),q4,t1.trans q5,q6⟩
end
end Go.Vg

namespace Go.Mrl
open Go.Vg
def fG(l:List (D aC))(s:aA):Int:=match l.findIdx? (fun e=>ρ (e.1=s))with
 |some i=>(i:Int)
 |none =>-1
def si{l:List (D aC)}{s:aA}(h:∀j,j<l.length->(nth aC l j).1≠s):fG l s= -1:=by
 unfold fG;rw[List.findIdx?_eq_none_iff.2 fun e he=>by
  obtain⟨j,hj,rfl⟩:=gO (t:=aC) he;exact decide_eq_false (h j hj)]
def Ag{l:List (D aC)}{s:aA}{i:Nat}(hi:i<l.length)(h:∀j,j<i->(nth aC l j).1≠s)(he:(nth aC l i).1=s):fG l s=(i:Int):=by
 unfold fG;have hn:∀j (hj:j<l.length),l[j]=nth aC l j:=fun j hj=>by unfold nth;rw[List.getD_eq_getElem?_getD,List.getElem?_eq_getElem hj];rfl
 rw[(List.findIdx?_eq_some_iff_getElem (xs:=l) (p:=fun e=>ρ (e.1=s)) (i:=i)).2 ⟨hi,by rw[hn i hi];exact decide_eq_true he,fun j hj=>by
  rw[hn j ω];simp only[decide_eq_true_eq];exact h j hj⟩]
def Ah(n:Int):Int:=b6 .u8 n
def mF(n:Int):aA:=bytesOf [Ah n,Ah (n.fdiv (2^8)),Ah (n.fdiv (2^16)),Ah (n.fdiv (2^24))]
def ig(a b:Int):aA:=[83]++mF a++mF b
def wS(n:Int):(mF n).length=4:=by simp[mF,bytesOf]
def K2(a b:Int):(ig a b).length=9:=by simp[ig,wS]
def orI(a b:Int):Int:=b6 .i64 (cq b7.bits a ||| cq b7.bits b).toNat
def shI(a:Int)(n:Nat):Int:=b6 .i64 (a*2^n)
def kD(s:aA):Int:=orI (orI (orI ((bV s 0).toNat:Int) (shI ((bV s 1).toNat:Int) 8)) (shI ((bV s 2).toNat:Int) 16)) (shI ((bV s 3).toNat:Int) 24)
def om:List (D aC)->Int
 |[]=>0
 |e :: r=>if bF e≠0 then bF e else om r
def gU(l:List (D aC)):aA:=l.flatMap dQ
def eR(l:List (D aC)):aA×aR:=if om l≠0 then([],aP (om l))else(gU l,.nil)
def UU:∀{l:List (D aC)} {i:Nat},(∀j,j<i->bF (nth aC l j)=0)->i<l.length->bF (nth aC l i)≠0->om l=bF (nth aC l i)
 |[],i,_,h,_=>by simp at h
 |e :: r,0,_,_,h=>by unfold om;rw[π (show bF e≠0 from h)];rfl
 |e :: r,i+1,h,h1,h2=>by
  unfold om;rw[ε (by have:=h 0 ω;exact not_not_intro this)];exact UU (l:=r) (i:=i) (fun j hj=>h (j+1) ω) (by simpa using h1) h2
def K3:∀{l:List (D aC)},(∀j,j<l.length->bF (nth aC l j)=0)->om l=0
 |[],_=>rfl
 |e :: r,h=>by
  unfold om;rw[ε (by have:=h 0 ς;exact not_not_intro this)];exact K3 (l:=r) fun j hj=>h (j+1) (by simp;omega)
def PT:∀{l:List (D aC)},om l=0->∀e∈l,bF e=0
 |[],_,_,h=>by simp at h
 |e :: r,hb,x,hx=>by
  unfold om at hb;split at hb
  ·rename_i h;exact absurd hb h
  ·rename_i h
   rcases bj.1 hx with rfl|hx
   ·exact b4.1 h
   ·exact PT hb x hx
def aaP{l:List (D aC)}{i:Nat}(h:i<l.length):gU (l.take (i+1))=gU (l.take i)++dQ (nth aC l i):=by
 unfold gU;rw[fJ (t:=aC) h];simp
def aaQ{e:D aC}(h:bF e=0):(dQ e).length<=2753:=by
 have:=(kZ h).B3 e.2.2.1.length;unfold dQ tC;rw[ab];simp;omega
def Fz:∀{l:List (D aC)},(∀e∈l,bF e=0)->(gU l).length<=2753*l.length
 |[],_=>by simp[gU]
 |e :: r,h=>by
  have h1:=aaQ (h e ς);have h2:=Fz (l:=r) fun x hx=>h x (by simp[hx])
  have h3:gU (e :: r)=dQ e++gU r:=rfl;rw[h3,ab,ai];omega
def aaR{l:List (D aC)}{i:Nat}(hq:∀j,j<i->bF (nth aC l j)=0)(hi:i<l.length)(h:(dM (nth aC l i)).2.isNil=ψ):([],(dM (nth aC l i)).2)=eR l:=by
 have hf:bF (nth aC l i)≠0:=fun e=>by rw[PN,e]at h;cases h
 unfold eR;rw[UU hq hi hf,π hf,PN]
def aeU{l:List (D aC)}{i:Nat}(hq:∀j,j<i->bF (nth aC l j)=0)(hi:¬i<l.length):(gU (l.take i),aR.nil)=eR l:=by
 unfold eR;rw[K3 fun j hj=>hq j ω,ε δ,di ω]
def aaS{l:List (D aC)}{i:Nat}(h:i<l.length)(ht:(dM (nth aC l i)).2.isNil=φ):gU (l.take (i+1))=gU (l.take i)++(dM (nth aC l i)).1:=by
 rw[aaP h,(Ad ht).2]
def aaT{l:List (D aC)}{i:Nat}(hl:l.length<=100)(hi:i<l.length)(hq:∀j,j<i->bF (nth aC l j)=0):(gU (l.take i)).length<=275300:=by
 have h1:∀e∈l.take i,bF e=0:=fun e he=>by
  obtain⟨j,hj,rfl⟩:=gO (t:=aC) he;rw[a8]at hj;rw[Fb (t:=aC) ω];exact hq j ω
 have h2:=Fz h1;rw[a8]at h2;omega
def o3(bs:List Int):Dk->Int->List Nat->Dk×Int
 |d,_,[]=>(d,0)
 |d,s,i :: r=>if(cA d s (bytesOf (fL (t:=.int .u8) bs 64 i))).2=0 then o3 bs (cA d s (bytesOf (fL (t:=.int .u8) bs 64 i))).1 (s+1) r else cA d s (bytesOf (fL (t:=.int .u8) bs 64 i))
def PU(bs:List Int)(i:Nat):∀(pre:List Nat) (d:Dk) (s:Int),(o3 bs d s pre).2=0->
  o3 bs d s (pre++[i])=cA (o3 bs d s pre).1 (s+pre.length) (bytesOf (fL (t:=.int .u8) bs 64 i))
 |[],d,s,_=>by
  simp only[dw,o3,cr];rw[show s+((0:Nat):Int)=s by omega];split
  ·rename_i h
   exact bc rfl h.symm
  ·rfl
 |j :: r,d,s,h=>by
  simp only[b8,o3]at h ⊢;split
  ·rename_i h1
   rw[π h1]at h;rw[PU bs i r _ _ h,ai];congr 1;omega
  ·rename_i h1
   rw[ε h1]at h;exact absurd h h1
structure dX (d:Dk) (m:Nat):Prop where
 oq : -1<=(d.1.1:Int)
 pW:d.2.2.2.1.length<=m
 len:d.2.1.length=d.2.2.1.length
def dX.mono{d:Dk}{m m':Nat}(h:dX d m)(hm:m<=m'):dX d m':=⟨h.oq,ae h.pW hm,h.len⟩
def wT{d:Dk}{m:Nat}(h:dX d m):dX (stepOf d).1 m:=by
 unfold stepOf;split
 ·exact h
 ·split
  ·exact⟨bg _,h.pW,h.len⟩
  ·refine⟨?_,h.pW,h.len⟩
   have:=h.oq;show -1<=(if 0<d.1.1 then d.1.1-1 else d.1.1);split <;> omega
def oP{d:Dk}{m:Nat}(h:dX d m)(a:Int)(s:aA):dX (cA d a s).1 (m+1):=by
 unfold cA;split
 ·exact h.mono ω
 ·split
  ·refine⟨(wT h).oq,?_,?_⟩
   ·show(d.2.2.2.1++[(a,fU s,())]).length<=m+1
    rw[ab];have:=h.pW;simp;omega
   ·show d.2.1.length=(d.2.2.1.set a.toNat (fU s)).length
    rw[au];exact h.len
  ·exact(wT h).mono ω
def uQ{d:Dk}{m:Nat}(h:dX d m):dX (cC d).1 m:=by
 unfold cC;split
 ·exact⟨(wT h).oq,ar _,rfl⟩
 ·exact wT h
def PV(bs:List Int):∀(pre:List Nat) {d:Dk} {s:Int} {m:Nat},dX d m->dX (o3 bs d s pre).1 (m+pre.length)
 |[],_,_,_,h=>h
 |i :: r,d,s,m,h=>by
  simp only[o3];split
  ·exact(PV bs r (oP h _ _)).mono (by simp;omega)
  ·exact(oP h _ _).mono ς
def jI(l:List (D aC))(r:Int)(d:Dk)(pre:List Nat):Dk×Int:=o3 (bW (eR l).1) d (2+(r+1).tmod 2*55) pre
def jJ(l:List (D aC)):List Nat:=ao (gY (bW (eR l).1).length 64)
def Hv(l:List (D aC))(r:Int)(d:Dk):Dk×Int:=cC (jI l r d (jJ l)).1
def AS(l:List (D aC))(r:Int)(d:Dk):Dk×Int:=cA (Hv l r d).1 ((r+1).tmod 2) (ig (r+1) (eR l).1.length)
def fP(d:Dk)(r:Int)(l:List (D aC)):Dk×Int:=
 if om l≠0 then(d,om l)
 else if(jI l r d (jJ l)).2≠0 then jI l r d (jJ l)
 else if(Hv l r d).2≠0 then Hv l r d
 else if(AS l r d).2≠0 then AS l r d
 else cC (AS l r d).1
def agQ{r:Int}(h:0<=r):0<=(r+1).tmod 2/\(r+1).tmod 2<=1:=by rw[b9 ω];omega
def K4{l:List (D aC)}(h:l.length<=100):(eR l).1.length<=275300:=by
 unfold eR;split
 ·simp
 ·rename_i hb
  have:=Fz (PT (b4.1 hb));show(gU l).length<=275300;omega
def ue{l:List (D aC)}(h:(eR l).2.isNil=φ):(eR l).2=.nil/\om l=0:=by
 unfold eR at h ⊢;split at h
 ·rename_i hb;exact absurd (aZ.1 h) hb
 ·rename_i hb;rw[ε hb];exact⟨rfl,b4.1 hb⟩
def PW{l:List (D aC)}{r:Int}{d:Dk}(h:dX d 1000000)(pre:List Nat):dX (jI l r d pre).1 (1000000+pre.length):=PV _ pre h
def Ai{l:List (D aC)}(h:l.length<=100):gY (bW (eR l).1).length 64<=5000:=by
 have:=K4 h;unfold gY;rw[bW,bd];omega
def aaU{l:List (D aC)}(d:Dk)(r:Int)(h:(eR l).2.isNil=ψ):fP d r l=(d,om l)/\om l≠0/\(eR l).2=aP (om l):=by
 have hb:om l≠0:=fun e=>by unfold eR at h;rw[ε (not_not_intro e)]at h;cases h
 exact⟨by unfold fP;rw[π hb],hb,by unfold eR;rw[π hb]⟩
def vV{l o:List (D aC)}{d:Dk}{r:Int}{z:Dk×Int}(hk:fP d r l=z)(hz:z.2≠0) :
  (((r,o,()),z.1):(Int×List (D aC)×Unit)×Dk)=(if(fP d r l).2=0 then(r+1,l,())else(r,o,()),(fP d r l).1)/\(aP z.2,())=(aP (fP d r l).2,()):=by
 rw[hk,ε hz];exact⟨rfl,rfl⟩
def aaV{l o:List (D aC)}{d:Dk}{r:Int}{z:Dk×Int}(hk:fP d r l=z)(hz:z.2=0) :
  (((r+1,l,()),z.1):(Int×List (D aC)×Unit)×Dk)=(if(fP d r l).2=0 then(r+1,l,())else(r,o,()),(fP d r l).1)/\(aP z.2,())=(aP (fP d r l).2,()):=by
 rw[hk,π hz];exact⟨rfl,rfl⟩
def PX(bs:List Int)(i:Nat)(rest:List Nat):∀(pre:List Nat) (d:Dk) (s:Int),(o3 bs d s pre).2=0->(cA (o3 bs d s pre).1 (s+pre.length) (bytesOf (fL (t:=.int .u8) bs 64 i))).2≠0->
  o3 bs d s (pre++i :: rest)=cA (o3 bs d s pre).1 (s+pre.length) (bytesOf (fL (t:=.int .u8) bs 64 i))
 |[],d,s,_,h=>by
  simp only[dw,o3,cr]at h ⊢;rw[show s+((0:Nat):Int)=s by omega]at h ⊢;rw[ε h]
 |j :: r,d,s,h,h2=>by
  simp only[b8,o3]at h h2 ⊢;by_cases h1:(cA d s (bytesOf (fL (t:=.int .u8) bs 64 j))).2=0
  ·simp only[π h1]at h h2 ⊢
   rw[ai,show s+((r.length+1:Nat):Int)=s+1+(r.length:Int) by omega]at h2 ⊢;exact PX bs i rest r _ _ h h2
  ·rw[ε h1]at h
   exact absurd h h1
def aeV{i m:Nat}(h:i<m):∃rest,ao m=ao i++i :: rest:=by
 obtain⟨b,rfl⟩:∃b,m=i+(b+1):=⟨m-i-1,ω⟩
 rw[List.range_add,List.range_succ_eq_map];exact⟨_,by simp only[bf,Nat.add_zero];rfl⟩
def XI{l:List (D aC)}{d:Dk}{r:Int}{pre:List Nat}{i:Nat}(h0:(eR l).2.isNil=φ)(hp:(jI l r d pre).2=0)(e:pre=ao i)(hi:pre.length<gY (bW (eR l).1).length 64)
  (hw:(cA (jI l r d pre).1 (2+(r+1).tmod 2*55+(pre.length:Int)) (bytesOf (fL (t:=.int .u8) (bW (eR l).1) 64 i))).2≠0) :
  fP d r l=cA (jI l r d pre).1 (2+(r+1).tmod 2*55+(pre.length:Int)) (bytesOf (fL (t:=.int .u8) (bW (eR l).1) 64 i)):=by
 have hil:i<gY (bW (eR l).1).length 64:=by rw[e,ct]at hi;exact hi
 obtain⟨rest,hr⟩:=aeV hil;have hall:jI l r d (jJ l)=cA (jI l r d pre).1 (2+(r+1).tmod 2*55+(pre.length:Int)) (bytesOf (fL (t:=.int .u8) (bW (eR l).1) 64 i)):=by
  unfold jI jJ;rw[hr,<-e];exact PX _ i rest pre d _ hp hw
 unfold fP;rw[ε (not_not_intro (ue h0).2),hall,π hw]
def PY{l:List (D aC)}{d:Dk}{r:Int}{pre:List Nat}(i:Nat)(hp:(jI l r d pre).2=0) :
  jI l r d (pre++[i])=cA (jI l r d pre).1 (2+(r+1).tmod 2*55+(pre.length:Int)) (bytesOf (fL (t:=.int .u8) (bW (eR l).1) 64 i)):=PU _ i pre d _ hp
def ahw{l:List (D aC)}{d:Dk}{r:Int}(h0:(eR l).2.isNil=φ)(hp:(jI l r d (jJ l)).2=0)(hf:(Hv l r d).2≠0):fP d r l=Hv l r d:=by
 unfold fP;rw[ε (not_not_intro (ue h0).2),ε (not_not_intro hp),π hf]
def ahx{l:List (D aC)}{d:Dk}{r:Int}(h0:(eR l).2.isNil=φ)(hp:(jI l r d (jJ l)).2=0)(hf:(Hv l r d).2=0)(hh:(AS l r d).2≠0):fP d r l=AS l r d:=by
 unfold fP;rw[ε (not_not_intro (ue h0).2),ε (not_not_intro hp),ε (not_not_intro hf),π hh]
def K5{l:List (D aC)}{d:Dk}{r:Int}(h0:(eR l).2.isNil=φ)(hp:(jI l r d (jJ l)).2=0)(hf:(Hv l r d).2=0)(hh:(AS l r d).2=0):fP d r l=cC (AS l r d).1:=by
 unfold fP;rw[ε (not_not_intro (ue h0).2),ε (not_not_intro hp),ε (not_not_intro hf),ε (not_not_intro hh)]
def FA{l:List (D aC)}{r:Int}{d:Dk}(hl:l.length<=100)(h:dX d 1000000):dX (jI l r d (jJ l)).1 1005000:=
 (PW h (jJ l)).mono (by have:=Ai hl;unfold jJ;rw[ct];omega)
abbrev Sh:=(Int×List (D aC)×Unit)×Dk
def tD(x:Sh)(l:List (D aC)):Sh×Int:=((if(fP x.2 x.1.1 l).2=0 then(x.1.1+1,l,())else x.1,(fP x.2 x.1.1 l).1),(fP x.2 x.1.1 l).2)
def tE(l:List (D aC))(e:D aC):Option (List (D aC)):=if 0<=fG l e.1 then ξ (l.set (fG l e.1).toNat e)else if l.length=3 then χ else ξ (l++[e])
def mG(x:Sh)(e:D aC):Sh×Int:=
 if bF e≠0 then(x,bF e)else match tE x.1.2.1 e with
  |none=>(x,2)
  |some l=>tD x l
def cN(l:List (D aC))(s:aA):D aC×Bool:=if 0<=fG l s then(nth aC l (fG l s).toNat,φ)else(cD aC,ψ)
def fM(x:Sh)(s:aA):Sh×Int:=
 if 0<=fG x.1.2.1 s then tD x (x.1.2.1.eraseIdx (fG x.1.2.1 s).toNat)else(x,5)
def s4(l:List (D aC))(s:aA):fG l s<l.length/\-1<=fG l s:=by
 unfold fG;split
 ·rename_i i h
  obtain⟨h1,_⟩:=List.findIdx?_eq_some_iff_getElem.1 h;omega
 ·omega
def K6{x:Sh}{e:D aC}(h:bF e≠0):mG x e=(x,bF e):=by unfold mG;rw[π h]
def UW{x:Sh}{e:D aC}(h:bF e=0)(hi:0<=fG x.1.2.1 e.1):mG x e=tD x (x.1.2.1.set (fG x.1.2.1 e.1).toNat e):=by
 unfold mG tE;rw[ε (not_not_intro h),π hi]
def PZ{x:Sh}{e:D aC}(h:bF e=0)(hi:¬0<=fG x.1.2.1 e.1)(hl:(x.1.2.1.length:Int)=3):mG x e=(x,2):=by
 unfold mG tE;rw[ε (not_not_intro h),ε hi,π ω]
def Ji{x:Sh}{e:D aC}(h:bF e=0)(hi:¬0<=fG x.1.2.1 e.1)(hl:¬(x.1.2.1.length:Int)=3):mG x e=tD x (x.1.2.1++[e]):=by
 unfold mG tE;rw[ε (not_not_intro h),ε hi,ε ω]
def Cr{α:Type}{o:List α}{b:Bool}(q:0<o.length->b=ψ)(h:b=φ):o=[]:=by
 cases o with
 |nil=>rfl
 |cons a t=>rw[q ς]at h;cases h
def eJ(l:List (D aC)):List aA:=l.map (·.1)
def tG{l:List (D aC)}{i:Nat}(h:i<l.length):eJ (l.take i)++[(nth aC l i).1]=eJ (l.take (i+1)):=by
 rw[fJ (t:=aC) h];simp[eJ]
def Hw(l:List (D aC)):(eJ l).length=l.length:=by simp[eJ]
def Jj{l:List (D aC)}{s:aA}(h:0<=fG l s):cN l s=(nth aC l (fG l s).toNat,φ):=by unfold cN;rw[π h]
def P0{l:List (D aC)}{s:aA}(h:¬0<=fG l s):cN l s=(cD aC,ψ):=by unfold cN;rw[ε h]
def uf(s:aA):¬0<=fG [] s:=fun h=>absurd (show(0:Int)<=-1 from h) δ
def lT(l:List (D aC))(e:D aC):List (D aC)×Int:=if bF e > 0 then(l,bF e)else match tE l e with
 |none=>(l,2)
 |some l'=>(l',0)
def jw(l:List (D aC))(s:aA):List (D aC):=l.filter fun e=>ρ (e.1≠s)
def ij(l:List (D aC))(s:aA):List (D aC)×Int:=if(jw l s).length=l.length then(l,5)else(jw l s,0)
def Hx{l:List (D aC)}{e:D aC}(h:bF e > 0):lT l e=(l,bF e):=by unfold lT;rw[π h]
def P1{l:List (D aC)}{e:D aC}{i:Nat}(h:¬bF e > 0)(hi:i<l.length)(hq:∀j,j<i->(nth aC l j).1≠e.1)(he:(nth aC l i).1=e.1):lT l e=(l.set i e,0):=by
 have hf:=Ag hi hq he;unfold lT tE;rw[ε h,π (by rw[hf];omega),hf];rfl
def K7{l:List (D aC)}{e:D aC}(h:¬bF e > 0)(hq:∀j,j<l.length->(nth aC l j).1≠e.1)(hl:(l.length:Int)=3):lT l e=(l,2):=by
 unfold lT tE;rw[ε h,ε (by rw[si hq];decide),π ω]
def FB{l:List (D aC)}{e:D aC}(h:¬bF e > 0)(hq:∀j,j<l.length->(nth aC l j).1≠e.1)(hl:¬(l.length:Int)=3):lT l e=(l++[e],0):=by
 unfold lT tE;rw[ε h,ε (by rw[si hq];decide),ε ω]
def aaW(l:List (D aC))(s:aA):(jw l s).length<=l.length:=dx _ _
def Hy{l:List (D aC)}{s:aA}{i:Nat}(h:i<l.length)(hn:(nth aC l i).1≠s):jw (l.take (i+1)) s=jw (l.take i) s++[nth aC l i]:=by
 unfold jw;rw[fJ (t:=aC) h,bq];simp[hn]
def Hz{l:List (D aC)}{s:aA}{i:Nat}(h:i<l.length)(hn:(nth aC l i).1=s):jw (l.take (i+1)) s=jw (l.take i) s:=by
 unfold jw;rw[fJ (t:=aC) h,bq];simp[hn]
def XJ{l:List (D aC)}{s:aA}(h:((jw l s).length:Int)=(l.length:Int)):ij l s=(l,5):=by unfold ij;rw[π ω]
def XK{l:List (D aC)}{s:aA}(h:¬((jw l s).length:Int)=(l.length:Int)):ij l s=(jw l s,0):=by unfold ij;rw[ε ω]
def eS(c:UInt8)(s:aA):List aA:=ax [c] 1 (cu s [c]) s
def K8(sep:aA)(save:Nat):∀(k:Nat) (s:aA),∀y∈ax sep save k s,y.length<=s.length
 |0,s,y,h=>by simp[ax]at h;subst h;exact ag _
 |k+1,s,y,h=>by
  unfold ax at h;split at h
  ·simp at h;subst h;exact ag _
  ·rcases bj.1 h with rfl|h
   ·rw[a8];exact Nat.min_le_right _ _
   ·exact ae (K8 sep save k _ y h) (by rw[cw];omega)
def K9(c:UInt8)(s y:aA)(h:y∈eS c s):y.length<=s.length:=K8 _ _ _ _ _ h
def iS(d:Dk):Dk×Int:=
 if(d.2.2.1.length:Int)<112 then(d,8)
 else if(cA d 1 []).2≠0 then cA d 1 []
 else if(cC (cA d 1 []).1).2≠0 then cC (cA d 1 []).1
 else if(cA (cC (cA d 1 []).1).1 0 (ig 2 0)).2≠0 then cA (cC (cA d 1 []).1).1 0 (ig 2 0)
 else cC (cA (cC (cA d 1 []).1).1 0 (ig 2 0)).1
def ahy{d:Dk}(h:(d.2.2.1.length:Int)<112):iS d=(d,8):=by unfold iS;rw[π h]
def ajX{d:Dk}(h:¬(d.2.2.1.length:Int)<112)(h1:(cA d 1 []).2≠0):iS d=cA d 1 []:=by unfold iS;rw[ε h,π h1]
def ajY{d:Dk}(h:¬(d.2.2.1.length:Int)<112)(h1:(cA d 1 []).2=0)(h2:(cC (cA d 1 []).1).2≠0):iS d=cC (cA d 1 []).1:=by
 unfold iS;rw[ε h,ε (not_not_intro h1),π h2]
def ajZ{d:Dk}(h:¬(d.2.2.1.length:Int)<112)(h1:(cA d 1 []).2=0)(h2:(cC (cA d 1 []).1).2=0)(h3:(cA (cC (cA d 1 []).1).1 0 (ig 2 0)).2≠0):iS d=cA (cC (cA d 1 []).1).1 0 (ig 2 0):=by
 unfold iS;rw[ε h,ε (not_not_intro h1),ε (not_not_intro h2),π h3]
def aj0{d:Dk}(h:¬(d.2.2.1.length:Int)<112)(h1:(cA d 1 []).2=0)(h2:(cC (cA d 1 []).1).2=0)(h3:(cA (cC (cA d 1 []).1).1 0 (ig 2 0)).2=0):iS d=cC (cA (cC (cA d 1 []).1).1 0 (ig 2 0)).1:=by
 unfold iS;rw[ε h,ε (not_not_intro h1),ε (not_not_intro h2),ε (not_not_intro h3)]
def vb{a b:Nat}(ha:a<2^40)(hb:b<2^40):orI (a:Int) (b:Int)=((a ||| b:Nat):Int):=by
 have hlt:a ||| b<2^40:=cc ha hb
 have e:∀n:Nat,cq b7.bits (n:Int)=BitVec.ofNat b7.bits n:=fun n=>BitVec.ofInt_natCast _ n
 unfold orI;rw[e,e,<-BitVec.ofNat_or,BitVec.toNat_ofNat,Nat.mod_eq_of_lt (al hlt δ)];exact sR ω ω
def ve{a k:Nat}(ha:a<2^8)(hk:k<=24):shI (a:Int) k=((a*2^k:Nat):Int):=by
 unfold shI;have h1:2^k<=2^24:=Nat.pow_le_pow_right δ hk;have h2:a*2^k<=255*2^24:=Nat.mul_le_mul ω h1;rw[show((a:Nat):Int)*(2:Int)^k=((a*2^k:Nat):Int) by simp];exact sR ω ω
def Eh(s:aA):∃n:Nat,kD s=(n:Int)/\n<2^32:=by
 have hb:∀i,(bV s i).toNat<2^8:=fun i=>(bV s i).toNat_lt
 have h1:(bV s 1).toNat*2^8<2^32:=al (cy (hb 1) δ) δ;have h2:(bV s 2).toNat*2^16<2^32:=al (cy (hb 2) δ) δ;have h3:(bV s 3).toNat*2^24<2^32:=al (cy (hb 3) δ) δ;have h0:(bV s 0).toNat<2^32:=al (hb 0) δ;have w:∀{n:Nat},n<2^32->n<2^40:=fun h=>al h δ
 unfold kD;rw[ve (hb 1) δ,ve (hb 2) δ,ve (hb 3) δ,vb (w h0) (w h1)];have a1:=cc h0 h1;rw[vb (w a1) (w h2)];have a2:=cc a1 h2;rw[vb (w a2) (w h3)];exact⟨_,rfl,cc a2 h3⟩
def Cs(d:Dk)(i:Int):aA:=nth .str d.2.2.1 (b5 i)
def ss(d:Dk)(i:Nat):Int:=kD (av 1 (aj 5 (Cs d i)))
def ud(d:Dk)(i:Nat):Int:=kD (av 5 (aj 9 (Cs d i)))
def fN(d:Dk):Nat->Int×Int
 |0=>(0,0)
 |i+1=>if((bV (Cs d i) 0).toNat:Int)=83/\(fN d i).1<ss d i/\ud d i<=3520 then(ss d i,ud d i)else fN d i
def ln(d:Dk)(b:Int):Nat->aA
 |0=>[]
 |i+1=>ln d b i++Cs d (b+(i:Int))
def mw(L:List aA):List (D aC):=(L.filter fun s=>ρ (s≠[])).map fun s=>(jz s).1
def P2(L:List aA):Prop:=∃j,j<L.length/\nth .str L j≠[]/\(jz (nth .str L j)).2.isNil=ψ
def nr(d:Dk):Int:=2+(fN d 2).1.tmod 2*55
def eL(d:Dk):List aA:=eS 10 (aj (fN d 2).2.toNat (ln d (nr d) 55))
open Classical in
def cW(d:Dk):(Int×List (D aC))×Int:=
 if d.1.2.1=φ then((0,[]),9)else if(d.2.2.1.length:Int)<112 then((0,[]),4)else if(fN d 2).1=0 then((0,[]),4)
 else if P2 (eL d)then((0,[]),4)else(((fN d 2).1,mw (eL d)),0)
def HA(d:Dk):fN d 0=(0,0):=rfl
def agR(d:Dk)(i:Nat):fN d (i+1)=if((bV (Cs d i) 0).toNat:Int)=83/\(fN d i).1<ss d i/\ud d i<=3520 then(ss d i,ud d i)else fN d i:=rfl
def agS(d:Dk)(b:Int):ln d b 0=[]:=rfl
def XL(d:Dk)(b:Int)(i:Nat):ln d b (i+1)=ln d b i++Cs d (b+(i:Int)):=rfl
def s5(d:Dk)(i:Nat):ss d i=kD (av 1 (aj 5 (nth .str d.2.2.1 i))):=rfl
def vf(d:Dk)(i:Nat):ud d i=kD (av 5 (aj 9 (nth .str d.2.2.1 i))):=rfl
def mR(d:Dk):nr d=2+(fN d 2).1.tmod 2*55:=rfl
def je(d:Dk):eL d=eS 10 (aj (fN d 2).2.toNat (ln d (nr d) 55)):=rfl
def yl{d:Dk}{i:Nat}(h1:((bV (nth .str d.2.2.1 i) 0).toNat:Int)=83)(h2:(fN d i).1<ss d i)(h3:ud d i<=3520):fN d (i+1)=(ss d i,ud d i):=by rw[agR];exact π ⟨h1,h2,h3⟩
def Dh{d:Dk}{i:Nat}(h:¬(((bV (nth .str d.2.2.1 i) 0).toNat:Int)=83/\(fN d i).1<ss d i/\ud d i<=3520)):fN d (i+1)=fN d i:=by rw[agR];exact ε h
def jb(d:Dk):∀i,(0<=(fN d i).1/\(fN d i).1<4294967296)/\0<=(fN d i).2/\(fN d i).2<=3520
 |0=>by rw[HA];decide
 |i+1=>by
  by_cases h:((bV (nth .str d.2.2.1 i) 0).toNat:Int)=83/\(fN d i).1<ss d i/\ud d i<=3520
  ·rw[yl h.1 h.2.1 h.2.2]
   obtain⟨n,e,hn⟩:=Eh (av 1 (aj 5 (nth .str d.2.2.1 i)));obtain⟨m,e2,hm⟩:=Eh (av 5 (aj 9 (nth .str d.2.2.1 i)));have h3:=h.2.2;rw[s5,vf,e,e2];rw[vf,e2]at h3;refine⟨⟨ω,?_⟩,ω,h3⟩;have:(n:Int)<((2^32:Nat):Int):=Int.ofNat_lt.2 hn;simpa using this
  ·rw[Dh h];exact jb d i
def wU{a:Int}(h:0<=a):0<=a.tmod 2/\a.tmod 2<=1:=by rw[b9 h];omega
def mS{d:Dk}(hs:∀i,i<d.2.2.1.length->(nth .str d.2.2.1 i).length=64){b:Int}(hb:0<=b):∀n:Nat,b+(n:Int)<=d.2.2.1.length->(ln d b n).length=64*n
 |0,_=>by rw[agS];rfl
 |n+1,h=>by
  rw[XL,ab,mS hs hb n ω,show(Cs d (b+(n:Int))).length=64 from hs _ ω];omega
def aaX{d:Dk}(h:d.1.2.1=φ):cW d=((0,[]),9):=by unfold cW;rw[π h]
def aeW{d:Dk}(h1:d.1.2.1=ψ)(h:(d.2.2.1.length:Int)<112):cW d=((0,[]),4):=by unfold cW;rw[ε (by rw[h1];decide),π h]
def aaY{d:Dk}(h1:d.1.2.1=ψ)(h:¬(d.2.2.1.length:Int)<112)(h5:(fN d 2).1=0):cW d=((0,[]),4):=by unfold cW;rw[ε (by rw[h1];decide),ε h,π h5]
def aeX{d:Dk}(h1:d.1.2.1=ψ)(h:¬(d.2.2.1.length:Int)<112)(h5:¬(fN d 2).1=0)(hb:P2 (eL d)):cW d=((0,[]),4):=by unfold cW;rw[ε (by rw[h1];decide),ε h,ε h5,π hb]
def UX{d:Dk}(h1:d.1.2.1=ψ)(h:¬(d.2.2.1.length:Int)<112)(h5:¬(fN d 2).1=0)(hb:¬P2 (eL d)):cW d=(((fN d 2).1,mw (eL d)),0):=by unfold cW;rw[ε (by rw[h1];decide),ε h,ε h5,ε hb]
def aaZ{L:List aA}{i:Nat}(h:i<L.length)(he:nth .str L i=[]):mw (L.take (i+1))=mw (L.take i):=by
 unfold mw;rw[fJ (t:=.str) h,bq,he];simp
def aa0{L:List aA}{i:Nat}(h:i<L.length)(he:nth .str L i≠[]):mw (L.take (i+1))=mw (L.take i)++[(jz (nth .str L i)).1]:=by
 unfold mw;rw[fJ (t:=.str) h,bq];simp[he]
def aeY(L:List aA):(mw L).length<=L.length:=by unfold mw;rw[bd];exact dx _ _
def ahz{L:List aA}{i:Nat}(hi:¬i<L.length)(h:∀j,j<i->nth .str L j=[]\/(jz (nth .str L j)).2.isNil=φ):¬P2 L:=by
 rintro⟨j,h1,h2,h3⟩;rcases h j ω with h|h
 ·exact h2 h
 ·rw[h]at h3;cases h3
def HB(sep:aA)(save:Nat):∀(k:Nat) (s:aA),(ax sep save k s).length<=k+1
 |0,s=>by simp[ax]
 |k+1,s=>by
  unfold ax;split
  ·simp
  ·rw[ai];have:=HB sep save k (s.drop ((cz s sep).toNat+sep.length));omega
def XM(c:UInt8)(s:aA):(eS c s).length<=s.length+1:=by
 unfold eS;refine ae (HB _ _ _ _) ?_;rw[cd];have:=List.count_le_length (a:=c) (l:=s);omega
def aa1:mw []=[]:=rfl
def lM(d:Dk):Dk×Int:=c6 (⟨iS d,rfl⟩:∃y,y=iS d)
def oQ(d:Dk):lM d=iS d:=c7 (⟨iS d,rfl⟩:∃y,y=iS d)
attribute [irreducible] fN ln mw nr eL ss ud
end Go.Mrl

namespace Go.Vg
open Go.RowKit
def Jk(t:Ty):aL:=fun args st K=>
 match args with
 |[.one (.bD n),.one a,.one b]=>match look st.aK n,wh (.int .i64) a,wh (.int .i64) b with
  |some (.bD t' xs),ξ i,ξ j=>match Ty.beq t' t with
   |true =>.and (0<=(i:Int)/\(i:Int)<(j:Int)/\(j:Int)<=xs.length)
     (K (.s (.one (.bD st.next))) (fresh (bN (bN st n) n) (.bD t' (xs.take (i:Int).toNat++xs.drop (j:Int).toNat))))
   |false =>.ff
  |_,_,_ =>.ff
 |_ =>.ff
def aa2(P:Program)(f:FuncId)(sz:Nat):Prop:=∀(b i j n cap:Nat) (vs:Array Value) (T:TypeId) (w:World),w.heap[b]?=ξ (.cells vs T (0,0))->vs.size=cap*sz->i<j->j<=n->n<=cap->n<=aG->
 (∀(k:Nat) u,k<n*sz->vs[k]?=ξ u->u.oneCell'=φ)->
 Calls P f #[.slice (ξ ⟨b,0,χ⟩) n cap,.int .i64 (i:Int),.int .i64 (j:Int)] w fun e w'=>e=.returned (.slice (ξ ⟨b,0,χ⟩) (i+(n-j)) cap)/\w'.os=w.os/\w'.output=w.output/\w'.heap.size=w.heap.size/\(∀k,k≠b->w'.heap[k]?=w.heap[k]?)/\
  ∃vs':Array Value,w'.heap[b]?=ξ (.cells vs' T (0,0))/\vs'.size=vs.size/\∀k,k<(i+(n-j))*sz->vs'[k]?=vs[if k<i*sz then k else k+(j-i)*sz]?
def aeZ{i j:Int}{n:Nat}(h0:0<=i)(hij:i<j)(hj:j<=n):∃i' j':Nat,i=(i':Int)/\j=(j':Int)/\i'<j'/\j'<=n:=
 ⟨i.toNat,j.toNat,ω,ω,ω,ω⟩
section
variable{P:Program}{X:Ext}{f:FuncId}
def XN{B:Cx}{t:Ty}(hfn:∃fn,P.funcs[f]?=ξ fn/\fn.body.isNone=ψ/\(fn.name == "runtime.NumGoroutine")=ψ)(H:aa2 P f t.size) :
  aW P B.eT X f ψ (Jk t):=by
 refine⟨hfn,fun O st loc w args vs K hs g hO ha =>?_⟩;unfold Jk at hs;split at hs
 case h_2=>exact hs.elim
 rename_i n ca cb;split at hs
 case h_2=>exact hs.elim
 rename_i t' xs i j hob hi hj;split at hs
 case h_2=>exact hs.elim
 rename_i ht;have ht':=Ty.eq_of_beq ht;subst ht';obtain⟨⟨h0,hij,hjx⟩,hs⟩:=hs
 match vs,ha with
 |[v0,v1,v2],.cons a0 (.cons a1 (.cons a2 .nil))=>
 have key:=aeZ h0 hij hjx;clear h0 hij hjx;obtain⟨i,j,rfl,rfl,hij,hjx⟩:=key;have hs:(K (.s (.one (.bD st.next))) (fresh (bN (bN st n) n) (.bD t' (xs.take i++xs.drop j)))).holds:=hs;have e1:v1=.int .i64 (i:Int):=(dL.1 (sA hi a1)).1;have e2:v2=.int .i64 (j:Int):=(dL.1 (sA hj a2)).1;subst e1 e2;have hvl:=a0.2 _ _ hob;rcases(g.obj n _ hob).2 with⟨rfl,_⟩|⟨b,cs,T,cap,hl1,js,hheap,hsz,hfit,hbig,he⟩
 ·simp at hjx;omega
 have hv0:=hvl.trans hl1;subst hv0;have hxs:c8 xs*t'.size<=cs.size:=by rw[hsz];exact br _ hfit
 obtain⟨olds,ho,ho1,ho3,ho4⟩:=tp (cx:=B) he hxs;refine(H b i j xs.length cap cs T w hheap hsz hij hjx hfit hbig (fun k u hk hu=>ho4 u ?_)).mono ?_
 ·refine cj (i:=k) ?_
  rw[ho,List.getElem?_take,π hk,Array.getElem?_toList];exact hu
 rintro r w' ⟨rfl,k1,k2,k3,k4,cs',k5,k6,k7⟩;have hl':(xs.take i++xs.drop j).length=i+(xs.length-j):=by rw[ab,a8,cw];omega
 obtain⟨tr,gd⟩:=uG (w':=w') (oc:=.bD t' (xs.take i++xs.drop j)) (l:=⟨.slice (ξ ⟨b,0,χ⟩) (i+(xs.length-j)) cap,[b]⟩) g hO n n k1 k2 (Nat.le_of_eq k3.symm)
  (fun k oc' hk hl=>by
   have:k=n:=by rcases hk with h|h <;> exact h
   subst this;rw[hob]at hl;cases hl;rfl)
  (fun b' hlt hb=>k4 b' fun e'=>hb n _ (.inl rfl) hob (by rw[e',show(loc n).bs=_ from js];simp))
  (fun b' hbm=>by
   simp at hbm;subst hbm;exact .inl ⟨n,_,.inl rfl,hob,by rw[show(loc n).bs=_ from js];simp⟩)
 have gd:=gd (.inr ⟨b,cs',T,cap,by rw[hl'],rfl,k5,by rw[k6,hsz],by rw[hl'];omega,by rw[hl'];unfold aG at*;omega,fun k y hy=>by
  have hk:k<i+(xs.length-j):=by have:=bR hy;rw[hl']at this;exact this
  obtain⟨k',hk',hyx⟩:∃k',(k'=if k<i then k else k+(j-i))/\xs[k']?=ξ y:=by
   refine⟨_,rfl,?_⟩;rw[List.getElem?_append,a8]at hy;by_cases h:k<i
   ·rw[π ω,List.getElem?_take,π h]at hy
    rw[π h];exact hy
   ·rw[ε ω,List.getElem?_drop]at hy
    rw[ε h];rw[show j+(k-min i xs.length)=k+(j-i) by omega]at hy;exact hy
  obtain⟨us,r1,r2⟩:=he k' y hyx;refine⟨us,r1.frame tr.cell,fun q u hq =>?_⟩;have hql:q<t'.size:=by have:=bR hq;rw[r1.length]at this;exact this
  have hm:(k+1)*t'.size<=(i+(xs.length-j))*t'.size:=br _ hk;rw[bt,Nat.one_mul]at hm;rw[k7 _ ω];have:=r2 q u hq;by_cases h:k<i
  ·rw[π h]at hk'
   subst hk';have hm2:(k'+1)*t'.size<=i*t'.size:=br _ h;rw[bt,Nat.one_mul]at hm2;rw[π ω];exact this
  ·rw[ε h]at hk'
   have hm2:i*t'.size<=k*t'.size:=br _ ω;rw[ε ω];rw[hk',bt]at this;rw[show k*t'.size+q+(j-i)*t'.size=k*t'.size+(j-i)*t'.size+q by omega];exact this⟩)
 exact⟨_,_,_,_,rfl,hs,rfl,(fun hq=>by cases hq),gd,tr,⟨by simp[aD,fresh,bN],fun t xs hy=>by simp[aD,cK]⟩⟩
end
end Go.Vg

namespace Go.Mrl
open Go.Vg
def p7{n:Int}{k:Nat}(h0:0<=n)(h:n<((10^(k+1):Nat):Int)):(af n).length<=k+1:=by
 unfold af;rw[ε ω];exact kJ k n.toNat ω
def aa3{n:Int}(h:jv (-2147483648) 2147483647 n):(af n).length<=11:=by
 have h1:=h.1;have h2:=h.2;by_cases hn:n<0
 ·rw[BZ hn,ab,ak]
  have:=p7 (n:=-n) (k:=9) ω ω;omega
 ·have:=p7 (n:=n) (k:=9) ω ω;omega
def Jl{α:Type}{f:α->aA}{m:Nat}:∀{l:List α},(∀x∈l,(f x).length<=m)->(l.flatMap f).length<=m*l.length
 |[],_=>by simp
 |a :: r,h=>by
  have h1:=h a ς;have h2:=Jl (l:=r) fun x hx=>h x (by simp[hx])
  rw[dy,ab,ai,Nat.mul_add,Nat.mul_one];omega
def P3{p:D aJ}(h1:Nm p.1)(h2:jv 1 1000000 p.2.1)(h3:jv 0 255 p.2.2.1):(oe p).length<=21:=by
 have a:=h1.2.1;have b:=p7 (n:=p.2.1) (k:=6) (by have:=h2.1;omega) (by have:=h2.2;omega);have c:=p7 (n:=p.2.2.1) (k:=2) (by have:=h3.1;omega) (by have:=h3.2;omega);simp[oe];omega
def P4{p:D aQ}(h1:jv 0 5 p.1)(h2:jv 0 39 p.2.1)(h3:jv (-2147483648) 2147483647 p.2.2.1):(og p).length<=17:=by
 have a:=p7 (n:=p.1) (k:=0) (by have:=h1.1;omega) (by have:=h1.2;omega);have b:=p7 (n:=p.2.1) (k:=1) (by have:=h2.1;omega) (by have:=h2.2;omega);have c:=aa3 h3;simp[og];omega
def SZ{e:D aC}(hf:bF e=0):(dQ e).length<=752:=by
 have h:=kZ hf;have a1:=h.nm.2.1;have a2:=p7 (n:=(e.2.1.length:Int)) (k:=0) ω (by have:=h.p6;omega);have a3:=p7 (n:=(e.2.2.1.length:Int)) (k:=1) ω (by have:=h.D6;omega);have hh:(wR e).length<=13:=by simp[wR];omega
 have b:=Jl (f:=oe) (m:=21) (l:=e.2.1) fun x hx=>by
  obtain⟨j,hj,rfl⟩:=gO (t:=aJ) hx;obtain⟨k1,k2,k3⟩:=h.parts j hj;exact P3 k1 k2 k3
 have c:=Jl (f:=og) (m:=17) (l:=e.2.2.1) fun x hx=>by
  obtain⟨j,hj,rfl⟩:=gO (t:=aQ) hx;obtain⟨k1,k2,k3⟩:=h.Pv j hj;exact P4 k1 k2 k3
 have d1:=h.p6;have d2:=h.D6;unfold dQ tC gT iw;rw[cf,cf,ab,ab,ab,ak];omega
def Aj:∀{l:List (D aC)},(∀e∈l,bF e=0)->(gU l).length<=752*l.length
 |[],_=>by simp[gU]
 |e :: r,h=>by
  have h1:=SZ (h e ς);have h2:=Aj (l:=r) fun x hx=>h x (by simp[hx])
  have h3:gU (e :: r)=dQ e++gU r:=rfl;rw[h3,ab,ai];omega
def La{c:UInt8}:∀{l r:aA},c∉l->cz (l++c :: r) [c]=(l.length:Int)
 |[],r,_=>BX
 |b :: l,r,h=>by
  have hb:b≠c:=fun e=>h (by rw[e];simp)
  rw[b8,BW hb,La (l:=l) (r:=r) fun k=>h (da _ k),ai];rw[ε ς];omega
def S3{c:UInt8}{l r:aA}(h:c∉l):eS c (l++[c]++r)=(l++[c]) :: eS c r:=by
 have hc:cu (l++[c]++r) [c]=cu r [c]+1:=by
  rw[cd,cd,dz,List.count_append,List.count_eq_zero_of_not_mem h];simp
 have hi:cz (l++[c]++r) [c]=(l.length:Int):=by rw[dz];exact La h
 unfold eS;rw[hc,ax,hi,ε ς];have e1:((l.length:Int)).toNat+1=(l++[c]).length:=by simp
 have e2:((l.length:Int)).toNat+ [c].length=(l++[c]).length:=by simp
 rw[e2,List.drop_left,e1,List.take_left]
def XO(c:UInt8):eS c []=[[]]:=by
 unfold eS;rw[cd];rfl
def HC:∀{l:List (D aC)},(∀e∈l,bF e=0)->eS 10 (gU l)=l.map dQ++[[]]
 |[],_=>XO 10
 |e :: r,h=>by
  have h3:gU (e :: r)=tC e++[10]++gU r:=rfl;rw[h3,S3 (Xx (kZ (h e ς))),HC (l:=r) fun x hx=>h x (by simp[hx])];rfl
def ae0(e:D aC):dQ e≠[]:=by unfold dQ;simp
def HD{e:D aC}(h:bF e=0):jz (dQ e)=(e,.nil):=by unfold jz;rw[UR h rfl];rfl
def ae1{l:List (D aC)}(h:∀e∈l,bF e=0):mw (l.map dQ++[[]])=l:=by
 unfold mw;rw[bq,dT.2 fun s hs=>by
  obtain⟨e,_,rfl⟩:=ay.1 hs;exact decide_eq_true (ae0 e)]
 simp only[db,List.filter_nil,ne_eq,not_true_eq_false,decide_false,Bool.false_eq_true,if_false,List.append_nil,List.map_map];have:l.map ((fun s=>(jz s).1) ∘ dQ)=l.map id:=List.map_congr_left fun e he=>by simp only[Function.comp];rw[HD (h e he)];rfl
 rw[this,List.map_id]
def ae2{l:List (D aC)}(h:∀e∈l,bF e=0):¬P2 (l.map dQ++[[]]):=by
 rintro⟨j,h1,h2,h3⟩;have hm:nth .str (l.map dQ++[[]]) j∈l.map dQ++[[]]:=eG (t:=.str) h1;rcases aq.1 hm with hm|hm
 ·obtain⟨e,he,k⟩:=ay.1 hm
  rw[<-k,HD (h e he)]at h3;cases h3
 ·exact h2 (bm.1 hm)
def aa4(n:Int):Ah n=n % 256:=by
 unfold Ah;simp[b6,IntKind.signed,IntKind.bits]
def wV{n:Nat}{m:Int}{k:Nat}(h:m=((n / 2^k:Nat):Int)):(cg (b5 (Ah m))).toNat=n / 2^k % 256:=by
 rw[aa4,h,show((n / 2^k:Nat):Int) % 256=((n / 2^k % 256:Nat):Int) by omega,az];simp[UInt8.toNat_ofNat']
def FC(n k:Nat):((n:Nat):Int).fdiv (2^k)=((n / 2^k:Nat):Int):=by
 rw[Int.fdiv_eq_ediv_of_nonneg _ (Int.le_of_lt (Int.pow_pos δ))];simp
def P5{a b k:Nat}(h:a<2^k):a ||| b*2^k=a+b*2^k:=by
 have:=Nat.two_pow_add_eq_or_of_lt h b;rw[Nat.mul_comm,Nat.or_comm];omega
def Lb{n:Nat}(h:n<2^32):kD (mF (n:Int))=(n:Int):=by
 have b0:(bV (mF (n:Int)) 0).toNat=n / 2^0 % 256:=wV (n:=n) (k:=0) ς;have b1:(bV (mF (n:Int)) 1).toNat=n / 2^8 % 256:=wV (FC n 8);have b2:(bV (mF (n:Int)) 2).toNat=n / 2^16 % 256:=wV (FC n 16);have b3:(bV (mF (n:Int)) 3).toNat=n / 2^24 % 256:=wV (FC n 24);have l:∀k,n / 2^k % 256<2^8:=fun k=>Nat.mod_lt _ δ
 unfold kD;rw[b0,b1,b2,b3,ve (l 8) δ,ve (l 16) δ,ve (l 24) δ];have l0:=l 0;have l1:=l 8;have l2:=l 16;have l3:=l 24;generalize hb0:n / 2^0 % 256=x0 at*;generalize hb1:n / 2^8 % 256=x1 at*;generalize hb2:n / 2^16 % 256=x2 at*;generalize hb3:n / 2^24 % 256=x3 at*;rw[vb ω ω,P5 (k:=8) ω,vb ω ω,P5 (k:=16) ω,vb ω ω,P5 (k:=24) ω];congr 1;omega
structure qZ (d:Dk):Prop where
 down:d.1.2.1=ψ
 oq:(d.1.1:Int)= -1
 len:112<=d.2.2.1.length
 sec:∀i,i<d.2.2.1.length->(nth .str d.2.2.1 i).length=64
 XQ:d.2.1.length=d.2.2.1.length
def P6{s:aA}(h:s.length<=64):(fU s).length=64:=by unfold fU;simp;omega
def Ct{d:Dk}(g:qZ d):stepOf d=(d,0):=by
 unfold stepOf;rw[ε (by rw[g.down];decide),ε (by rw[g.oq];decide)];have hf:=g.oq;have hd:=g.down;obtain⟨⟨f,dn,u⟩,rest⟩:=d;simp only at hf hd;subst hd;rw[ε (by show ¬0<f;omega)]
def uR{d:Dk}(g:qZ d){a:Int}{s:aA}(h0:0<=a)(h1:a<d.2.2.1.length)(hs:s.length<=64) :
  (cA d a s).2=0/\(cA d a s).1.2.2.1=d.2.2.1.set a.toNat (fU s)/\qZ (cA d a s).1:=by
 have e:cA d a s=((d.1,d.2.1,d.2.2.1.set a.toNat (fU s),d.2.2.2.1++[(a,fU s,())],()),0):=by
  unfold cA;rw[ε ω,Ct g,π rfl]
 rw[e];refine⟨rfl,rfl,g.down,g.oq,by rw[au];exact g.len,fun i hi =>?_,by rw[au];exact g.XQ⟩;show(nth .str (d.2.2.1.set a.toNat (fU s)) i).length=64;have hi:i<(d.2.2.1.set a.toNat (fU s)).length:=hi;rw[au]at hi;by_cases c:a.toNat=i
 ·subst c;rw[nh (t:=.str) hi];exact P6 hs
 ·rw[ng (t:=.str) c];exact g.sec i hi
def uS{d:Dk}(g:qZ d):(cC d).2=0/\(cC d).1.2.2.1=d.2.2.1/\qZ (cC d).1:=by
 have e:cC d=((d.1,d.2.2.1,d.2.2.1,[],()),0):=by
  unfold cC;rw[Ct g,π rfl]
 rw[e];exact⟨rfl,rfl,g.down,g.oq,g.len,g.sec,rfl⟩
def P7(bs:List Int):∀(pre:List Nat) {d:Dk} {s:Int},qZ d->0<=s->s+(pre.length:Int)<=d.2.2.1.length->
  (o3 bs d s pre).2=0/\qZ (o3 bs d s pre).1/\(o3 bs d s pre).1.2.2.1.length=d.2.2.1.length/\
  (∀j,j<pre.length->nth .str (o3 bs d s pre).1.2.2.1 (s.toNat+j)=fU (bytesOf (fL (t:=.int .u8) bs 64 (pre.getD j 0))))/\
  (∀i,i<s.toNat\/s.toNat+pre.length<=i->nth .str (o3 bs d s pre).1.2.2.1 i=nth .str d.2.2.1 i)
 |[],d,s,g,h0,h1=>⟨rfl,g,rfl,fun j hj=>absurd hj (bu _),fun i _=>rfl⟩
 |p :: r,d,s,g,h0,h1=>by
  have hc:(bytesOf (fL (t:=.int .u8) bs 64 p)).length<=64:=by rw[bytesOf,bd,uP];exact Nat.min_le_left _ _
  rw[ai]at h1;obtain⟨w1,w2,w3⟩:=uR g (a:=s) h0 ω hc;have hl:(cA d s (bytesOf (fL (t:=.int .u8) bs 64 p))).1.2.2.1.length=d.2.2.1.length:=by rw[w2,au]
  obtain⟨k1,k2,k3,k4,k5⟩:=P7 bs r (s:=s+1) w3 ω (by rw[hl];omega);have e:o3 bs d s (p :: r)=o3 bs (cA d s (bytesOf (fL (t:=.int .u8) bs 64 p))).1 (s+1) r:=by
   rw[o3,π w1]
  rw[e];have hs1:(s+1).toNat=s.toNat+1:=by omega
  refine⟨k1,k2,k3.trans hl,fun j hj =>?_,fun i hi =>?_⟩
  ·cases j with
   |zero=>
    rw[Nat.add_zero,k5 s.toNat (.inl ω),w2,nh (t:=.str) ω];rfl
   |succ j=>
    have:=k4 j (by simpa using hj);rw[hs1]at this;rw[show s.toNat+(j+1)=s.toNat+1+j by omega,this];rfl
  ·rw[ai]at hi
   rw[k5 i ω,w2,ng (t:=.str) ω]
def UY{d:Dk}(hs:∀i,i<d.2.2.1.length->(nth .str d.2.2.1 i).length=64){b:Int}(hb:0<=b):∀(n:Nat),b+(n:Int)<=d.2.2.1.length->∀i,i<64*n->(ln d b n)[i]?=(nth .str d.2.2.1 (b.toNat+i / 64))[i % 64]?
 |0,_,i,hi=>by omega
 |n+1,h,i,hi=>by
  have hl:=mS hs hb n ω;rw[XL];by_cases c:i<64*n
  ·rw[List.getElem?_append_left (by rw[hl];exact c)]
   exact UY hs hb n ω i c
  ·rw[List.getElem?_append_right (by rw[hl];omega),hl]
   have e1:i / 64=n:=by omega
   have e2:i-64*n=i % 64:=by omega
   rw[e1,e2,show Cs d (b+(n:Int))=nth .str d.2.2.1 (b.toNat+n)from congrArg (nth .str d.2.2.1) ω]
def aa5(t:aA)(j r:Nat)(hr:r<64):(bytesOf (fL (t:=.int .u8) (bW t) 64 j))[r]?=t[j*64+r]?:=by
 have e:bytesOf (fL (t:=.int .u8) (bW t) 64 j)=(t.drop (j*64)).take 64:=by
  have h:∀l:aA,bytesOf (bW l)=l:=zA
  have h2:fL (t:=.int .u8) (bW t) 64 j=bW ((t.drop (j*64)).take 64):=by simp[fL,bW,List.map_take,List.map_drop]
  rw[h2,h]
 rw[e,List.getElem?_take,π hr,List.getElem?_drop]
def ahA{d:Dk}(hs:∀i,i<d.2.2.1.length->(nth .str d.2.2.1 i).length=64){b:Int}(hb:0<=b)(hb2:b+55<=d.2.2.1.length){t:aA}(ht:t.length<=3520)
  (hw:∀j,j<gY t.length 64->nth .str d.2.2.1 (b.toNat+j)=fU (bytesOf (fL (t:=.int .u8) (bW t) 64 j))):(ln d b 55).take t.length=t:=by
 apply ec;intro i;by_cases c:i<t.length
 ·rw[List.getElem?_take,π c,UY hs hb 55 hb2 i ω]
  have hj:i / 64<gY t.length 64:=by unfold gY;omega
  rw[hw _ hj];unfold fU;have hg:=aa5 t (i / 64) (i % 64) (Nat.mod_lt _ δ);have hi:i / 64*64+i % 64=i:=by omega
  rw[hi]at hg;have hlt:i % 64<(bytesOf (fL (t:=.int .u8) (bW t) 64 (i / 64))).length:=by
   apply Classical.byContradiction;intro hn;rw[List.getElem?_eq_none ω]at hg;rw[List.getElem?_eq_getElem c]at hg;cases hg
  rw[List.getElem?_append_left hlt,hg]
 ·rw[List.getElem?_take,ε c,List.getElem?_eq_none ω]
def aa6(a b:Int)(s:aA):av 1 (aj 5 (ig a b++s))=mF a/\av 5 (aj 9 (ig a b++s))=mF b/\(bV (ig a b++s) 0).toNat=83:=by
 refine⟨rfl,rfl,rfl⟩
def P8{d:Dk}{p:Nat}{a b:Nat}(h:nth .str d.2.2.1 p=fU (ig a b))(ha:a<2^32)(hb:b<2^32) :
  ((bV (nth .str d.2.2.1 p) 0).toNat:Int)=83/\ss d p=(a:Int)/\ud d p=(b:Int):=by
 obtain⟨h1,h2,h3⟩:=aa6 a b (dc (64-(ig a b).length) 0);rw[s5,vf,h];unfold fU;exact⟨by rw[h3];rfl,by rw[h1];exact Lb ha,by rw[h2];exact Lb hb⟩
structure lg (d:Dk) (r:Nat) (l:List (D aC)):Prop where
 ic:qZ d
 quiet:d.2.2.2.1=[]
 p8:∀e∈l,bF e=0
 pW:l.length<=3
 r2:2<=r
 rM:r<=1000000000
 head:nth .str d.2.2.1 (r % 2)=fU (ig r (gU l).length)
 other:((bV (nth .str d.2.2.1 (1-r % 2)) 0).toNat:Int)≠83\/ss d (1-r % 2)<(r:Int)
 text:(ln d (2+((r % 2:Nat):Int)*55) 55).take (gU l).length=gU l
def Cu:∀{l:List (D aC)},(∀e∈l,bF e=0)->om l=0
 |[],_=>rfl
 |e :: r,h=>by unfold om;rw[ε (not_not_intro (h e ς))];exact Cu fun x hx=>h x (by simp[hx])
def lg.small{d:Dk}{r:Nat}{l:List (D aC)}(h:lg d r l):(gU l).length<=2256:=by
 have:=Aj h.p8;have:=h.pW;omega
def lg.hds{d:Dk}{r:Nat}{l:List (D aC)}(h:lg d r l):fN d 2=((r:Int),((gU l).length:Int)):=by
 have hr:=h.r2;have hM:=h.rM;have hs:=h.small;obtain⟨k1,k2,k3⟩:=P8 h.head ω ω;have ho:=h.other;rcases Nat.mod_two_eq_zero_or_one r with e|e
 ·rw[e]at k1 k2 k3 ho
  have h1:fN d 1=((r:Int),((gU l).length:Int)):=by
   rw[yl k1 (by rw[HA,k2];show(0:Int)<r;omega) (by rw[k3];omega),k2,k3]
  rw[Dh (i:=1) fun hh =>?_,h1];rcases ho with ho|ho
  ·exact ho hh.1
  ·have h2:=hh.2.1
   rw[h1]at h2;have h2:(r:Int)<ss d 1:=h2;have ho:ss d 1<(r:Int):=ho;omega
 ·rw[e]at k1 k2 k3 ho
  have h1:(fN d 1).1<(r:Int):=by
   by_cases c:((bV (nth .str d.2.2.1 0) 0).toNat:Int)=83/\(fN d 0).1<ss d 0/\ud d 0<=3520
   ·rw[yl c.1 c.2.1 c.2.2]
    rcases ho with ho|ho
    ·exact absurd c.1 ho
    ·exact ho
   ·rw[Dh c,HA];show(0:Int)<r;omega
  rw[yl (i:=1) k1 (by rw[k2];exact h1) (by rw[k3];omega),k2,k3]
def lg.lines{d:Dk}{r:Nat}{l:List (D aC)}(h:lg d r l):eL d=l.map dQ++[[]]:=by
 rw[je,mR,h.hds];have e:((r:Int)).tmod 2=((r % 2:Nat):Int):=by rw[b9 ω];omega
 simp only[e,az];rw[h.text,HC h.p8]
def lg.opens{d:Dk}{r:Nat}{l:List (D aC)}(h:lg d r l):cW d=(((r:Int),l),0):=by
 have h5:=h.hds;rw[UX h.ic.down (by have:=h.ic.len;omega) (by rw[h5];have:=h.r2;show ¬(r:Int)=0;omega) (by rw[h.lines];exact ae2 h.p8),h.lines,ae1 h.p8,h5]
def XR{l:List (D aC)}(h:∀e∈l,bF e=0):(eR l).1=gU l:=by unfold eR;rw[ε (not_not_intro (Cu h))]
def Ei{d:Dk}(g:qZ d):(cC d).1.2.2.2.1=[]:=by
 have e:cC d=((d.1,d.2.2.1,d.2.2.1,[],()),0):=by unfold cC;rw[Ct g,π rfl]
 rw[e]
def ahB{d:Dk}{r:Nat}{l l':List (D aC)}(h:lg d r l)(hf:∀e∈l',bF e=0)(hn:l'.length<=3)(hr:r+1<=1000000000) :
  (fP d r l').2=0/\lg (fP d r l').1 (r+1) l':=by
 have hb:=Cu hf;have ht:=XR hf;have hs:(gU l').length<=2256:=by have:=Aj hf;omega
 have hlen:=h.ic.len;obtain⟨p,hp,hpd⟩:∃p:Nat,p<=1/\p=(r+1) % 2:=⟨_,ω,rfl⟩
 have hm:((r:Int)+1).tmod 2=(p:Int):=by rw[b9 ω];omega
 have hq:r % 2=1-p:=by omega
 have hN:(jJ l').length=gY (gU l').length 64:=by unfold jJ;rw[ct,ht,DY]
 have hN2:gY (gU l').length 64<=36:=by unfold gY;omega
 obtain⟨a1,a2,a3,a4,a5⟩:=P7 (bW (gU l')) (jJ l') (s:=2+(p:Int)*55) h.ic ω (by rw[hN];omega);have ew:jI l' r d (jJ l')=o3 (bW (gU l')) d (2+(p:Int)*55) (jJ l'):=by unfold jI;rw[ht,hm]
 rw[<-ew]at a1 a2 a3 a4 a5;obtain⟨b1,b2,b3⟩:=uS a2;have ef:Hv l' r d=cC (jI l' r d (jJ l')).1:=rfl;rw[<-ef]at b1 b2 b3;obtain⟨c1,c2,c3⟩:=uR b3 (a:=(p:Int)) (s:=ig ((r:Int)+1) (gU l').length) ω (by rw[b2,a3];omega) (by rw[K2];decide);have eh:AS l' r d=cA (Hv l' r d).1 (p:Int) (ig ((r:Int)+1) (gU l').length):=by unfold AS;rw[ht,hm]
 rw[<-eh]at c1 c2 c3;obtain⟨e1,e2,e3⟩:=uS c3;have ek:fP d r l'=cC (AS l' r d).1:=by
  unfold fP;rw[ε (not_not_intro hb),ε (not_not_intro a1),ε (not_not_intro b1),ε (not_not_intro c1)]
 rw[ek];have hsec:(cC (AS l' r d).1).1.2.2.1=(jI l' r d (jJ l')).1.2.2.1.set p (fU (ig ((r:Int)+1) (gU l').length)):=by
  rw[e2,c2,b2,az]
 have hpl:p<(jI l' r d (jJ l')).1.2.2.1.length:=by rw[a3];omega
 have htn:(2+(p:Int)*55).toNat=2+p*55:=by omega
 rw[htn]at a4 a5;refine⟨e1,{ic:=e3,quiet:=Ei c3,p8:=hf,pW:=hn,r2:=by have:=h.r2;omega,rM:=hr,head:=?_,other:=?_,text:=?_}⟩
 ·rw[<-hpd,hsec,nh (t:=.str) hpl];rfl
 ·rw[<-hpd]
  have hk:nth .str (cC (AS l' r d).1).1.2.2.1 (1-p)=nth .str d.2.2.1 (1-p):=by
   rw[hsec,ng (t:=.str) ω,a5 _ (.inl ω)]
  have hh:=h.head;rw[hq]at hh;have hM:=h.rM;have hsm:=h.small;obtain⟨k1,k2,k3⟩:=P8 hh ω ω;right;rw[s5,hk,<-s5,k2];omega
 ·rw[<-hpd]
  refine ahA (b:=2+(p:Int)*55) (fun i hi=>e3.sec i hi) ω (by rw[hsec,au,a3];omega) ω fun j hj =>?_
  rw[htn,hsec,ng (t:=.str) ω,a4 j (by rw[hN];exact hj)];unfold jJ;rw[ht,DY,List.getD_eq_getElem?_getD,List.getElem?_range hj];rfl
def FD{n:Int}(h:112<=n):qZ (I2 n) where
 down:=rfl
 oq:=rfl
 len:=by show 112<=(dc n.toNat (fU [])).length;rw[List.length_replicate];omega
 sec:=fun i hi=>by
  have:i<(dc n.toNat (fU [])).length:=hi;rw[show nth .str (I2 n).2.2.1 i=fU []from List.eq_of_mem_replicate (eG (t:=.str) this)];exact P6 δ
 XQ:=rfl
def Cv{d:Dk}(g:qZ d):(lM d).2=0/\lg (lM d).1 2 []:=by
 rw[oQ];have hlen:=g.len;obtain⟨a1,a2,a3⟩:=uR g (a:=1) (s:=[]) ω ω δ;obtain⟨b1,b2,b3⟩:=uS a3;obtain⟨c1,c2,c3⟩:=uR b3 (a:=0) (s:=ig 2 0) ω (by rw[b2,a2,au];omega) (by rw[K2];decide);obtain⟨e1,e2,e3⟩:=uS c3;have ek:iS d=cC (cA (cC (cA d 1 []).1).1 0 (ig 2 0)).1:=by
  unfold iS;rw[ε ω,ε (not_not_intro a1),ε (not_not_intro b1),ε (not_not_intro c1)]
 rw[ek];have hsec:(cC (cA (cC (cA d 1 []).1).1 0 (ig 2 0)).1).1.2.2.1=(d.2.2.1.set 1 (fU [])).set 0 (fU (ig 2 0)):=by
  rw[e2,c2,b2,a2];rfl
 refine⟨e1,{ic:=e3,quiet:=Ei c3,p8:=fun e he=>absurd he ς,pW:=by simp,r2:=ag _,rM:=by decide,head:=?_,other:=.inl ?_,text:=rfl}⟩
 ·rw[hsec];exact nh (t:=.str) (by rw[au];omega)
 ·rw[hsec]
  show((bV (nth .str ((d.2.2.1.set 1 (fU [])).set 0 (fU (ig 2 0))) 1) 0).toNat:Int)≠83;rw[ng (t:=.str) ω,nh (t:=.str) ω];decide
structure eQ (x:Sh) (m:List (D aC)) (k:Nat):Prop where
 list:x.1.2.1=m
 names:(m.map (·.1)).Nodup
 Jm:∃r:Nat,(x.1.1:Int)=(r:Int)/\r<=2+k/\lg x.2 r m
def Ak{x:Sh}{m l:List (D aC)}{k:Nat}(h:eQ x m k)(hk:k<=1000)(hf:∀e∈l,bF e=0)(hl:l.length<=3)(hn:(l.map (·.1)).Nodup):(tD x l).2=0/\eQ (tD x l).1 l (k+1):=by
 obtain⟨r,h1,h2,h3⟩:=h.Jm;obtain⟨k1,k2⟩:=ahB h3 hf hl ω;unfold tD;rw[show(x.1.1:Int)=(r:Int)from h1,π k1];exact⟨k1,rfl,hn,r+1,rfl,ω,k2⟩
def eQ.next{x:Sh}{m:List (D aC)}{k:Nat}(h:eQ x m k):eQ x m (k+1):=⟨h.list,h.names,let⟨r,h1,h2,h3⟩:=h.Jm;⟨r,h1,ω,h3⟩⟩
def aa7{m:List (D aC)}{e:D aC}{i:Nat}(hi:i<m.length)(he:(nth aC m i).1=e.1):(m.set i e).map (·.1)=m.map (·.1):=by
 apply ec;intro j;rw[List.getElem?_map,List.getElem?_map,List.getElem?_set];by_cases c:i=j
 ·subst c
  rw[π rfl,π hi];have:=pO (t:=aC) hi;rw[this];simp[he]
 ·rw[ε c]
def ae3{p:Nat->Prop}(h:∃i,p i):∃i,(∀j,j<i->¬p j)/\p i:=by
 obtain⟨i,hi⟩:=h;induction i using Nat.strongRecOn with
 |ind i ih=>
  by_cases c:∃j,j<i/\p j
  ·obtain⟨j,h1,h2⟩:=c;exact ih j h1 h2
  ·exact⟨i,fun j hj hp=>c ⟨j,hj,hp⟩,hi⟩
def Di(m:List (D aC))(s:aA):(∃i,i<m.length/\(∀j,j<i->(nth aC m j).1≠s)/\(nth aC m i).1=s/\fG m s=(i:Int))\/((∀j,j<m.length->(nth aC m j).1≠s)/\fG m s= -1):=by
 by_cases h:∃i,i<m.length/\(nth aC m i).1=s
 ·left
  obtain⟨i,h0,h1,h2⟩:=ae3 h;exact⟨i,h1,fun j hj e=>h0 j hj ⟨ω,e⟩,h2,Ag h1 (fun j hj e=>h0 j hj ⟨ω,e⟩) h2⟩
 ·right
  have h':∀j,j<m.length->(nth aC m j).1≠s:=fun j hj e=>h ⟨j,hj,e⟩
  exact⟨h',si h'⟩
def ae4{m:List (D aC)}{e:D aC}{i:Nat}(h:∀x∈m,bF x=0)(he:bF e=0):∀x∈m.set i e,bF x=0:=fun x hx=>by
 rcases ee hx with h1|h1
 ·exact h x h1
 ·exact h1▸he
def P9{m:List (D aC)}{s:aA}(h:∀j,j<m.length->(nth aC m j).1≠s):s∉m.map (·.1):=fun hm=>by
 obtain⟨e,he,rfl⟩:=ay.1 hm;obtain⟨j,hj,rfl⟩:=gO (t:=aC) he;exact h j hj rfl
def Qa{x:Sh}{m:List (D aC)}{k:Nat}(h:eQ x m k)(hk:k<=1000)(e:D aC):(mG x e).2=(lT m e).2/\eQ (mG x e).1 (lT m e).1 (k+1):=by
 obtain⟨r,h1,h2,h3⟩:=h.Jm;have hl:=h.list;by_cases hf:bF e=0
 ·rcases Di m e.1 with⟨i,i1,i2,i3,i4⟩|⟨j1,j2⟩
  ·rw[UW hf (by rw[hl,i4];omega),hl,i4,P1 ω i1 i2 i3,az]
   exact Ak h hk (ae4 h3.p8 hf) (by rw[au];exact h3.pW) (by rw[aa7 i1 i3];exact h.names)
  ·by_cases c:(m.length:Int)=3
   ·rw[PZ hf (by rw[hl,j2];omega) (by rw[hl];exact c),K7 ω j1 c]
    exact⟨rfl,h.next⟩
   ·rw[Ji hf (by rw[hl,j2];omega) (by rw[hl];exact c),hl,FB ω j1 c]
    refine Ak h hk (fun y hy =>?_) (by rw[ab,ak];have:=h3.pW;omega) ?_
    ·rcases aq.1 hy with hy|hy
     ·exact h3.p8 y hy
     ·rw[bm.1 hy];exact hf
    ·rw[dd,List.nodup_append]
     refine⟨h.names,ς,fun a ha b hb hab =>?_⟩;rw[List.map_singleton,bm]at hb;exact P9 j1 (by rw[<-hb,<-hab];exact ha)
 ·have:=ux e
  rw[K6 hf,Hx ω];exact⟨rfl,h.next⟩
def HE{m:List (D aC)}{s:aA}(h:s∉m.map (·.1)):jw m s=m:=by
 unfold jw;exact dT.2 fun e he=>decide_eq_true fun hh=>h (ay.2 ⟨e,he,hh⟩)
def FF:∀{m:List (D aC)} {s:aA} {i:Nat},(m.map (·.1)).Nodup->i<m.length->(nth aC m i).1=s->jw m s=m.eraseIdx i
 |[],_,_,_,h,_=>absurd h (bu _)
 |e :: r,s,0,hn,_,he=>by
  have he:e.1=s:=he;rw[bf,de]at hn;have h2:=HE (m:=r) (s:=s) (by rw[<-he];exact hn.1);unfold jw at*;rw[db,ε (by simp[he]),h2];rfl
 |e :: r,s,i+1,hn,hi,he=>by
  have he:(nth aC r i).1=s:=he;rw[bf,de]at hn;have hi:i<r.length:=by simpa using hi
  have h2:=FF (m:=r) (s:=s) (i:=i) hn.2 hi he;have hne:e.1≠s:=fun hh=>hn.1 (by rw[hh,<-he];exact ay.2 ⟨_,eG (t:=aC) hi,rfl⟩)
  unfold jw at*;rw[db,π (decide_eq_true hne),h2];rfl
def Cw{x:Sh}{m:List (D aC)}{k:Nat}(h:eQ x m k)(hk:k<=1000)(s:aA):(fM x s).2=(ij m s).2/\eQ (fM x s).1 (ij m s).1 (k+1):=by
 obtain⟨r,h1,h2,h3⟩:=h.Jm;have hl:=h.list;rcases Di m s with⟨i,i1,i2,i3,i4⟩|⟨j1,j2⟩
 ·have e:=FF h.names i1 i3
  have el:(m.eraseIdx i).length=m.length-1:=by rw[eg,π i1]
  have ed:ij m s=(m.eraseIdx i,0):=by unfold ij;rw[ε (by rw[e,el];omega),e]
  unfold fM;rw[π (by rw[hl,i4];omega),hl,i4,ed,az];exact Ak h hk (fun y hy=>h3.p8 y (List.mem_of_mem_eraseIdx hy)) (by rw[el];have:=h3.pW;omega) (h.names.sublist ((List.eraseIdx_sublist m i).map _))
 ·have e:=HE (P9 j1)
  have ed:ij m s=(m,5):=by unfold ij;rw[π (by rw[e]),]
  unfold fM;rw[ε (by rw[hl,j2];omega),ed];exact⟨rfl,h.next⟩
def eQ.at{x:Sh}{m:List (D aC)}{k:Nat}(h:eQ x m k):∃r:Nat,x.1=((r:Int),m,())/\r<=2+k/\lg x.2 r m:=by
 obtain⟨r,h1,h2,h3⟩:=h.Jm;exact⟨r,bc h1 (bc h.list rfl),h2,h3⟩
def eQ.opens{x:Sh}{m:List (D aC)}{k:Nat}(h:eQ x m k):cW x.2=((x.1.1,m),0):=by
 obtain⟨r,h1,h2,h3⟩:=h.at;rw[h3.opens,h1]
def eQ.Jn{x:Sh}{m:List (D aC)}{k:Nat}(h:eQ x m k):(cW x.2).2=0:=by rw[h.opens]
def eQ.again{x:Sh}{m:List (D aC)}{k:Nat}(h:eQ x m k):(((cW x.2).1.1,(cW x.2).1.2,()):Int×List (D aC)×Unit)=x.1:=by
 rw[h.opens];exact bc rfl (bc h.list.symm rfl)
def lg.Dj{d:Dk}{r:Nat}{l:List (D aC)}(h:lg d r l):dX d 1000000:=⟨by have:=h.ic.oq;omega,by rw[h.quiet];exact ar _,h.ic.XQ⟩
def eQ.Dj{x:Sh}{m:List (D aC)}{k:Nat}(h:eQ x m k):dX x.2 1000000:=let⟨_,_,_,h3⟩:=h.at;h3.Dj
def eQ.sec{x:Sh}{m:List (D aC)}{k:Nat}(h:eQ x m k):∀i,i<x.2.2.2.1.length->(nth .str x.2.2.2.1 i).length=64:=let⟨_,_,_,h3⟩:=h.at;h3.ic.sec
def eQ.pW{x:Sh}{m:List (D aC)}{k:Nat}(h:eQ x m k):x.1.2.1.length<=3:=by rw[h.list];let⟨_,_,_,h3⟩:=h.at;exact h3.pW
def eQ.round{x:Sh}{m:List (D aC)}{k:Nat}(h:eQ x m k):0<=(x.1.1:Int)/\(x.1.1:Int)<=2+k:=by
 obtain⟨r,h1,h2,_⟩:=h.Jm;omega
def eQ.each{x:Sh}{m:List (D aC)}{k:Nat}(h:eQ x m k):∀i,i<x.1.2.1.length->(nth aC x.1.2.1 i).2.1.length<=1000000/\(nth aC x.1.2.1 i).2.2.1.length<=1000000:=fun i hi=>by
 obtain⟨r,h1,h2,h3⟩:=h.at;have hl:=h.list;rw[hl]at hi ⊢;have h:=kZ (h3.p8 _ (eG (t:=aC) hi));have h1:=h.p6;have h2:=h.D6;exact⟨ω,ω⟩
def eQ.akq{x:Sh}{m:List (D aC)}{k:Nat}(h:eQ x m k)(hk:k<=1000):x.1.2.1.length<=100/\0<=(x.1.1:Int)/\(x.1.1:Int)<=1000000000/\dX x.2 1000000:=
 ⟨ae h.pW δ,h.round.1,by have:=h.round.2;omega,h.Dj⟩
def eQ.ahC{x:Sh}{m:List (D aC)}{k:Nat}(h:eQ x m k)(hk:k<=1000):x.1.2.1.length<=99/\0<=(x.1.1:Int)/\(x.1.1:Int)<=1000000000/\dX x.2 1000000:=
 ⟨ae h.pW δ,h.round.1,by have:=h.round.2;omega,h.Dj⟩
def S4(m:List (D aC))(e:D aC):0<=(lT m e).2:=by
 unfold lT;split
 ·have:=ux e;exact this
 ·split
  ·show(0:Int)<=2;decide
  ·exact bg 0
def Qb(m:List (D aC))(s:aA):0<=(ij m s).2:=by
 unfold ij;split
 ·show(0:Int)<=5;decide
 ·exact bg 0
def FG{a b:List aA}(h:a=b):oE a b=φ:=decide_eq_true h
def eQ.self{x:Sh}{m:List (D aC)}{k:Nat}(h:eQ x m k):eQ x x.1.2.1 k:=by rw[h.list];exact h
def eQ.agT{x:Sh}{m:List (D aC)}{k:Nat}(h:eQ x m k):(cW x.2).1.2=x.1.2.1:=by rw[h.opens,h.list]
def eQ.XS{x:Sh}{m:List (D aC)}{k:Nat}(h:eQ x m k):∀i,i<(cW x.2).1.2.length->(nth aC (cW x.2).1.2 i).2.1.length<=1000000/\(nth aC (cW x.2).1.2 i).2.2.1.length<=1000000:=by
 rw[h.agT];exact h.each
def eQ.len{x:Sh}{m:List (D aC)}{k:Nat}(h:eQ x m k):x.1.2.1.length<=1000000:=ae h.pW δ
def ae5{n:Int}(h:112<=n):eQ ((2,[],()),(lM (I2 n)).1) [] 0:=⟨rfl,List.nodup_nil,2,rfl,ag _,(Cv (FD h)).2⟩
def Lc{b:List Int}{i n:Int}{t:D aV}(h:(mA b i t n).2.isNil=φ):(-2147483648:Int)<=(mA b i t n).1/\(mA b i t n).1<=(2147483647:Int):=by
 unfold mA at h ⊢;split
 ·rename_i hk
  rw[π hk]at h;split
  ·exact⟨δ,δ⟩
  ·rename_i h1
   exact⟨by show(-2147483648:Int)<=n-(qO b i.toNat+t.1);omega,by show n-(qO b i.toNat+t.1)<=(2147483647:Int);omega⟩
 ·split
  ·exact⟨δ,δ⟩
  ·rename_i h1
   exact⟨by show(-2147483648:Int)<=n;omega,by show n<=(2147483647:Int);omega⟩
def ae6{l:List (D aB)}{b:List Int}{i:Int}{t:D aV}(h:(fY l b i t).2.isNil=φ):(-2147483648:Int)<=(fY l b i t).1/\(fY l b i t).1<=(2147483647:Int):=by
 unfold fY at h ⊢;split
 ·rename_i hk;rw[π hk]at h;exact Lc h
 ·rename_i hk
  rw[ε hk]at h;split
  ·rename_i h1;rw[π h1]at h;exact Lc h
  ·exact⟨show(-2147483648:Int)<=0 by decide,show(0:Int)<=2147483647 by decide⟩
def Qc{l:List (D aB)}{b:List Int}:∀{os:List (D aB)} {i:Nat},(∀k,k<os.length->(nth aB os k).2.2.2.1.length<=6)->(uw l b os i).length<=6*os.length
 |[],i,_=>by simp[uw]
 |o :: r,i,h=>by
  have h0:o.2.2.2.1.length<=6:=h 0 ς;have hr:=Qc (l:=l) (b:=b) (os:=r) (i:=i+1) fun k hk=>h (k+1) (by simp;omega)
  have hl:(Fp l b i o.2.2.2.1).length=o.2.2.2.1.length:=by simp[Fp]
  show(Fp l b i o.2.2.2.1++uw l b r (i+1)).length<=6*(r.length+1);rw[ab];omega
def Ld(s:List Int):∀k,kV s k % 16=0
 |0=>rfl
 |k+1=>by
  have h:=Ld s k;show(kV s k+cS (nth (.int .i64) s k)) % 16=0;unfold cS;omega
def jn.base{rd:Rd}{root:aA}{ns:List aA}{os:List (D aB)}{bs:List Int}{ps:List Pt}(h:jn rd root ns os bs ps){i:Nat}(hi:i<os.length) :
  (0:Int)<=nth (.int .i64) bs i/\nth (.int .i64) bs i<=(255:Int)/\nth (.int .i64) bs i % (16:Int)=0:=by
 obtain⟨h1,h2,h3⟩:=h.sum;have hs:∀j,j<(bX os).length->1<=(nth (.int .i64) (bX os) j:Int)/\(nth (.int .i64) (bX os) j:Int)<=40:=by
  intro k hk;rw[qw]at hk;rw[G2 hk];have:=h1 k hk;exact⟨bp.2 this.1,bp.2 this.2⟩
 have hm:=W7 hs (os.length-(i+1)) (i+1) (by rw[qw];omega);rw[show i+1+(os.length-(i+1))=os.length by omega]at hm;have e:kV (bX os) (i+1)=kV (bX os) i+cS (nth (.int .i64) (bX os) i):=rfl;have hr:=(SE (n:=nth (.int .i64) (bX os) i)).1;have hp:=(hs i (by rw[qw];exact hi)).1;have hb:=h.bi i (by rw[h.bl];exact hi);refine⟨hb.1,?_,by rw[h3 i hi];exact Ld _ _⟩;rw[h3 i hi];have h2:kV (bX os) os.length<=256:=h2;have hr:(nth (.int .i64) (bX os) i:Int)<=cS (nth (.int .i64) (bX os) i):=hr;have hp:(1:Int)<=nth (.int .i64) (bX os) i:=hp;have key:∀b c d s:Int,b=c+d->s<=d->1<=s->b<=256->c<=255:=by intros;omega
 exact key _ _ _ _ e hr hp (bo hm h2)
def XT{x:cU}(g:ji x){root:aA}{ns:List aA}{os:List (D aB)}{bs:List Int}{ps:List Pt}(h:jn (aU x) root ns os bs ps):bF (root,cT (aU x) ns bs ns.length,ps,())=0:=by
 have hrd:∀j,j<ns.length->(aU x (nth .str ns j)).2.2=0:=fun j hj=>(lE g.ok (h.sc.AO j hj).1).1
 have hl:=h.sc.len;have hle:=h.sc.le;have hpos:=h.sc.pos;have hroot:aN root=0:=by
  have:=(g.read (hrd 0 hpos)).1;rw[h.sc.head]at this;exact this
 have hps:ps.length<=36:=by
  rw[h.pt];have:=Qc (l:=os) (b:=bs) (os:=os) (i:=0) fun k hk=>(h.sc.obj g.ok hk).t6
  omega
 refine Ci (Int.le_of_eq hroot) (eP ?_ ?_ ?_) (fun j hj =>?_) (fun j hj =>?_)
 ·show(1:Int)<=((cT (aU x) ns bs ns.length).length:Int);rw[fE];omega
 ·show((cT (aU x) ns bs ns.length).length:Int)<=6;rw[fE];omega
 ·show(ps.length:Int)<=36;omega
 ·have hj:j<ns.length:=by rw[<-fE (aU x) ns bs ns.length];exact hj
  show eO (nth aJ (cT (aU x) ns bs ns.length) j)=0;rw[jX hj];obtain⟨r1,_,r3,r4⟩:=g.read (hrd j hj);obtain⟨b1,b2,b3⟩:=h.base (i:=j) ω;have hm:=g.st.pre.2.2;exact Fv (Int.le_of_eq r1) r3 (bo r4 hm) b1 b2 b3
 ·have hj:j<ps.length:=hj
  show dY (cT (aU x) ns bs ns.length).length (nth aQ ps j)=0;rw[fE];have hp:=h.okp j hj;have hmem:nth aQ ps j∈uw os bs os 0:=by rw[<-h.pt];exact eG (t:=aQ) hj
  obtain⟨k,t,hk,ht,e⟩:=Fq hmem;rw[Nat.zero_add]at e;have hw:=ae6 (h.one k hk t ht);have h40:=(h.sc.obj g.ok hk).Z2;have h2:=hp.2.2.2;have h1:=hp.2.1;rw[oK]at h1;have ek:(nth aQ ps j).1=(k:Int):=by rw[e]
  rw[ek,az,qx hk]at h2;refine Hh hp.1 (by rw[ek];omega) hp.2.2.1 (Int.le_of_lt_add_one (show _<(39:Int)+1 from Int.lt_of_lt_of_le h2 (bp.2 h40))) ?_ ?_
  ·rw[e];exact hw.1
  ·rw[e];exact hw.2
def Le{x:cU}(g:ji x){root:aA}(h1:(aP (dA (aU x) root).2).isNil=φ) :
  (cR (aU x) root).2=0/\mM (aU x) (dA (aU x) root).1=cR (aU x) root/\eN (aU x) (dA (aU x) root).1=φ/\bF (dA (aU x) root).1=0:=by
 obtain⟨ns,os,bs,ps,e,hr,em⟩:=KU g.ok h1;have hf:=hr.fresh g.ok;have hu:=hr.use g.ok (rd':=aU x) (fun _ _=>rfl) hf;have hl:=I7 e hr;rw[em];exact⟨by rw[hl],hu.trans hl.symm,hf,XT g hr⟩
def o4(f:cU)(e:D aC):Prop:=∃f0:cU,ji f0/\f0.1.1<=f.1.1/\dA (aU f0) e.1=(e,0)/\∀k,(aU f k).2.2=0->(aU f k).2.1<=f0.1.1->aU f k=aU f0 k
def XU(f:cU)(s t k:aA):aU (cZ f s t).1 k=aU f k\/(aU (cZ f s t).1 k).2.1=f.1.1+1:=by
 cases he:(aP (cZ f s t).2).isNil with
 |false=>left;rw[Z0 he]
 |true=>
  by_cases e:k=s
  ·right;rw[e,ZZ he]
  ·left;exact WU e
def o4.write{f:cU}{e:D aC}(h:o4 f e)(g:ji f)(s t:aA):o4 (cZ f s t).1 e:=by
 obtain⟨f0,h1,h2,h3,h4⟩:=h;refine⟨f0,h1,bo h2 (g.st.write s t).2,h3,fun k a b =>?_⟩;rcases XU f s t k with c|c
 ·rw[c]at a b ⊢;exact h4 k a b
 ·have h2:(f0.1.1:Int)<=f.1.1:=h2
  have b:((aU (cZ f s t).1 k).2.1:Int)<=f0.1.1:=b;rw[c]at b;omega
def Lf{s:aA}:∀{es:List FE},(es.map lQ).Nodup->dV cY (iW cY es s) s=ψ
 |[],_=>rfl
 |y :: es,h=>by
  rw[bf,de]at h;by_cases e:y.1=s
  ·have hd:iW cY (y :: es) s=es:=π e
   rw[hd];cases hh:dV cY es s with
   |false=>rfl
   |true=>
    obtain⟨z,hz,e2⟩:=oH.1 hh;exact absurd (ay.2 ⟨z,hz,(e2.trans e.symm:lQ z=lQ y)⟩) h.1
  ·have hd:iW cY (y :: es) s=y :: iW cY es s:=ε e
   rw[hd];have:=Lf (s:=s) h.2;simp only[dV]at this ⊢;simp[this,e]
def aa8{f:cU}(g:ji f)(s:aA):(aU (fA f s).1 s).2.2=5:=by
 obtain⟨r,hr⟩:=g.st.ic;cases hh:dV cY f.2.1.1 s with
 |false=>rw[pa hh,ov hh]
 |true=>
  rw[n5 hh,ov];exact Lf hr.names
def o4.remove{f:cU}{e:D aC}(h:o4 f e)(g:ji f)(s:aA):o4 (fA f s).1 e:=by
 obtain⟨f0,h1,h2,h3,h4⟩:=h;refine⟨f0,h1,bo h2 (g.st.remove s).2,h3,fun k a b =>?_⟩;by_cases c:k=s
 ·subst c;rw[aa8 g]at a;cases a
 ·rw[aaq c]at a b ⊢;exact h4 k a b
def o4.self{f:cU}(g:ji f){s:aA}{e:D aC}(h:dA (aU f) s=(e,0))(hs:e.1=s):o4 f e:=⟨f,g,bg _,by rw[hs];exact h,fun _ _ _=>rfl⟩
def aa9{rd:Rd}{s:aA}(h:(dA rd s).2=0):(dA rd s).1.1=s:=by
 unfold dA at h ⊢;split
 ·rename_i c;rw[π c]at h;exact absurd h c
 ·rfl
def o4.akr{f:cU}{e:D aC}(h:o4 f e)(hf:eN (aU f) e=φ):dA (aU f) e.1=(e,0):=by
 obtain⟨f0,h1,h2,h3,h4⟩:=h;obtain⟨ns,os,bs,ps,e1,hr,em⟩:=KU h1.ok (root:=e.1) (by rw[h3];rfl);have he:e=(e.1,cT (aU f0) ns bs ns.length,ps,()):=by
  have:=em;rw[h3]at this;exact congrArg Prod.fst this
 rw[Xr e1 hr (rd':=aU f) fun k hk =>?_,h3];obtain⟨j,hj,rfl⟩:=gO (t:=.str) hk;obtain⟨_,q⟩:=KO hf;have hst:e.2.1=cT (aU f0) ns bs ns.length:=by rw[he]
 have qj:=q j (by rw[hst,fE];exact hj);rw[hst,jX hj]at qj;simp only at qj;have hrd:(aU f0 (nth .str ns j)).2.2=0:=by
  have:=KS h1.ok (s:=e.1) (by rw[e1]) (i:=j) (by rw[e1];exact hj);rw[e1]at this;exact this
 refine h4 _ qj.1 ?_;rw[qj.2];exact(h1.read hrd).2.2.2
def iy(f:cU)(l:List (D aC))(s:aA):List (D bS)×Bool×Int:=
 if(cN l s).2=φ/\eN (aU f) (cN l s).1=φ then((mM (aU f) (cN l s).1).1,ρ ((mM (aU f) (cN l s).1).2=0),(mM (aU f) (cN l s).1).2)
 else((cR (aU f) s).1,ψ,(cR (aU f) s).2)
def wW{l:List (D aC)}{s:aA}(h:(cN l s).2=φ):(cN l s).1∈l/\(cN l s).1.1=s:=by
 rcases Di l s with⟨i,i1,i2,i3,i4⟩|⟨j1,j2⟩
 ·rw[Jj ω,i4,az];exact⟨eG (t:=aC) i1,i3⟩
 ·rw[P0 ω]at h;cases h
structure kW (f:cU) (l:List (D aC)):Prop where
 ic:ji f
 made:∀e∈l,o4 f e
def kW.new:kW qo []:=⟨.new,fun e he=>absurd he ς⟩
def kW.write{f:cU}{l:List (D aC)}(h:kW f l)(s t:aA):kW (cZ f s t).1 l:=⟨h.ic.write s t,fun e he=>(h.made e he).write h.ic s t⟩
def kW.remove{f:cU}{l:List (D aC)}(h:kW f l)(s:aA):kW (fA f s).1 l:=⟨h.ic.remove s,fun e he=>(h.made e he).remove h.ic s⟩
def ae7{l:List (D aC)}{e x:D aC}(h:x∈(lT l e).1):x=e\/x∈l:=by
 unfold lT at h;split at h
 ·exact .inr h
 ·split at h
  ·exact .inr h
  ·rename_i l' hl
   unfold tE at hl;split at hl
   ·cases hl
    rcases ee h with h|h
    ·exact .inr h
    ·exact .inl h
   ·split at hl
    ·cases hl
    ·cases hl
     rcases aq.1 h with h|h
     ·exact .inr h
     ·exact .inl (bm.1 h)
def aba{l:List (D aC)}{s:aA}{x:D aC}(h:x∈(ij l s).1):x∈l:=by
 unfold ij at h;split at h
 ·exact h
 ·exact(List.mem_filter.1 h).1
def o5(f:cU)(l:List (D aC))(s:aA):List (D aC)×Int:=if(dA (aU f) s).2=0 then lT l (dA (aU f) s).1 else(l,(dA (aU f) s).2)
def kW.put{f:cU}{l:List (D aC)}(h:kW f l){s:aA}(hm:(dA (aU f) s).2=0):kW f (lT l (dA (aU f) s).1).1:=by
 refine⟨h.ic,fun x hx =>?_⟩;rcases ae7 hx with rfl|hx
 ·exact o4.self h.ic (bc rfl hm) (aa9 hm)
 ·exact h.made x hx
def kW.build{f:cU}{l:List (D aC)}(h:kW f l)(s:aA):kW f (o5 f l s).1:=by
 unfold o5;split
 ·rename_i hm;exact h.put hm
 ·exact h
def kW.drop{f:cU}{l:List (D aC)}(h:kW f l)(s:aA):kW f (ij l s).1:=⟨h.ic,fun x hx=>h.made x (aba hx)⟩
def kW.load{f:cU}{l:List (D aC)}(h:kW f l)(s:aA):(iy f l s).1=(cR (aU f) s).1/\(iy f l s).2.2=(cR (aU f) s).2/\
  (iy f l s).2.1=((cN l s).2&&eN (aU f) (cN l s).1)/\((iy f l s).2.1=φ->(cR (aU f) s).2=0):=by
 unfold iy;by_cases c:(cN l s).2=φ/\eN (aU f) (cN l s).1=φ
 ·rw[π c]
  obtain⟨m1,m2⟩:=wW c.1;have ha:=(h.made _ m1).akr c.2;rw[m2]at ha;obtain⟨u1,u2,u3,u4⟩:=Le h.ic (root:=s) (by rw[ha];rfl);rw[ha]at u2;rw[u2,u1,c.1,c.2];exact⟨rfl,rfl,rfl,fun _=>rfl⟩
 ·rw[ε c]
  refine⟨rfl,rfl,?_,fun e=>by cases e⟩;show ψ=_;exact(Bool.eq_false_iff.2 fun e=>c (by rw[ad]at e;exact e)).symm
def Cy(x:Sh):Prop:=x.1.2.1.length<=99/\0<=(x.1.1:Int)/\(x.1.1:Int)<=1000000000/\dX x.2 1000000
def vW(l:List (D aC)):Prop:=∀i,i<l.length->(nth aC l i).2.1.length<=1000/\(nth aC l i).2.2.1.length<=1000
def jc(f:cU)(x:Sh)(s:aA):Sh×Int:=if(dA (aU f) s).2=0 then mG x (dA (aU f) s).1 else(x,(dA (aU f) s).2)
def abb{f:cU}{x:Sh}{s:aA}(h:¬(dA (aU f) s).2=0):jc f x s=(x,(dA (aU f) s).2):=by unfold jc;rw[ε h]
def XV{f:cU}{x:Sh}{s:aA}(h:(dA (aU f) s).2=0):jc f x s=mG x (dA (aU f) s).1:=by unfold jc;rw[π h]
def XW{f:cU}(g:ji f){s:aA}(h:(dA (aU f) s).2=0):(dA (aU f) s).1.2.1.length<=1000000/\(dA (aU f) s).1.2.2.1.length<=1000000:=by
 have:=kZ (Le g (root:=s) (aZ.2 h)).2.2.2;have h1:=this.p6;have h2:=this.D6;exact⟨ω,ω⟩
def abc{l:List (D aC)}(h:vW l){s:aA}(hs:(cN l s).2=φ):(cN l s).1.2.1.length<=1000:=by
 obtain⟨j,hj,e⟩:=gO (t:=aC) (wW hs).1;rw[<-e];exact(h j hj).1
def vW.wide{l:List (D aC)}(h:vW l):∀i,i<l.length->(nth aC l i).2.1.length<=1000000/\(nth aC l i).2.2.1.length<=1000000:=fun i hi=>by
 have:=h i hi;omega
def abd{f:cU}{l:List (D aC)}{s:aA}(h1:(cN l s).2=φ)(h2:eN (aU f) (cN l s).1=φ) :
  iy f l s=((mM (aU f) (cN l s).1).1,ρ ((mM (aU f) (cN l s).1).2=0),(mM (aU f) (cN l s).1).2):=by unfold iy;rw[π ⟨h1,h2⟩]
def Lg{f:cU}{l:List (D aC)}{s:aA}(h:¬((cN l s).2=φ/\eN (aU f) (cN l s).1=φ)):iy f l s=((cR (aU f) s).1,ψ,(cR (aU f) s).2):=by unfold iy;rw[ε h]
def ahD(n:Int):(aP n).isNil=ρ (n=0):=by
 cases h:(aP n).isNil with
 |true=>rw[decide_eq_true (aZ.1 h)]
 |false=>rw[decide_eq_false fun e=>by rw[aZ.2 e]at h;cases h]
def kr(rd:Rd)(l:List (D aC))(s:aA):List (D aC)×Int:=if(dA rd s).2 > 0 then(l,(dA rd s).2)else lT l (dA rd s).1
def abe{rd:Rd}{l:List (D aC)}{s:aA}(h:(dA rd s).2 > 0):kr rd l s=(l,(dA rd s).2):=by unfold kr;rw[π h]
def HF{rd:Rd}{l:List (D aC)}{s:aA}(h:(dA rd s).2<=0):kr rd l s=lT l (dA rd s).1:=by unfold kr;rw[ε ω]
def mb(rd:Rd)(l:List (D aC))(s:aA):List (D bS)×Bool×Int:=((cR rd s).1,(cN l s).2&&eN rd (cN l s).1,(cR rd s).2)
structure iq (f:cU) (m:RS) (x:Sh) (k:Nat):Prop where
 files:dZ f m
 kept:kW f x.1.2.1
 iM:eQ x x.1.2.1 k
def iq.rd{f:cU}{m:RS}{x:Sh}{k:Nat}(h:iq f m x k):aU f=bM m.1:=funext fun s=>h.files.read s
def iq.rok{f:cU}{m:RS}{x:Sh}{k:Nat}(h:iq f m x k):gG (bM m.1):=by rw[<-h.rd];exact h.kept.ic.ok
def iq.write{f:cU}{m:RS}{x:Sh}{k:Nat}(h:iq f m x k)(s t:aA):iq (cZ f s t).1 (jk m s t).1 x (k+1):=⟨(h.files.write s t).1,h.kept.write s t,h.iM.next⟩
def iq.remove{f:cU}{m:RS}{x:Sh}{k:Nat}(h:iq f m x k)(s:aA):iq (fA f s).1 (kz m s).1 x (k+1):=⟨(h.files.remove s).1,h.kept.remove s,h.iM.next⟩
def iq.next{f:cU}{m:RS}{x:Sh}{k:Nat}(h:iq f m x k):iq f m x (k+1):=⟨h.files,h.kept,h.iM.next⟩
def iq.XX{f:cU}{m:RS}{x:Sh}{k:Nat}(h:iq f m x k)(hk:k<=1000):Cy x:=h.iM.ahC hk
def eQ.ae8{x:Sh}{m:List (D aC)}{k:Nat}(h:eQ x m k):vW x.1.2.1:=fun i hi=>by
 obtain⟨r,h1,h2,h3⟩:=h.at;rw[h.list]at hi ⊢;have h:=kZ (h3.p8 _ (eG (t:=aC) hi));have h1:=h.p6;have h2:=h.D6;exact⟨ω,ω⟩
def HG{f:cU}{x:Sh}{k:Nat}(g:ji f)(h:eQ x x.1.2.1 k)(hk:k<=1000)(s:aA):(jc f x s).2=(o5 f x.1.2.1 s).2/\eQ (jc f x s).1 (o5 f x.1.2.1 s).1 (k+1):=by
 unfold jc o5;by_cases c:(dA (aU f) s).2=0
 ·rw[π c,π c];exact Qa h hk _
 ·rw[ε c,ε c];exact⟨rfl,h.next⟩
def iq.o5{f:cU}{m:RS}{x:Sh}{k:Nat}(h:iq f m x k)(s:aA):o5 f x.1.2.1 s=kr (bM m.1) x.1.2.1 s:=by
 unfold Mrl.o5 kr;rw[h.rd];have:=SX h.rok s;by_cases c:(dA (bM m.1) s).2=0
 ·rw[π c,ε ω]
 ·rw[ε c,π ω]
def iq.build{f:cU}{m:RS}{x:Sh}{k:Nat}(h:iq f m x k)(hk:k<=1000)(s:aA):(jc f x s).2=(kr (bM m.1) x.1.2.1 s).2/\(jc f x s).1.1.2.1=(kr (bM m.1) x.1.2.1 s).1/\iq f m (jc f x s).1 (k+1):=by
 have hb:=HG h.kept.ic h.iM hk s;have hl:=hb.2.list;rw[h.o5 s]at hb hl;exact⟨hb.1,hl,h.files,by rw[hl,<-h.o5 s];exact h.kept.build s,hb.2.self⟩
def iq.drop{f:cU}{m:RS}{x:Sh}{k:Nat}(h:iq f m x k)(hk:k<=1000)(s:aA):(fM x s).2=(ij x.1.2.1 s).2/\(fM x s).1.1.2.1=(ij x.1.2.1 s).1/\iq f m (fM x s).1 (k+1):=by
 have hb:=Cw h.iM hk s;have hl:=hb.2.list;exact⟨hb.1,hl,h.files,by rw[hl];exact h.kept.drop s,hb.2.self⟩
def Ng{rd:Rd}(l:List (D aC))(s:aA):0<=(kr rd l s).2:=by
 unfold kr;split
 ·show 0<=(dA rd s).2;omega
 ·exact S4 _ _
def iq.load{f:cU}{m:RS}{x:Sh}{k:Nat}(h:iq f m x k)(s:aA):(iy f x.1.2.1 s).1=(mb (bM m.1) x.1.2.1 s).1/\(iy f x.1.2.1 s).2.2=(mb (bM m.1) x.1.2.1 s).2.2/\
  (iy f x.1.2.1 s).2.1=((mb (bM m.1) x.1.2.1 s).2.1&&ρ ((mb (bM m.1) x.1.2.1 s).2.2=0)):=by
 obtain⟨a,b,c,d⟩:=h.kept.load s;rw[h.rd]at a b c d;refine⟨a,b,?_⟩;show(iy f x.1.2.1 s).2.1=(((cN x.1.2.1 s).2&&eN (bM m.1) (cN x.1.2.1 s).1)&&ρ ((cR (bM m.1) s).2=0));rw[<-c];cases e:(iy f x.1.2.1 s).2.1 with
 |false=>rfl
 |true=>rw[decide_eq_true (d e)];rfl
def aks(d:Dk):Prop:=d.2.1.length=d.2.2.1.length/\∀i,i<d.2.2.2.1.length->0<=((nth iJ d.2.2.2.1 i).1:Int)/\((nth iJ d.2.2.2.1 i).1:Int)<(d.2.2.1.length:Int)
def Nh{d:Dk}(h:d.2.2.2.1=[])(c:Int):nC d c=((-1,ψ,()),d.2.1,d.2.1,[],()):=by unfold nC;rw[h];rfl
def lU(d:Dk)(c:Int):Dk:=c6 (⟨nC d c,rfl⟩:∃y,y=nC d c)
def Ej(d:Dk)(c:Int):lU d c=nC d c:=c7 (⟨nC d c,rfl⟩:∃y,y=nC d c)
def XY{e:D aC}(h:bF e=0):aN e.1=0:=by
 have:=cO e.1;unfold bF at h;split at h
 ·exact h
 ·omega
def HH{d:Dk}(h:(cC d).2=0):(cC d).1.2.1=(cC d).1.2.2.1:=by
 by_cases c:(stepOf d).2=0
 ·rw[Kg c]
 ·rw[DU c]at h;exact absurd h c
end Go.Mrl

namespace Go.Mrl
open Go Go.Vg
def gH(n:Int):aA:=if -9223372036854775808<=n/\n<=9223372036854775807 then af n else[]
def Dl{n:Int}(h0 : -9223372036854775808<=n)(h1:n<=9223372036854775807):gH n=af n:=π ⟨h0,h1⟩
def eB(n:Int):aA:=[101,114,114,111,114,32]++gH n
def ym(n:Int):(aP n).num=n:=by
 unfold aP;split
 ·rename_i h;rw[h];rfl
 ·rfl
def join_le:∀{l:List aA} {s:aA} {i:Nat},i<=l.length->(aw (l.take i) s).length<=(aw l s).length
 |[],s,i,_=>by rw[List.take_nil];exact ag _
 |x :: r,s,0,_=>ar _
 |x :: r,s,i+1,h=>by
  rw[ei,bw,bw];have:(r.take i++r.drop i)=r:=List.take_append_drop _ _
  conv=>rhs;rw[<-this]
  simp only[ch,dd,List.flatten_append,ab];omega
def lN(e:aR):aA:=match e.isNil with
 |true=>[111,107]
 |false=>eB e.num
def nQ(n:Int):aA:=if n > 0 then eB n else[111,107]
def Al{n:Int}(h:0<=n):lN (aP n)=nQ n:=by
 unfold lN nQ;by_cases h0:n=0
 ·subst h0;rfl
 ·rw[π ω,ym]
  cases hb:(aP n).isNil with
  |true=>exact absurd (aZ.1 hb) h0
  |false=>rfl
def kX(l:List aA)(s:aA):aA:=if l=[]then[45]else aw l s
def ku(l:List aA)(s:aA):Nat->aA
 |0=>[]
 |i+1=>(if i > 0 then ku l s i++s else ku l s i)++nth .str l i
def Am{l:List aA}{s:aA}:∀{i:Nat},i<=l.length->ku l s i=aw (l.take i) s
 |0,_=>rfl
 |1,h=>by
  have e:l.take 1=[nth .str l 0]:=by rw[fJ (t:=.str) h];rfl
  show ku l s 0++nth .str l 0=_;rw[e,Lib.join_one];rfl
 |i+2,h=>by
  show(if i+1 > 0 then ku l s (i+1)++s else ku l s (i+1))++nth .str l (i+1)=_;rw[π (Nat.succ_pos i),Am (Nat.le_of_succ_le h),fJ (t:=.str) (i:=i+1) h];obtain⟨x,r,e⟩:∃x r,l.take (i+1)=x :: r:=by
   cases hl:l.take (i+1)with
   |nil=>have:=congrArg c8 hl;rw[a8,cr]at this;omega
   |cons x r=>exact⟨x,r,rfl⟩
  rw[e,b8,bw,bw];simp[ch]
def abf{l:List aA}{s:aA}(h:¬l=[]):ku l s l.length=kX l s:=by
 rw[Am (ag _),cf];exact(ε h).symm
def Lh{l:List aA}{s:aA}{i:Nat}(h:0<i):ku l s i++s++nth .str l i=ku l s (i+1):=by
 show _=(if i > 0 then ku l s i++s else ku l s i)++nth .str l i;rw[π h]
def HI{l:List aA}{s:aA}{i:Nat}(h:¬0<i):ku l s i++nth .str l i=ku l s (i+1):=by
 show _=(if i > 0 then ku l s i++s else ku l s i)++nth .str l i;rw[ε h]
def Li{l:List aA}{s:aA}{i:Nat}(h:i<l.length):(ku l s (i+1)).length<=(aw l s).length:=by
 rw[Am h];exact join_le h
def HJ{l:List aA}{s:aA}{i:Nat}(h:i<l.length)(h0:0<i):(ku l s i).length+s.length+(nth .str l i).length<=(aw l s).length:=by
 have:=Li (s:=s) h;rw[<-Lh h0]at this;simp only[ab]at this;exact this
def XZ{l:List aA}{s:aA}{i:Nat}(h:i<l.length)(h0:¬0<i):(ku l s i).length+(nth .str l i).length<=(aw l s).length:=by
 have:=Li (s:=s) h;rw[<-HI h0]at this;simp only[ab]at this;exact this
def Ek{s:aA}{B:Nat}:∀{r:List aA},(∀x∈r,x.length<=B)->(ch s r).length<=r.length*(B+s.length)
 |[],_=>ar _
 |x :: r,h=>by
  have a:=h x ς;have b:=Ek (r:=r) (s:=s) fun y hy=>h y (da _ hy)
  simp only[ch,bf,List.flatten_cons,ab,ai,bt]at b ⊢;omega
def HK{s:aA}{B:Nat}{l:List aA}(h:∀x∈l,x.length<=B):(aw l s).length<=l.length*(B+s.length):=by
 cases l with
 |nil=>exact ar _
 |cons x r=>
  rw[bw,ab,ai,bt];have a:=h x ς;have b:=Ek (r:=r) (s:=s) fun y hy=>h y (da _ hy)
  omega
def Cz(p:D bS):aA:=p.1++[32]++gH p.2.1++[58]
def oR(ws:List Int):Nat->aA
 |0=>[]
 |i+1=>oR ws i++([32]++gH (nth (.int .i64) ws i))
def wX(p:D bS):aA:=Cz p++oR p.2.2.1 p.2.2.1.length
def jA(l:List (D bS))(i:Nat):List aA:=(l.take i).map wX
def lH(l:List (D bS)):aA:=kX (l.map wX) [59,32]
def tH{l:List (D bS)}{i:Nat}(h:i<l.length):jA l i++[Cz (nth bS l i)++oR (nth bS l i).2.2.1 (nth bS l i).2.2.1.length]=jA l (i+1):=by
 unfold jA;rw[fJ (t:=bS) h,dd];rfl
def HM{l:List (D bS)}{i:Nat}(h:i<=l.length):(jA l i).length=i:=by
 unfold jA;rw[bd,a8];omega
def uT(l:List (D bS)):jA l l.length=l.map wX:=by unfold jA;rw[cf]
def gD(l:List (D bS)):Prop:=l.length<=1000/\∀i,i<l.length->(nth bS l i).1.length<=1000/\(nth bS l i).2.2.1.length<=1000000
def loadT(z:List (D bS)×Bool×Int):aA:=match(aP z.2.2).isNil with
 |true=>(match z.2.1 with
  |true=>[107,101,112,116,32]
  |false=>[110,101,119,32])++lH z.1
 |false=>eB z.2.2
def xD(z:(Int×List (D aC))×Int)(s:aA):aA:=match(aP z.2).isNil with
 |false=>eB z.2
 |true=>match(cN z.1.2 s).2 with
  |false=>eB 5
  |true=>match(dM (cN z.1.2 s).1).2.isNil with
   |false=>eB (dM (cN z.1.2 s).1).2.num
   |true=>ej (dM (cN z.1.2 s).1).1 [10]
def kE(l:List aA):Prop:=l.length<=1000/\∀x∈l,x.length<=1000000
def kE.join{l:List aA}(h:kE l):l.length<=1000000/\(aw l [32]).length<=140737488355328:=by
 have hj:=HK (s:=[32]) h.2;refine⟨ae h.1 δ,ae hj ?_⟩;have:=br (1000000+([32]:aA).length) h.1;exact ae this δ
def FH(z:D aB×Int):aA:=match(aP z.2).isNil with
 |true=>gH z.1.2.1.length++[32,119,111,114,100,115]
 |false=>eB z.2
def nt(s t:aA)(f:cU)(o:List (D aC)):aA×Bool:=
 if s=[99,108,101,97,114]then([111,107],φ)
 else if s=[108,105,115,116]then(kX (nZ f) [32],φ)
 else if s=[114,111,111,116,115]then(kX (eJ o) [32],φ)
 else if s=[111,98,106,101,99,116]then(FH (bY t),φ)
 else([],ψ)
def la(s t:aA):aA:=if s=[99,108,101,97,114]then[]else t
def wY(a:aA):Bool:=(dG a).2.isNil&&(ρ (gH (dG a).1=a)&&(ρ (0<=(dG a).1)&&ρ ((dG a).1<=999)))
def kv:aA:=[114,101,115,116,97,114,116]
def iO(k a:aA):Bool:=wY a&&ρ (k=kv)
end Go.Mrl

namespace Go.Mrl
open Go.Vg
def Sync(x:Sh):Prop:=x.2.2.1=x.2.2.2.1
def X0{d:Dk}{r:Int}{l:List (D aC)}(h:(fP d r l).2=0):(fP d r l).1.2.1=(fP d r l).1.2.2.1:=by
 unfold fP at h ⊢;split at h
 ·rename_i c;exact absurd h c
 ·split at h
  ·rename_i c;exact absurd h c
  ·split at h
   ·rename_i c;exact absurd h c
   ·split at h
    ·rename_i c;exact absurd h c
    ·rename_i c1 c2 c3 c4
     rw[ε c1,ε c2,ε c3,ε c4];exact HH h
def HN{x:Sh}{l:List (D aC)}(h:(tD x l).2=0):Sync (tD x l).1:=X0 (d:=x.2) h
def ae9{x:Sh}{m:List (D aC)}{k:Nat}(h:eQ x m k)(hk:k<=1000)(hs:Sync x)(e:D aC):Sync (mG x e).1:=by
 have hb:=(Qa h hk e).1;have hl:=h.list;unfold mG at hb ⊢;unfold lT at hb;rw[hl]at hb ⊢;have:=ux e;by_cases hf:bF e=0
 ·rw[ε (not_not_intro hf)]at hb ⊢
  rw[ε ω]at hb;cases hp:tE m e with
  |none=>exact hs
  |some l=>rw[hp]at hb;exact HN hb
 ·rw[π hf];exact hs
def abg{x:Sh}{m:List (D aC)}{k:Nat}(h:eQ x m k)(hk:k<=1000)(hs:Sync x)(s:aA):Sync (fM x s).1:=by
 have hb:=(Cw h hk s).1;have hl:=h.list;rcases Di m s with⟨i,i1,i2,i3,i4⟩|⟨j1,j2⟩
 ·have e:=FF h.names i1 i3
  have el:(m.eraseIdx i).length=m.length-1:=by rw[eg,π i1]
  have ed:ij m s=(m.eraseIdx i,0):=by unfold ij;rw[ε (by rw[e,el];omega),e]
  rw[ed]at hb;unfold fM at hb ⊢;rw[π (by rw[hl,i4];omega)]at hb ⊢;exact HN hb
 ·unfold fM
  rw[ε (by rw[hl,j2];omega)];exact hs
def Qd{x:Sh}{m:List (D aC)}{k:Nat}(h:eQ x m k)(hs:Sync x)(c:Int):nC x.2 c=x.2:=by
 obtain⟨r,_,_,h3⟩:=h.at;rw[Nh h3.quiet];obtain⟨s,⟨f,dn,u⟩,kp,now,w,v⟩:=x;have a:f= -1:=h3.ic.oq;have b:dn=ψ:=h3.ic.down;have c:w=[]:=h3.quiet;have d:kp=now:=hs;subst a;subst b;subst c;subst d;rfl
structure Qe (f:cU) (x:Sh) (k:Nat):Prop where
 kept:kW f x.1.2.1
 iM:eQ x x.1.2.1 k
 sync:Sync x
def Qe.build{f:cU}{x:Sh}{k:Nat}(h:Qe f x k)(hk:k<=1000)(s:aA):Qe f (jc f x s).1 (k+1)/\(jc f x s).2=(o5 f x.1.2.1 s).2/\(jc f x s).1.1.2.1=(o5 f x.1.2.1 s).1:=by
 have hb:=HG h.kept.ic h.iM hk s;refine⟨⟨?_,hb.2.self,?_⟩,hb.1,hb.2.list⟩
 ·rw[hb.2.list];exact h.kept.build s
 ·unfold jc
  split
  ·exact ae9 h.iM hk h.sync _
  ·exact h.sync
def Qe.drop{f:cU}{x:Sh}{k:Nat}(h:Qe f x k)(hk:k<=1000)(s:aA):Qe f (fM x s).1 (k+1)/\(fM x s).2=(ij x.1.2.1 s).2/\(fM x s).1.1.2.1=(ij x.1.2.1 s).1:=by
 have hb:=Cw h.iM hk s;refine⟨⟨?_,hb.2.self,abg h.iM hk h.sync s⟩,hb.1,hb.2.list⟩;rw[hb.2.list];exact h.kept.drop s
def afa{rd:Rd}{s:aA}{n:Int}(h:rd s=(pY,n,0)):cR rd s=([(s,0,[3],())],0):=by
 refine aap (KP h Xp rfl) (bs:=[0]) (ps:=[(0,0,3,())]) (w:=[[3]]) rfl ?_ rfl rfl ?_ rfl
 ·rw[nX rfl (by
   intro i hi;obtain rfl:i=0:=by simp at hi;omega
   simp[nth])]
  have h1:fY [Ja] [0] 0 (0,1,3,[],ψ,())=(3,.nil):=(sP rfl).trans (sQ δ rfl δ);simp[mg,mu,kS,h1,aR.isNil]
 ·intro i hi
  obtain rfl:i=0:=by simp at hi;omega
  unfold wD;decide
end Go.Mrl

namespace Go.Mrl
open Go Go.Vg
def UZ:∀(l:aA),(∀c∈l,48<=c.toNat/\c.toNat<=57)->l≠[]->¬(l.head?=ξ 48/\1<l.length)->bx (jU l)=l:=by
 intro l;generalize hn:l.length=n;induction n generalizing l with
 |zero=>intro _ h0 _;exact absurd (List.eq_nil_of_length_eq_zero hn) h0
 |succ n ih=>
  intro hd h0 hz;obtain⟨r,c,rfl⟩:∃r c,l=r++[c]:=⟨_,_,(List.dropLast_concat_getLast h0).symm⟩
  have hc:=hd c ς;rw[wK];have hk:cg (48+(c.toNat-48))=c:=by
   rw[show 48+(c.toNat-48)=c.toNat by omega];exact UInt8.ofNat_toNat
  by_cases h1:r=[]
  ·subst h1
   rw[bx,dif_pos (show 10*jU []+(c.toNat-48)<10 by show 10*0+(c.toNat-48)<10;omega)];show[cg (48+(10*0+(c.toNat-48)))]=[c];rw[show 48+(10*0+(c.toNat-48))=48+(c.toNat-48) by omega,hk]
  ·have hp:=en.2 h1
   have hh:r.head?≠ξ 48:=fun e=>hz ⟨by rw[List.head?_append,e];rfl,by simp only[ab,ak]at hn ⊢;omega⟩
   have ihr:=ih r (by simp only[ab,ak]at hn;omega) (fun x hx=>hd x (by simp[hx])) h1 (fun e=>hh e.1);have hv:0<jU r:=by
    rcases Nat.eq_zero_or_pos (jU r)with h|h
    ·rw[h]at ihr
     exact absurd (by rw[<-ihr,bx];rfl) hh
    ·exact h
   rw[bx,dif_neg ω,show(10*jU r+(c.toNat-48)) / 10=jU r by omega,ihr,show(10*jU r+(c.toNat-48)) % 10=c.toNat-48 by omega,hk]
def ajm(s:aA):dH s=s\/s=45 :: dH s:=by
 unfold dH;split
 ·exact .inr rfl
 ·exact .inl rfl
def ahE{s:aA}{n:Int}(h:mK s=ξ n)(h0:0<=n):af n=s:=by
 unfold mK at h;split at h
 ·cases h
 ·rename_i hc
  split at h
  ·rename_i ha
   have hd:∀c∈dH s,48<=c.toNat/\c.toNat<=57:=fun c hm=>by
    have:=dm.1 ha c hm;exact of_decide_eq_true this
   have hne:dH s≠[]:=fun e=>hc (.inl (by rw[e];decide))
   rcases ajm s with e|e
   ·rw[e]at h hd hne
    rw[ε (cn _)]at h;have hv:=UZ s hd hne (fun z=>hc (.inr (.inr (by rw[e];exact z))));rw[<-ba h];unfold af;rw[ε ω,az,hv]
   ·exfalso
    have hl:s.length=(dH s).length+1:=by
     have:=congrArg c8 e;simpa using this
    have hp:=en.2 hne;have hh:(dH s).head?≠ξ 48:=fun z=>hc (.inr (.inr ⟨z,ω⟩))
    have hv:=UZ (dH s) hd hne (fun z=>hh z.1);rw[π ω]at h;have hn:=ba h;rw[show jU (dH s)=0 by omega]at hv;exact hh (by rw[<-hv,bx];rfl)
  ·cases h
def abh{s:aA}(h:mL s=φ):mK s=ξ (jV s):=by
 unfold jV;unfold mL at h;unfold qC at h ⊢;cases hn:mK s with
 |none=>rw[hn]at h;cases h
 |some n=>rfl
def afb(a:aA):wY a=(mL a&&(ρ (0<=jV a)&&ρ (jV a<=999))):=by
 unfold wY;rw[Bool.eq_iff_iff];simp only[ad,decide_eq_true_eq];constructor
 ·rintro⟨h1,h2,h3,h4⟩
  rw[Dl ω ω]at h2;have hb:=Ko (n:=(dG a).1) ω ω;rw[h2]at hb;have hk:qC a=((dG a).1,φ):=(Cd hb).symm;refine⟨?_,?_,?_⟩
  ·unfold mL;rw[hk]
  ·unfold jV;rw[hk];exact h3
  ·unfold jV;rw[hk];exact h4
 ·rintro⟨h1,h2,h3⟩
  have hb:=abh h1;have hi:=ahE hb h2;have ha:dG a=(jV a,.nil):=by
   unfold dG
   conv=>lhs;rw[<-hi,Kn ω ω]
  rw[ha];exact⟨rfl,by rw[Dl ω ω];exact hi,h2,h3⟩
def vX:aA:=[115,116,97,109,112]
def vY:aA:=[98,117,105,108,100]
def Dm:aA:=[100,114,111,112]
def sj:aA:=[108,111,97,100]
def ug:aA:=[101,110,116,114,121]
def Dn:aA:=[104,97,115,104]
def wZ:aA:=[108,105,110,101]
def su:aA:=[111,107]
def rC(z:aA×Int×Int):aA:=match(aP z.2.2).isNil with
 |true=>gH z.2.1
 |false=>eB z.2.2
def lh(k a t:aA)(f:cU)(x:Sh):(aA×Bool)×cU×Sh:=
 if k=vL then((lN (aP (cZ f a t).2),φ),(cZ f a t).1,x)
 else if k=uZ then((lN (aP (fA f a).2),φ),(fA f a).1,x)
 else if k=vX then((rC (aU f a),φ),f,x)
 else if k=vY then((lN (aP (jc f x a).2),φ),f,(jc f x a).1)
 else if k=Dm then((lN (aP (fM x a).2),φ),f,(fM x a).1)
 else if k=sj then((loadT (iy f x.1.2.1 a),φ),f,x)
 else if k=ug then((xD (cW x.2) a,φ),f,x)
 else if k=Dn then((gH (jt a:Int),φ),f,x)
 else if iO k a=φ then((su,φ),f,x)
 else(([],ψ),f,x)
def yn(z:aA×Int×Int):aA:=if z.2.2 > 0 then eB z.2.2 else gH z.2.1
def p9(z:List (D bS)×Bool×Int):aA:=if z.2.2 > 0 then eB z.2.2 else if z.2.1=φ then[107,101,112,116,32]++lH z.1 else[110,101,119,32]++lH z.1
def uU(z:D aC×Bool):aA:=if z.2=φ then(dQ z.1).take ((dQ z.1).length-1)else eB 5
def nG(k a t:aA)(m:RS)(o:List (D aC)):aA×RS×List (D aC):=
 if k=vL then(nQ (jk m a t).2,(jk m a t).1,o)
 else if k=uZ then(nQ (kz m a).2,(kz m a).1,o)
 else if k=vX then(yn (bM m.1 a),m,o)
 else if k=vY then(nQ (kr (bM m.1) o a).2,m,(kr (bM m.1) o a).1)
 else if k=Dm then(nQ (ij o a).2,m,(ij o a).1)
 else if k=sj then(p9 (mb (bM m.1) o a),m,o)
 else if k=ug then(uU (cN o a),m,o)
 else if k=Dn then(gH (jt a:Int),m,o)
 else if k=kv/\mL a=φ/\0<=jV a/\jV a<=999 then(su,m,o)
 else(eB 4,m,o)
structure mH (f:cU) (m:RS) (x:Sh) (k:Nat):Prop where
 side:iq f m x k
 sync:Sync x
def mH.next{f:cU}{m:RS}{x:Sh}{k:Nat}(h:mH f m x k):mH f m x (k+1):=⟨h.side.next,h.sync⟩
def mH.wld{f:cU}{m:RS}{x:Sh}{k:Nat}(h:mH f m x k):Qe f x k:=⟨h.side.kept,h.side.iM,h.sync⟩
def mH.build{f:cU}{m:RS}{x:Sh}{k:Nat}(h:mH f m x k)(hk:k<=1000)(s:aA):mH f m (jc f x s).1 (k+1):=⟨(h.side.build hk s).2.2,(h.wld.build hk s).1.sync⟩
def mH.drop{f:cU}{m:RS}{x:Sh}{k:Nat}(h:mH f m x k)(hk:k<=1000)(s:aA):mH f m (fM x s).1 (k+1):=⟨(h.side.drop hk s).2.2,(h.wld.drop hk s).1.sync⟩
def told(z:aA×Bool):aA:=if z.2=φ then z.1 else eB 4
def vZ(s:aA):told (s,φ)=s:=rfl
def abi{f:cU}{m:RS}{x:Sh}{k:Nat}(h:iq f m x k)(s:aA):loadT (iy f x.1.2.1 s)=p9 (mb (bM m.1) x.1.2.1 s):=by
 obtain⟨a,b,c⟩:=h.load s;have hn:0<=(mb (bM m.1) x.1.2.1 s).2.2:=D3 h.rok s;unfold loadT p9;by_cases h0:(mb (bM m.1) x.1.2.1 s).2.2=0
 ·rw[b,a,c,h0]
  rw[ε δ,decide_eq_true rfl,Bool.and_true];cases(mb (bM m.1) x.1.2.1 s).2.1 <;> rfl
 ·have hi:(aP (iy f x.1.2.1 s).2.2).isNil=ψ:=by
   cases e:(aP (iy f x.1.2.1 s).2.2).isNil with
   |true=>exact absurd (b▸aZ.1 e) h0
   |false=>rfl
  rw[hi,π ω,b]
def afc{f:cU}{m:RS}{x:Sh}{k:Nat}(h:iq f m x k)(s:aA):xD (cW x.2) s=uU (cN x.1.2.1 s):=by
 unfold xD uU;rw[h.iM.Jn,h.iM.agT];show(match(cN x.1.2.1 s).2 with|false=>eB 5|true=>_)=_;cases e:(cN x.1.2.1 s).2 with
 |false=>rfl
 |true=>
  obtain⟨r,h1,h2,h3⟩:=h.iM.at;have hf:=h3.p8 _ (wW e).1;have ht:dM (cN x.1.2.1 s).1=(dQ (cN x.1.2.1 s).1,.nil):=by unfold dM;rw[ε (not_not_intro hf)]
  rw[ht];show ej (dQ (cN x.1.2.1 s).1) [10]=(dQ (cN x.1.2.1 s).1).take ((dQ (cN x.1.2.1 s).1).length-1);unfold dQ;rw[sV,ab,ak,Nat.add_sub_cancel,eo];rfl
def X1{f:cU}{m:RS}{x:Sh}{k:Nat}(h:iq f m x k)(s:aA):rC (aU f s)=yn (bM m.1 s):=by
 rw[h.files.read];unfold rC yn;rcases zG m.1 s with e|e <;> rw[e]
 ·rfl
 ·rfl
def afd{f:cU}{m:RS}{x:Sh}{i:Nat}(h:mH f m x i)(hi:i<=1000)(k a t:aA) :
  told (lh k a t f x).1=(nG k a t m x.1.2.1).1/\(lh k a t f x).2.2.1.2.1=(nG k a t m x.1.2.1).2.2/\mH (lh k a t f x).2.1 (nG k a t m x.1.2.1).2.1 (lh k a t f x).2.2 (i+1):=by
 unfold lh nG;split
 ·refine⟨?_,rfl,h.side.write a t,h.sync⟩
  rw[vZ,(h.side.files.write a t).2];exact Al (by rw[<-(h.side.files.write a t).2];exact OV f a t)
 split
 ·refine⟨?_,rfl,h.side.remove a,h.sync⟩
  rw[vZ,(h.side.files.remove a).2];exact Al (by rw[<-(h.side.files.remove a).2];exact Nb f a)
 split
 ·exact⟨X1 h.side a,rfl,h.next⟩
 split
 ·obtain⟨b1,b2,b3⟩:=h.side.build hi a
  refine⟨?_,b2,h.build hi a⟩;rw[vZ,b1];exact Al (Ng _ _)
 split
 ·obtain⟨b1,b2,b3⟩:=h.side.drop hi a
  refine⟨?_,b2,h.drop hi a⟩;rw[vZ,b1];exact Al (Qb _ _)
 split
 ·exact⟨abi h.side a,rfl,h.next⟩
 split
 ·exact⟨afc h.side a,rfl,h.next⟩
 split
 ·exact⟨rfl,rfl,h.next⟩
 ·have hm:iO k a=φ↔(k=kv/\mL a=φ/\0<=jV a/\jV a<=999):=by
   unfold iO;rw[afb];simp only[ad,decide_eq_true_eq];constructor
   ·rintro⟨⟨h1,h2,h3⟩,h4⟩;exact⟨h4,h1,h2,h3⟩
   ·rintro⟨h4,h1,h2,h3⟩;exact⟨⟨h1,h2,h3⟩,h4⟩
  by_cases c:iO k a=φ
  ·rw[π c,π (hm.1 c)];exact⟨rfl,rfl,h.next⟩
  ·rw[ε c,ε fun z=>c (hm.2 z)];exact⟨rfl,rfl,h.next⟩
def FI{s:aA}(h:aN s=0):s.length<=8:=by
 unfold aN at h;split at h
 ·cases h
 ·rename_i c;omega
def S5{f:cU}(g:ji f)(s:aA):gD (cR (aU f) s).1:=by
 rcases uN g.ok s with⟨n,hn,e,el⟩|⟨ns,os,bs,ps,e,hr,el⟩
 ·rw[el];exact⟨ar _,fun i hi=>absurd hi (bu _)⟩
 ·rw[el]
  have hle:=hr.sc.le;have hlen:=hr.sc.len;refine⟨by show(eD ns bs (ia (cM os) ps) os.length).length<=1000;rw[oL];omega,fun i hi =>?_⟩;have hi:i<(eD ns bs (ia (cM os) ps) os.length).length:=hi;rw[oL]at hi;show(nth bS (eD ns bs (ia (cM os) ps) os.length) i).1.length<=1000/\(nth bS (eD ns bs (ia (cM os) ps) os.length) i).2.2.1.length<=1000000;rw[G3 hi];have hf:=(hr.sc.AO i ω).1;have hn:=FI (g.read (lE g.ok hf).1).1;have hl:=hr.ajc hi;have hw:=(hr.sc.obj g.ok hi).Z2;exact⟨ae hn δ,ae (Nat.le_of_eq hl) (ae hw δ)⟩
def iq.v7{f:cU}{m:RS}{x:Sh}{k:Nat}(h:iq f m x k)(s:aA):gD (iy f x.1.2.1 s).1:=by
 rw[(h.kept.load s).1];exact S5 h.kept.ic s
def iq.ajn{f:cU}{m:RS}{x:Sh}{k:Nat}(h:iq f m x k)(s:aA):gD (mb (bM m.1) x.1.2.1 s).1:=by
 rw[<-(h.load s).1];exact h.v7 s
def iq.yp{f:cU}{m:RS}{x:Sh}{k:Nat}(h:iq f m x k):kE (nZ f):=by
 have hl:(nZ f).length<=6:=by rw[h.files.list,bd];exact h.files.ai1
 refine⟨ae hl δ,fun y hy =>?_⟩;unfold nZ at hy;obtain⟨e,he,rfl⟩:=ay.1 ((r8 _).mem_iff.1 hy);exact ae (FI (h.kept.ic.UQ e he).1) δ
def iq.yq{f:cU}{m:RS}{x:Sh}{k:Nat}(h:iq f m x k):kE (eJ x.1.2.1):=by
 obtain⟨r,h1,h2,h3⟩:=h.iM.at;refine⟨by rw[show(eJ x.1.2.1).length=x.1.2.1.length from bd ..];exact ae h.iM.pW δ,fun y hy =>?_⟩;obtain⟨e,he,rfl⟩:=ay.1 hy;rw[h.iM.list]at he;exact ae (FI (XY (h3.p8 e he))) δ
def HO(z:D aB×Int):aA:=if z.2 > 0 then eB z.2 else gH z.1.2.1.length++[32,119,111,114,100,115]
def afe(t:aA):FH (bY t)=HO (bY t):=by
 unfold FH HO;rcases zV t with e|e|e
 ·rw[e.1];rfl
 ·rw[e];rfl
 ·rw[e];rfl
def uh(s t:aA)(m:RS)(o:List (D aC)):aA:=
 if s=[99,108,101,97,114]then su
 else if s=[108,105,115,116]then kX (m.1.map ko) [32]
 else if s=[114,111,111,116,115]then kX (eJ o) [32]
 else if s=[111,98,106,101,99,116]then HO (bY t)
 else eB 4
def jW(s t:aA)(f:cU)(x:Sh):aA×aA×cU×Sh:=
 if 60<s.length then(eB 4,t,f,x)
 else if 1<(parts 32 s).length/\nth .str (parts 32 s) 0=wZ then(su,t++(s.drop 5++[10]),f,x)
 else if(parts 32 s).length=1 then(told (nt s t f x.1.2.1),la s t,f,x)
 else if(parts 32 s).length=2 then(told (lh (nth .str (parts 32 s) 0) (nth .str (parts 32 s) 1) t f x).1,t,(lh (nth .str (parts 32 s) 0) (nth .str (parts 32 s) 1) t f x).2)
 else(eB 4,t,f,x)
def iC(s t:aA)(m:RS)(o:List (D aC)):aA×aA×RS×List (D aC):=
 if 60<s.length then(eB 4,t,m,o)
 else if 1<(parts 32 s).length/\nth .str (parts 32 s) 0=wZ then(su,t++(s.drop 5++[10]),m,o)
 else if(parts 32 s).length=1 then(uh s t m o,la s t,m,o)
 else if(parts 32 s).length=2 then((nG (nth .str (parts 32 s) 0) (nth .str (parts 32 s) 1) t m o).1,t,(nG (nth .str (parts 32 s) 0) (nth .str (parts 32 s) 1) t m o).2)
 else(eB 4,t,m,o)
def X2{f:cU}{m:RS}{x:Sh}{k:Nat}(h:iq f m x k)(s t:aA):told (nt s t f x.1.2.1)=uh s t m x.1.2.1:=by
 unfold nt uh;split
 ·rfl
 split
 ·rw[vZ,h.files.list]
 split
 ·rfl
 split
 ·exact afe t
 ·rfl
def aff{f:cU}{m:RS}{x:Sh}{i:Nat}(h:mH f m x i)(hi:i<=1000)(s t:aA) :
  (jW s t f x).1=(iC s t m x.1.2.1).1/\(jW s t f x).2.1=(iC s t m x.1.2.1).2.1/\(jW s t f x).2.2.2.1.2.1=(iC s t m x.1.2.1).2.2.2/\mH (jW s t f x).2.2.1 (iC s t m x.1.2.1).2.2.1 (jW s t f x).2.2.2 (i+1):=by
 unfold jW iC;split
 ·exact⟨rfl,rfl,rfl,h.next⟩
 split
 ·exact⟨rfl,rfl,rfl,h.next⟩
 split
 ·exact⟨X2 h.side s t,rfl,rfl,h.next⟩
 split
 ·obtain⟨a,b,c⟩:=afd h hi (nth .str (parts 32 s) 0) (nth .str (parts 32 s) 1) t
  exact⟨a,rfl,b,c⟩
 ·exact⟨rfl,rfl,rfl,h.next⟩
def afg(s t:aA)(f:cU)(x:Sh):(jW s t f x).2.1.length<=t.length+61:=by
 unfold jW;split
 ·exact df _ _
 split
 ·simp only[ab,cw,ak];omega
 split
 ·show(la s t).length<=_
  unfold la;split
  ·exact ar _
  ·exact df _ _
 split <;> exact df _ _
def dB(l:List aA):Nat->List aA×aA×RS×List (D aC)
 |0=>([],[],([],0,()),[])
 |i+1=>((dB l i).1++[(iC (nth .str l i) (dB l i).2.1 (dB l i).2.2.1 (dB l i).2.2.2).1],(iC (nth .str l i) (dB l i).2.1 (dB l i).2.2.1 (dB l i).2.2.2).2)
def FJ(l:List aA):∀i,(dB l i).1.length=i
 |0=>rfl
 |i+1=>by show((dB l i).1++_).length=_;rw[ab,FJ l i];rfl
structure jQ (l:List aA) (i:Nat) (t:aA) (f:cU) (x:Sh) (out:List aA):Prop where
 out:out=(dB l i).1
 text:t=(dB l i).2.1
 kept:x.1.2.1=(dB l i).2.2.2
 side:mH f (dB l i).2.2.1 x i
 small:t.length<=61*i
def jQ.len{l:List aA}{i:Nat}{t:aA}{f:cU}{x:Sh}{out:List aA}(h:jQ l i t f x out):out.length=i:=by rw[h.out,FJ]
def jQ.say{l:List aA}{i:Nat}{t:aA}{f:cU}{x:Sh}{out:List aA}(h:jQ l i t f x out)(hi:i<=1000) :
  jQ l (i+1) (jW (nth .str l i) t f x).2.1 (jW (nth .str l i) t f x).2.2.1 (jW (nth .str l i) t f x).2.2.2 (out++[(jW (nth .str l i) t f x).1]):=by
 obtain⟨a,b,c,d⟩:=aff h.side hi (nth .str l i) t;have hs:=afg (nth .str l i) t f x;have hm:=h.small;have e1:=h.text;have e2:=h.kept;have e3:=h.out;refine⟨?_,?_,?_,?_,ω⟩
 ·rw[a]
  show _=(dB l i).1++[(iC (nth .str l i) (dB l i).2.1 (dB l i).2.2.1 (dB l i).2.2.2).1];rw[<-e1,<-e2,<-e3]
 ·rw[b]
  show _=(iC (nth .str l i) (dB l i).2.1 (dB l i).2.2.1 (dB l i).2.2.2).2.1;rw[<-e1,<-e2]
 ·rw[c]
  show _=(iC (nth .str l i) (dB l i).2.1 (dB l i).2.2.1 (dB l i).2.2.2).2.2.2;rw[<-e1,<-e2]
 ·rw[e1,e2]at d
  rw[e1];exact d
def HP:Sh:=((2,[],()),(lM (I2 120)).1)
def qz:eQ HP [] 0:=ae5 (n:=120) δ
def S6{d:Dk}(g:qZ d):(lM d).1.2.1=(lM d).1.2.2.1:=by
 have e:lM d=iS d:=oQ _;have h0:(iS d).2=0:=by rw[<-e];exact(Cv g).1
 rw[e];unfold iS at h0 ⊢;split at h0
 ·cases h0
 ·split at h0
  ·rename_i c;exact absurd h0 c
  ·split at h0
   ·rename_i c;exact absurd h0 c
   ·split at h0
    ·rename_i c;exact absurd h0 c
    ·rename_i c1 c2 c3 c4
     rw[ε c1,ε c2,ε c3,ε c4];exact HH h0
def X3:Sync HP:=S6 (FD (n:=120) δ)
def jQ.new(l:List aA):jQ l 0 [] qo HP []:=
 ⟨rfl,rfl,qz.list,⟨⟨dZ.new,kW.new,qz⟩,X3⟩,ag _⟩
structure lI (t:aA) (f:cU) (x:Sh):Prop where
 text:t.length<=100000
 side:∃m k,k<=900/\mH f m x k
def jQ.akt{l:List aA}{i:Nat}{t:aA}{f:cU}{x:Sh}{out:List aA}(h:jQ l i t f x out)(hi:i<=100):lI t f x:=
 ⟨by have:=h.small;omega,_,_,ω,h.side⟩
def Sync.ahF{x:Sh}{m:List (D aC)}{k:Nat}(hs:Sync x)(h:eQ x m k)(c:Int):lU x.2 c=x.2:=by rw[Ej];exact Qd h hs c
def FK{s t:aA}{m:RS}{o:List (D aC)}(h:¬60<s.length)(h1:1<(parts 32 s).length/\nth .str (parts 32 s) 0=wZ):iC s t m o=(su,t++(s.drop 5++[10]),m,o):=by
 unfold iC;rw[ε h,π h1]
def Lj{s t:aA}{m:RS}{o:List (D aC)}(h:¬60<s.length)(h1:(parts 32 s).length=1):iC s t m o=(uh s t m o,la s t,m,o):=by
 unfold iC;rw[ε h,ε fun z=>by omega,π h1]
def ahG{s t k a:aA}{m:RS}{o:List (D aC)}(h:¬60<s.length)(h1:parts 32 s=[k,a])(h2:¬k=wZ):iC s t m o=((nG k a t m o).1,t,(nG k a t m o).2):=by
 unfold iC;rw[h1,ε h,ε fun z=>h2 z.2,ε ς];rfl
def hi0:aA:=[108,105,110,101,32,119,111,114,100,32,53]
def hi1:aA:=[108,105,110,101,32,98,97,115,101,32,48,32,51]
def PE:aA:=[111,98,106,101,99,116]
def hi3:aA:=[119,114,105,116,101,32,97]
def hi4:aA:=[108,111,97,100,32,97]
def hi5:aA:=[98,117,105,108,100,32,97]
def hi7:aA:=[101,110,116,114,121,32,97]
def hi8:aA:=[102,108,121,32,104,105,103,104]
def uC:List aA:=[hi0,hi1,PE,hi3,hi4,hi5,hi4,hi7,hi8]
def aku:aA:=[119,111,114,100,32,53,10]
def sw:RS:=([([97],pY,1,())],1,())
def tT:D aC:=([97],[([97],1,0,())],[(0,0,3,())],())
def X4{rd:Rd}{s:aA}{n:Int}(h:rd s=(pY,n,0)):bC rd s=([s],[Ja],[0],[(0,0,3,())],0):=by
 have ha:eX ([Ja],[0])=([(0,0,3,())],.nil):=by
  rw[nX rfl (by
   intro i hi;obtain rfl:i=0:=by simp at hi;omega
   simp[nth])]
  have h1:fY [Ja] [0] 0 (0,1,3,[],ψ,())=(3,.nil):=(sP rfl).trans (sQ δ rfl δ);simp[mg,mu,kS,h1,aR.isNil]
 have hb:cF (bX [Ja],[])=([0],.nil):=rfl;unfold bC;rw[KP h Xp rfl];simp only[hb,ha,aR.isNil];rfl
def afh{rd:Rd}(h:rd [97]=(pY,1,0)):dA rd [97]=(tT,0):=by
 have e:=X4 h;rw[u6 (by rw[e]),e];show(([97],[([97],(rd [97]).2.1,0,())],[(0,0,3,())],()),(0:Int))=_;rw[h];rfl
def agV:bM sw.1 [97]=(pY,1,0):=by decide
def ajp(n:Int):aA:=[cg (48+n).toNat]
def An{n:Int}(h:0<=n)(h1:n<10):gH n=ajp n:=by rw[Dl ω ω,oJ h h1];rfl
def ahH:dQ tT=[97,32,49,32,49,32,97,32,49,32,48,32,48,32,48,32,51,10]:=by
 have i1:af 1=[49]:=by rw[oJ δ δ];rfl
 have i0:af 0=[48]:=by rw[oJ δ δ];rfl
 have i3:af 3=[51]:=by rw[oJ δ δ];rfl
 unfold dQ tC gT iw wR tT;simp only[ak,ei,List.take_zero,dy,List.flatMap_nil,oe,og,show((1:Nat):Int)=1 from rfl,i1,i0,i3];rfl
def afi:lH [([97],0,[3],())]=[97,32,48,58,32,51]:=by
 unfold lH kX wX Cz;simp only[bf,List.map_nil,ak];rw[ε ς,Lib.join_one,An δ δ];show _++([]++([32]++gH 3))=_;rw[An δ δ];rfl
def pB:List aA:=[su,su,[49,32,119,111,114,100,115],su,[110,101,119,32,97,32,48,58,32,51],su,[107,101,112,116,32,97,32,48,58,32,51],[97,32,49,32,49,32,97,32,49,32,48,32,48,32,48,32,51],[101,114,114,111,114,32,52]]
def nu{l out out':List aA}{i:Nat}{t:aA}{m:RS}{o:List (D aC)}{z:aA}{q:aA×RS×List (D aC)}{s:aA}(h:dB l i=(out,t,m,o))(hs:nth .str l i=s)(hz:iC s t m o=(z,q))(ho:out++[z]=out'):dB l (i+1)=(out',q):=by
 show((dB l i).1++[(iC (nth .str l i) (dB l i).2.1 (dB l i).2.2.1 (dB l i).2.2.2).1],(iC (nth .str l i) (dB l i).2.1 (dB l i).2.2.1 (dB l i).2.2.2).2)=_;rw[h,hs,hz,<-ho]
def Dp{k a t:aA}{m:RS}{o:List (D aC)}(h:¬k=vL)(h1:¬k=uZ)(h2:¬k=vX):nG k a t m o=if k=vY then(nQ (kr (bM m.1) o a).2,m,(kr (bM m.1) o a).1)
 else if k=Dm then(nQ (ij o a).2,m,(ij o a).1)
 else if k=sj then(p9 (mb (bM m.1) o a),m,o)
 else if k=ug then(uU (cN o a),m,o)
 else if k=Dn then(gH (jt a:Int),m,o)
 else if k=kv/\mL a=φ/\0<=jV a/\jV a<=999 then(su,m,o)
 else(eB 4,m,o):=by unfold nG;rw[ε h,ε h1,ε h2]
def yr{s t k a:aA}{m:RS}{o:List (D aC)}{z:aA}{q:RS×List (D aC)}(h:¬60<s.length)(h1:parts 32 s=[k,a])(h2:¬k=wZ)(h3:nG k a t m o=(z,q)):iC s t m o=(z,t,q):=by
 rw[ahG h h1 h2,h3]
def U0{o:List (D aC)}{b:Bool}(h:((cN o [97]).2&&eN (bM sw.1) (cN o [97]).1)=b):nG sj [97] pY sw o=((bif b then[107,101,112,116,32]else[110,101,119,32])++[97,32,48,58,32,51],sw,o):=by
 have hl:cR (bM sw.1) [97]=([([97],0,[3],())],0):=afa agV;rw[Dp δ δ δ,ε δ,ε δ,π δ];unfold mb;rw[hl,h];show(p9 ([([97],0,[3],())],b,0),sw,o)=_;unfold p9;rw[afi];cases b <;> rfl
def ajq:(dB uC 9).1=pB:=by
 have e0:dB uC 0=(pB.take 0,[],([],0,()),[]):=rfl;have e1:dB uC 1=(pB.take 1,aku,([],0,()),[]):=nu e0 (s:=hi0) rfl (FK δ δ) rfl;have e2:dB uC 2=(pB.take 2,pY,([],0,()),[]):=nu e1 (s:=hi1) rfl (FK δ δ) rfl;have e3:dB uC 3=(pB.take 3,pY,([],0,()),[]):=nu (z:=[49,32,119,111,114,100,115]) e2 (s:=PE) rfl ((Lj δ δ).trans (by
  unfold uh;rw[ε δ,ε δ,ε δ,π δ,Xp];show(gH 1++_,la PE pY,_,_)=_;rw[An δ δ];rfl)) rfl
 have e4:dB uC 4=(pB.take 4,pY,sw,[]):=nu (z:=su) e3 (s:=hi3) rfl (yr (k:=vL) (a:=[97]) (q:=(sw,[])) δ δ δ (by
  have hw:jk ([],0,()) [97] pY=(sw,0):=rfl;unfold nG;rw[π δ,hw];rfl)) rfl
 have e5:dB uC 5=(pB.take 5,pY,sw,[]):=nu e4 (s:=hi4) rfl (yr (k:=sj) (a:=[97]) δ δ δ (U0 (b:=ψ) rfl)) rfl;have hp:lT [] tT=([tT],0):=by
  rw[FB δ (fun j hj=>absurd hj (bu _)) δ];rfl
 have hb:kr (bM sw.1) [] [97]=([tT],0):=by
  have hm:=afh agV;rw[HF (by rw[hm];decide),hm,hp]
 have e6:dB uC 6=(pB.take 6,pY,sw,[tT]):=nu (z:=su) e5 (s:=hi5) rfl (yr (k:=vY) (a:=[97]) (q:=(sw,[tT])) δ δ δ (by
  rw[Dp δ δ δ,π δ,hb];rfl)) rfl
 have hg:cN [tT] [97]=(tT,φ):=rfl;have hf:eN (bM sw.1) tT=φ:=by decide
 have e7:dB uC 7=(pB.take 7,pY,sw,[tT]):=nu e6 (s:=hi4) rfl (yr (k:=sj) (a:=[97]) δ δ δ (U0 (b:=φ) (by rw[hg,hf];rfl))) rfl;have e8:dB uC 8=(pB.take 8,pY,sw,[tT]):=nu (z:=nth .str pB 7) e7 (s:=hi7) rfl (yr (k:=ug) (a:=[97]) (q:=(sw,[tT])) δ δ δ (by
  rw[Dp δ δ δ,ε δ,ε δ,ε δ,π δ,hg];unfold uU;rw[ahH];rfl)) rfl
 have e9:dB uC 9=(pB.take 8++[eB 4],pY,sw,[tT]):=nu e8 (s:=hi8) rfl (yr (k:=[102,108,121]) (a:=[104,105,103,104]) δ δ δ (by
  rw[Dp δ δ δ,ε δ,ε δ,ε δ,ε δ,ε δ,ε (fun z=>absurd z.1 δ)])) rfl
 rw[e9];show pB.take 8++[eB 4]=_;unfold eB;rw[An δ δ];rfl
def Lk{c:UInt8}:∀(s:aA) {a y:aA} {r:List aA},parts c s=a :: y :: r->∃t,s=a++c :: t
 |[],_,_,_,h=>by simp[parts]at h
 |b :: s,a,y,r,h=>by
  by_cases hb:b=c
  ·subst hb;rw[oY]at h
   injection h with h1 h2
   subst h1;exact⟨s,rfl⟩
  ·obtain⟨x,t,h1,h2⟩:=mP (c:=c) (b:=b) (r:=s) hb
   rw[h2]at h;cases h;obtain⟨u,hu⟩:=Lk s h1;exact⟨u,by rw[hu];rfl⟩
def HQ{s:aA}(h:1<(parts 32 s).length):∃t,s=nth .str (parts 32 s) 0++32 :: t:=by
 cases hp:parts 32 s with
 |nil=>exact absurd hp (ri _ _)
 |cons a l=>
  cases l with
  |nil=>rw[hp]at h;exact absurd h (cn 1)
  |cons y r=>exact Lk s hp
def Ll{s:aA}(h:1<(parts 32 s).length)(h0:nth .str (parts 32 s) 0=wZ):5<=s.length:=by
 obtain⟨t,e⟩:=HQ h;rw[h0]at e;rw[e];simp[wZ]
def sk(s:aA):Prop:=3<s.length/\s.take 4=[97,114,109,32]
def CA:aA:=[97,114,109]
def ajr{s:aA}(ha:¬sk s)(h:1<(parts 32 s).length):¬nth .str (parts 32 s) 0=CA:=fun h0=>by
 obtain⟨t,e⟩:=HQ h;rw[h0]at e;exact ha (by rw[e];exact⟨by simp[CA],rfl⟩)
section
variable{t:aA}{f:cU}{x:Sh}(h:lI t f x)
include h
def lI.files:ji f/\f.2.1.1.length<=6/\0<=f.1.1/\f.1.1<=1000000:=let⟨_,_,_,s⟩:=h.side;⟨s.side.kept.ic,s.side.files.pre⟩
def lI.aeh:f.2.1.1.length<=6/\(f.2.1.1.map dE).Nodup:=let⟨_,_,_,s⟩:=h.side;s.side.files.aeh
def lI.XX:Cy x:=let⟨_,_,hk,s⟩:=h.side;s.side.XX ω
def lI.ae8:vW x.1.2.1:=let⟨_,_,_,s⟩:=h.side;s.side.iM.ae8
def lI.akv:x.1.2.1.length<=1000000:=let⟨_,_,_,s⟩:=h.side;s.side.iM.len
def lI.v7(s:aA):gD (iy f x.1.2.1 s).1:=let⟨_,_,_,z⟩:=h.side;z.side.v7 s
def lI.yp:kE (nZ f):=let⟨_,_,_,s⟩:=h.side;s.side.yp
def lI.yq:kE (eJ x.1.2.1):=let⟨_,_,_,s⟩:=h.side;s.side.yq
def lI.p8:dX x.2 1000000/\∀i,i<x.2.2.2.1.length->(nth .str x.2.2.2.1 i).length=64:=let⟨_,_,_,s⟩:=h.side;⟨s.side.iM.Dj,s.side.iM.sec⟩
def lI.XS:∀i,i<(cW x.2).1.2.length->(nth aC (cW x.2).1.2 i).2.1.length<=1000000/\(nth aC (cW x.2).1.2 i).2.2.1.length<=1000000:=let⟨_,_,_,s⟩:=h.side;s.side.iM.XS
def lI.akw:aks x.2:=by
 obtain⟨m,k,hk,s⟩:=h.side;obtain⟨r,h1,h2,h3⟩:=s.side.iM.at;exact⟨h3.ic.XQ,fun i hi=>by rw[h3.quiet]at hi;exact absurd hi (bu _)⟩
def lI.same(c:Int):lU x.2 c=x.2:=let⟨_,_,_,s⟩:=h.side;s.sync.ahF s.side.iM c
def lI.aj1(c:Int):dX (lU x.2 c) 1000000/\∀i,i<(lU x.2 c).2.2.1.length->(nth .str (lU x.2 c).2.2.1 i).length=64:=by rw[h.same c];exact h.p8
def lI.aj2(c:Int):(cW (lU x.2 c)).2=0:=by
 rw[h.same c];obtain⟨_,_,_,s⟩:=h.side;exact s.side.iM.Jn
def lI.again(c:Int){α:Type}(F:Dk->Int×List (D aC)×Unit->α):F (lU x.2 c) ((cW (lU x.2 c)).1.1,(cW (lU x.2 c)).1.2,())=F x.2 x.1:=by
 rw[h.same c];obtain⟨_,_,_,s⟩:=h.side;exact congrArg (F x.2) s.side.iM.again
end
def uy(t:aA)(m:RS)(o:List (D aC)):Prop:=t.length<=100000/\∃f x k,k<=900/\mH f m x k/\x.1.2.1=o
section
variable{t:aA}{m:RS}{o:List (D aC)}(h:uy t m o)
include h
def uy.OW:m.1.length<=6/\0<=m.2.1/\m.2.1<=1000000:=let⟨_,_,_,_,_,s,_⟩:=h;s.side.files.OW
def uy.I8:o.length<=1000000:=let⟨_,_,_,_,_,s,e⟩:=h;e▸s.side.iM.len
def uy.v7(s:aA):gD (mb (bM m.1) o s).1:=let⟨_,_,_,_,_,z,e⟩:=h;e▸z.side.ajn s
def uy.yp:kE (m.1.map ko):=let⟨_,_,_,_,_,z,_⟩:=h;z.side.files.list▸z.side.yp
def uy.yq:kE (eJ o):=let⟨_,_,_,_,_,z,e⟩:=h;e▸z.side.yq
def uy.fault{s:aA}(hs:(cN o s).2=φ):bF (cN o s).1=0:=by
 obtain⟨_,f,x,k,_,z,rfl⟩:=h;obtain⟨r,h1,h2,h3⟩:=z.side.iM.at;exact h3.p8 _ (wW hs).1
end
def jQ.iC{l:List aA}{i:Nat}{t:aA}{f:cU}{x:Sh}{out:List aA}(h:jQ l i t f x out)(hi:i<=100):uy (dB l i).2.1 (dB l i).2.2.1 (dB l i).2.2.2:=
 ⟨by rw[<-h.text];have:=h.small;omega,f,x,i,ω,h.side,h.kept⟩
def Lm(l:List aA):∀i,i<=100->∃t f x out,jQ l i t f x out
 |0,_=>⟨_,_,_,_,jQ.new l⟩
 |i+1,h=>let⟨_,_,_,_,s⟩:=Lm l i ω;⟨_,_,_,_,s.say ω⟩
def abj(l:List aA){i:Nat}(hi:i<=100):uy (dB l i).2.1 (dB l i).2.2.1 (dB l i).2.2.2:=let⟨_,_,_,_,s⟩:=Lm l i hi;s.iC hi
def Ao(l:List aA):List aA×aR:=if 60<l.length then([],.no 2)else((dB l l.length).1,.nil)
def nv(l:List aA):List aA×aR:=c6 (⟨Ao l,rfl⟩:∃y,y=Ao l)
def Qf(l:List aA):nv l=Ao l:=c7 (⟨Ao l,rfl⟩:∃y,y=Ao l)
def Ap{l:List aA}(h:60<l.length):nv l=([],.no 2):=by rw[Qf];unfold Ao;rw[π h]
def uV{l:List aA}(h:¬60<l.length):nv l=((dB l l.length).1,.nil):=by rw[Qf];unfold Ao;rw[ε h]
def Qg:nv uC=(pB,.nil):=by rw[uV δ];exact congrArg (fun z=>(z,aR.nil)) ajq
instance(s:aA):Decidable (sk s):=inferInstanceAs (Decidable (_/\_))
def ajs:uC.length<=70/\∀i,i<uC.length->(nth .str uC i).length<=100/\¬sk (nth .str uC i):=by decide
def yt(l x:List aA):av 0 (aj l.length (l++x))=l:=by rw[List.drop_zero,eo];rfl
def qD(s:aA):Bool:=ρ (s.length<=60)&&(ρ ((parts 32 s).length=2)&&iO (nth .str (parts 32 s) 0) (nth .str (parts 32 s) 1))
def HR{k a:aA}(h:iO k a=φ):k=kv:=by
 unfold iO at h;rw[ad]at h;exact of_decide_eq_true h.2
def nH{k a:aA}(h:¬k=kv):iO k a=ψ:=by
 cases e:iO k a with
 |false=>rfl
 |true=>exact absurd (HR e) h
def Qh{s:aA}(h:qD s=φ):s.length<=60/\(parts 32 s).length=2/\iO (nth .str (parts 32 s) 0) (nth .str (parts 32 s) 1)=φ:=by
 unfold qD at h;simp only[ad,decide_eq_true_eq]at h;exact h
def s6{s:aA}(h:¬s.length<=60\/¬(parts 32 s).length=2\/iO (nth .str (parts 32 s) 0) (nth .str (parts 32 s) 1)=ψ):qD s=ψ:=by
 cases e:qD s with
 |false=>rfl
 |true=>
  obtain⟨a,b,c⟩:=Qh e;rcases h with h|h|h
  ·exact absurd a h
  ·exact absurd b h
  ·rw[h]at c;cases c
def ahI{s:aA}(h:s.length<=60)(h1:(parts 32 s).length=2)(h2:iO (nth .str (parts 32 s) 0) (nth .str (parts 32 s) 1)=φ):qD s=φ:=by
 unfold qD;rw[decide_eq_true h,decide_eq_true h1,h2];rfl
section
variable{a t:aA}{f:cU}{x:Sh}
def abk:lh [119,114,105,116,101] a t f x=((lN (aP (cZ f a t).2),φ),(cZ f a t).1,x):=π rfl
def X5:lh [114,101,109,111,118,101] a t f x=((lN (aP (fA f a).2),φ),(fA f a).1,x):=rfl
def Ln:lh [115,116,97,109,112] a t f x=((rC (aU f a),φ),f,x):=rfl
def abl:lh [98,117,105,108,100] a t f x=((lN (aP (jc f x a).2),φ),f,(jc f x a).1):=rfl
def afj:lh [100,114,111,112] a t f x=((lN (aP (fM x a).2),φ),f,(fM x a).1):=rfl
def afk:lh [108,111,97,100] a t f x=((loadT (iy f x.1.2.1 a),φ),f,x):=rfl
def abm:lh [101,110,116,114,121] a t f x=((xD (cW x.2) a,φ),f,x):=rfl
def afl:lh [104,97,115,104] a t f x=((gH (jt a:Int),φ),f,x):=rfl
def afm{k:aA}(h1:¬k=vL)(h2:¬k=uZ)(h3:¬k=vX)(h4:¬k=vY)(h5:¬k=Dm)(h6:¬k=sj)(h7:¬k=ug)(h8:¬k=Dn)(h9:iO k a=ψ):lh k a t f x=(([],ψ),f,x):=by
 unfold lh;rw[ε h1,ε h2,ε h3,ε h4,ε h5,ε h6,ε h7,ε h8,ε (by rw[h9];decide)]
end
def X6{z:aA×Int×Int}(h:(aP z.2.2).isNil=ψ):rC z=eB (aP z.2.2).num:=by unfold rC;rw[h,ym]
def abn{z:aA×Int×Int}(h:(aP z.2.2).isNil=φ):rC z=gH z.2.1:=by unfold rC;rw[h]
abbrev pC (s:aA):Prop:=1<(parts 32 s).length/\nth .str (parts 32 s) 0=wZ
def ahJ(s:aA)(i:Nat):(nth .str (parts 32 s) i).length<=s.length:=by
 by_cases h:i<(parts 32 s).length
 ·exact oI 32 s _ (eG (t:=.str) h)
 ·unfold nth;rw[List.getD_eq_getElem?_getD,List.getElem?_eq_none ω];exact ar _
section
variable{s t:aA}{m:RS}{o:List (D aC)}
def abo(h:60<s.length):iC s t m o=(eB 4,t,m,o):=by unfold iC;rw[π h]
def abp(h:¬60<s.length)(h1:pC s):iC s t m o=(su,t++(s.drop 5++[10]),m,o):=FK h h1
def Aq(h:¬60<s.length)(h1:(parts 32 s).length=1):iC s t m o=(uh s t m o,la s t,m,o):=Lj h h1
def Qi(h:¬60<s.length)(h1:¬pC s)(h2:(parts 32 s).length=2):iC s t m o=((nG (nth .str (parts 32 s) 0) (nth .str (parts 32 s) 1) t m o).1,t,(nG (nth .str (parts 32 s) 0) (nth .str (parts 32 s) 1) t m o).2):=by
 unfold iC;rw[ε h,ε h1,ε ω,π h2]
def abq(h:¬60<s.length)(h1:¬pC s)(h2:2<(parts 32 s).length):iC s t m o=(eB 4,t,m,o):=by
 unfold iC;rw[ε h,ε h1,ε ω,ε ω]
variable{f:cU}{x:Sh}
def abr(h:60<s.length):jW s t f x=(eB 4,t,f,x):=by unfold jW;rw[π h]
def abt(h:¬60<s.length)(h1:pC s):jW s t f x=(su,t++(s.drop 5++[10]),f,x):=by unfold jW;rw[ε h,π h1]
def Qj(h:¬60<s.length)(h1:(parts 32 s).length=1):jW s t f x=(told (nt s t f x.1.2.1),la s t,f,x):=by
 unfold jW;rw[ε h,ε fun z=>by omega,π h1]
def FL(h:¬60<s.length)(h1:¬pC s)(h2:(parts 32 s).length=2):jW s t f x=(told (lh (nth .str (parts 32 s) 0) (nth .str (parts 32 s) 1) t f x).1,t,(lh (nth .str (parts 32 s) 0) (nth .str (parts 32 s) 1) t f x).2):=by
 unfold jW;rw[ε h,ε h1,ε ω,π h2]
def abu(h:¬60<s.length)(h1:¬pC s)(h2:¬(parts 32 s).length=1)(h3:¬(parts 32 s).length=2):jW s t f x=(eB 4,t,f,x):=by
 unfold jW;rw[ε h,ε h1,ε h2,ε h3]
end
def Qk{s:aA}(h:((parts 32 s).length:Int) > 1):(nth .str (parts 32 s) 0 == [108,105,110,101])=φ↔pC s:=
 ⟨fun e=>⟨ω,eq_of_beq e⟩,fun z=>by rw[z.2];decide⟩
def Ql{s:aA}(h:¬((parts 32 s).length:Int) > 1):ψ=φ↔pC s:=⟨fun e=>Bool.noConfusion e,fun z=>absurd z.1 ω⟩
section
variable{s t a k:aA}{m:RS}{o:List (D aC)}
def jd(h:¬60<s.length)(h1:¬pC s)(h2:(parts 32 s).length=2)(hk:nth .str (parts 32 s) 0=k):iC s t m o=((nG k (nth .str (parts 32 s) 1) t m o).1,t,(nG k (nth .str (parts 32 s) 1) t m o).2):=by rw[<-hk];exact Qi h h1 h2
def abv(h1:¬s=[99,108,101,97,114])(h2:¬s=[108,105,115,116])(h3:¬s=[114,111,111,116,115])(h4:¬s=[111,98,106,101,99,116]):uh s t m o=eB 4:=by
 unfold uh;rw[ε h1,ε h2,ε h3,ε h4]
def abw(h:¬s=[99,108,101,97,114]):la s t=t:=ε h
def X7{z:List (D bS)×Bool×Int}(h:z.2.2 > 0):eB z.2.2=p9 z:=(π h).symm
def S7{z:List (D bS)×Bool×Int}(h:z.2.2<=0)(hk:z.2.1=φ):[107,101,112,116,32]++lH z.1=p9 z:=by unfold p9;rw[ε ω,π hk]
def X8{z:List (D bS)×Bool×Int}(h:z.2.2<=0)(hk:z.2.1=ψ):[110,101,119,32]++lH z.1=p9 z:=by unfold p9;rw[ε ω,ε (by rw[hk];decide)]
def abx(e:D aC):0<(dQ e).length:=by unfold dQ;simp
def afn{z:D aC×Bool}(h:z.2=ψ):eB 5=uU z:=by unfold uU;rw[ε (by rw[h];decide)]
def aby{z:D aC×Bool}(h:z.2=φ):(dQ z.1).take (b5 (((dQ z.1).length:Int)-1))=uU z:=by
 unfold uU;rw[π h];congr 1;omega
def ahK(h1:¬k=vL)(h2:¬k=uZ)(h3:¬k=vX)(h4:¬k=vY)(h5:¬k=Dm)(h6:¬k=sj)(h7:¬k=ug)(h8:¬k=Dn)(h9:¬k=kv):nG k a t m o=(eB 4,m,o):=by
 unfold nG;rw[ε h1,ε h2,ε h3,ε h4,ε h5,ε h6,ε h7,ε h8,ε fun z=>h9 z.1]
def Qm(h:¬(mL a=φ/\0<=jV a/\jV a<=999)):nG kv a t m o=(eB 4,m,o):=by
 rw[Dp δ δ δ,ε δ,ε δ,ε δ,ε δ,ε δ,ε fun z=>h z.2]
def ahL(h:mL a=φ)(h1:0<=jV a)(h2:jV a<=999):nG kv a t m o=(su,m,o):=by
 rw[Dp δ δ δ,ε δ,ε δ,ε δ,ε δ,ε δ,π ⟨rfl,h,h1,h2⟩]
end
def ahM{a b:Bool}(h:a=φ/\b=φ):(a&&b)=φ:=by rw[h.1,h.2];rfl
def ajt{a b:Bool}(h:a=ψ\/b=ψ):(a&&b)=ψ:=by rcases h with h|h <;> rw[h] <;> simp
def agW{z:aA×Bool}(h:z.2=ψ):told z=eB 4:=by unfold told;rw[h];rfl
def agX{z:aA×Bool}(h:z.2=φ):told z=z.1:=by unfold told;rw[h];rfl
def ahN{s t:aA}{f:cU}{x:Sh}(h:qD s=φ):jW s t f x=(su,t,f,x):=by
 obtain⟨a,b,c⟩:=Qh h;have hk:=HR c;rw[hk]at c;have hn:¬pC s:=fun z=>by rw[z.2]at hk;exact absurd hk δ
 rw[FL ω hn b,hk];unfold lh;rw[ε δ,ε δ,ε δ,ε δ,ε δ,ε δ,ε δ,ε δ,π c];rfl
def jQ.rst{l:List aA}{i:Nat}{t:aA}{f:cU}{x:Sh}{out:List aA}(h:jQ l i t f x out)(hi:i<=1000)(hr:qD (nth .str l i)=φ):jQ l (i+1) t f x (out++[su]):=by
 have:=h.say hi
 rwa [ahN hr]at this
end Go.Mrl

namespace Go.Vg
open Go
def S8{H:Type}{enc:TypeId×Value->H}{a:Assume}{C:Checked}{os:Os}{f:FuncId}{fn:Func}{s:ChangeSpec}{conds:List PathCond}{apart fresh handsOn again:Bool}{X:World->Array Value->Prop}
  (hX:∀(w w':World) (args:Array Value),w.heap=w'.heap->X w args->X w' args)
  (own:ownKnob C.prog.godebug=χ)(started:os.Started)(noInit:C.prog.inits.idxOf? f=χ)(hfn:C.prog.funcs[f]?=ξ fn)
  (witness:∃(w:World) (tape:Tape) (i:Input),w.os=os/\(w.forCall tape i).Shaped C.prog/\i.vars=[]/\Input.okWide C.prog (w.forCall tape i) .any w.heap.size f i/\
   ((s.pre enc C.prog fn conds apart (w.forCall tape i).memory i.args/\X (w.forCall tape i).memory i.args)/\sizedMet enc C.prog fn (ep s) apart (w.forCall tape i).memory i.args)/\a.holds C.prog (lone (Frame.enter C.prog f i.args .normal) [] (w.forCall tape i)))
  (contract:∀(W:World) (base:Nat) (args:Array Value) (ds gs:List (DataW H)) (before:List MemPlace),
   (∀(j:Nat) t v,fn.params[j]?=ξ t->args[j]?=ξ v->Value.okWide C.prog W .any base t v)->
   DataW.Whole enc C.prog fn.params.toList s.vars apart W args.toList ds gs before->
   X W args->W.ShapedOpen C.prog->
   Calls C.prog f args W fun e W'=>∃v,e=.returned v/\s.post enc C.prog fn apart fresh handsOn again W args v W') :
  ReturnsInHanded a C os f .any (fun w args=>(s.pre enc C.prog fn conds apart w args/\X w args)/\sizedMet enc C.prog fn (ep s) apart w args) (s.post enc C.prog fn apart fresh handsOn again):=by
 refine returnsInHanded_of_calls own started noInit witness ?_;intro w tape i _ hsh _ hok hpre hholds;obtain⟨_,_,_,fn',hfn',_,_,_,_,hval⟩:=hok;have e:fn'=fn:=ba (hfn'.symm.trans hfn);subst e;obtain⟨⟨⟨ds,gs,before,hw,hc⟩,hx⟩,hz⟩:=hpre;have hw':=DataW.Whole.of_heap (w':=w.forCall tape i) (by rfl) hw;refine(contract (w.forCall tape i) w.heap.size i.args ds gs before hval hw' (hX _ _ _ (by rfl) hx) hsh).mono fun e W' ⟨v,he,hp⟩ =>?_
 subst he;exact ChangeSpec.post_blind hp
def Qn{P:Program}{w:World}{g:Nat}{t:TypeId}{zero:Array Value}(h:w.ShapedOpen P)(hg:g<P.globals.size)
  (h0:((begin P (fun _ _=>0) default).world.heap[g]?).bind Obj.row?=ξ (zero,t))(hz:zero.size=1)
  (hb:P.buildable t=φ)(hc:P.cellTypes P.depth t=ξ [t])(hu:P.underlying t=ξ (.int .i64)):∃m,w.cell? ⟨g,0,χ⟩=ξ (.int .i64 m):=by
 obtain⟨cs,hh,hs,hr⟩:=h.1 g zero t hg h0;obtain⟨ts,hts,_,hall⟩:=hr hb;rw[hc]at hts;cases hts;have h1:0<cs.size:=by omega
 obtain⟨u,hu',hok⟩:=hall 0 cs[0] (by simp[h1]);have:u=t:=by simpa using hu'.symm
 subst this;have hcell:w.cell? ⟨g,0,χ⟩=ξ cs[0]:=by simp[World.cell?,hh,h1]
 rw[hcell];unfold Cell.ok at hok;rw[hu]at hok;cases hv:cs[0] <;> rw[hv]at hok <;> first|exact hok.elim|(obtain⟨rfl,_⟩:=hok;exact⟨_,rfl⟩)|simp at hok
def agY:Option TypeDesc->Bool
 |some (.interface _)=>φ
 |_=>ψ
def yu{P:Program}{W:World}{name nm:String}{d:DataW Unit}{g:Nat}{t:TypeId}
  (hg:P.globalNamed name=ξ g)(hty:(P.globals[g]?).map (·.type)=ξ t)(hi:agY (P.underlying t)=φ)
  (h:Lib.VarReads P W name (.iface nm d)):∃ev,W.cell? ⟨g,0,χ⟩=ξ ev/\(ev=.nilIface\/∃te pe,ev=.iface te pe):=by
 obtain⟨g',t',cs,fuel,p,hg',ht',hvar,hd⟩:=h;obtain rfl:=ba (hg.symm.trans hg');obtain rfl:=ba (hty.symm.trans ht');have hc:=World.var?_cell hg hvar 0;obtain⟨ms,hu⟩:∃ms,P.underlying t=ξ (.interface ms):=by
  unfold agY at hi;split at hi
  ·rename_i ms hm;exact⟨ms,hm⟩
  ·cases hi
 cases fuel with
 |zero=>simp[dh]at hd
 |succ n=>
  cases hl:cs.toList with
  |nil=>rw[hl]at hd;simp[dh,hu]at hd
  |cons v r=>
   have h0:cs[0]?=ξ v:=by rw[<-Array.getElem?_toList,hl];rfl
   rw[h0]at hc;refine⟨v,hc,?_⟩;rw[hl]at hd;cases v <;> first|exact .inl rfl|exact .inr ⟨_,_,rfl⟩|(simp[dh,hu]at hd)
def Qo{P:Program}{W:World}{name:String}{k:IntKind}{zs:List Int}{g:Nat}{t e:TypeId}{n:Nat}
  (hg:P.globalNamed name=ξ g)(hty:(P.globals[g]?).map (·.type)=ξ t)(ht:P.underlying t=ξ (.array n e))(he:P.underlying e=ξ (.int k))(hce:P.cellsOf e=1)(hct:P.cellsOf t=n)
  (h:Lib.VarReads P W name (Lib.tabData k zs)):Lib.TabIs P W name k zs:=by
 obtain⟨g',t',cs,fuel,p,hg',ht',hvar,hd⟩:=h;obtain rfl:=ba (hg.symm.trans hg');obtain rfl:=ba (hty.symm.trans ht');unfold Lib.TabIs;rw[hvar,<-Lib.cells_of_tab ht he hce hct hd]
end Go.Vg

