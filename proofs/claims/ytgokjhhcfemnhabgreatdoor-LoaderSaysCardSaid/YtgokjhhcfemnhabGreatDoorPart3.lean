/- A part of the proof that the law LoaderSaysCard holds of the given program: facts that are used there. -/
import Derived.Test.YtgokjhhcfemnhabGreatDoorPart2
import Derived.RangeFuncWrites
import Derived.RangeFuncCalls
import Derived.OrdersIn
import Derived.TacticsIn
import Derived.RangeFuncBox
import Derived.Handed
import Derived.Clock
import Derived.Lib.LaidTab
import Derived.Lib.LaidU8
import Derived.Lay
set_option linter.unusedSimpArgs false
set_option linter.unusedVariables false
set_option linter.defProp false
noncomputable section
open Bool renaming and_eq_true->ab,not_eq_true'->cu
open List renaming length_append->ad,range->ah,length_set->ai,take->aj,mem_append->ak,length_cons->ao,drop->au,mem_map->ay,mem_cons->a7,mem_singleton->a8,length_take->bc,filter_append->bf,map_cons->bn,length_singleton->br,mem_of_getElem?->bt,mem_filterMap->bu,cons_append->b7,length_map->b8,length_range->b9,filter_cons->ch,replicate->ck,nodup_cons->cm,nil_append->c6,length_nil->c7,length_filter_le->c8,length_drop->da,take_length->db,append_assoc->dc,filter_eq_self->dd,ext_getElem?->de,mem_or_eq_of_mem_set->df
open Go.Fence renaming wide->ae
open Nat renaming le_refl->af,lt_of_lt_of_le->ag,le_trans->al,beq->av,eq_of_beq_eq_true->ax,or_lt_two_pow->bo,mul_le_mul_right->bq,zero_le->bx,not_lt->b4,mul_lt_mul_of_pos_right->cd,add_mul->cg,not_lt_zero->cj
open Int renaming toNat_natCast->aq,le_trans->ba,ofNat_le->bb,le_refl->bd,tmod_eq_emod_of_nonneg->bm,toNat->bz
open Go.Lib renaming splitK->ar,count_one->bp,count->cc,index->cf
open Prod renaming ext->aw
open Go.Oper renaming uponIn->az,semAt_eq->cp
open Option.some renaming inj->bg
open Go.IntKind renaming wrap->bh,i64->bj,u8->ct
open Array renaming getD_eq_getD_getElem?->bw,toArray_toList->cy
open BitVec renaming ofInt->b5
open Classical renaming not_not->b6
open Go.DataW renaming trod->cn
open Go.Region renaming Mode->cq
open Go.Value renaming ownBlock->cr
open Go.World renaming putObj_heap_other->cw
open Option renaming isSome_iff_exists->cz
open Go.OpenSpec renaming ofChange->dh
open Go.RowKit.Below renaming refl->di
namespace Go.Vg
open Go.RowKit
def oI(F:Fence):Prop:=F=ae\/∃l,F=ae.inRound l
def n5(ds:List Deferred)(a:Act):Act:={a with defers:=ds}
def tC(ds:List Deferred)(a:Act)(d:Option Tmp)(v:Value):(n5 ds a).put d v=n5 ds (a.put d v):=by cases d <;> rfl
def Mj(ds:List Deferred)(a:Act):(n5 ds a).eval=a.eval:=by funext x;cases x <;> rfl
def Mk(ds:List Deferred)(a:Act):(n5 ds a).tmps=a.tmps:=rfl
def put_defers(a:Act)(d:Option Tmp)(v:Value):(a.put d v).defers=a.defers:=by cases d <;> rfl
section
variable{P:Program}{F:Fence}{n:Nat}
def oI.fn(h:oI F)(f:FuncId):F.fn f:=by rcases h with rfl|⟨l,rfl⟩ <;> trivial
def oI.deep(h:oI F):¬F.depth.isSome=true:=by rcases h with rfl|⟨l,rfl⟩ <;> simp[ae,Fence.inRound]
def oI.calls(h:oI F){f:FuncId}{args:Array Value}{w:World}{R:Ending->World->Prop}(hc:Calls P f args w R):CallsIn F n P f args w R:=by
 rcases h with rfl|⟨l,rfl⟩
 ·exact callsIn_wide.2 hc
 ·exact CallsIn.inRound l (callsIn_wide.2 hc)
def oI.rows(h:oI F){row:String}{args:Array Value}{w:World}{R:Value->World->Prop}(hc:Rows P row args w R):RowsIn F n P row args w R:=by
 have hs:∀{m m':Machine},Steps P m m'->StepsIn (Machine.fenced P F) P m m':=by
  rcases h with rfl|⟨l,rfl⟩
  ·exact stepsIn_wide.2
  ·exact fun hh=>stepsIn_wide.2 hh
 intro c cs _;obtain⟨v,w',r,s⟩:=hc c cs;exact⟨v,w',r,hs s⟩
structure ym (Q:Exit->Act->World->Prop):Prop where
 bare:∀e a w,Q e a w->a.defers=[]
 VO:∀c a w,¬Q (.panic c) a w
 out:¬LetsOut Q
variable{Q Q':Exit->Act->World->Prop}
def GS(hQ:ym Q){o:Oper}{K:Act->World->Prop}(hK:∀a w,K a w->a.defers=[]){a:Act}{w:World}(h:o.wp P a w K Q):a.defers=[]:=by
 unfold Oper.wp at h;generalize (execOp a.eval o).run P w=r at h;cases r with
 |ok x w'=>
  cases x with
  |value v=>have:=hK _ _ h;rwa [put_defers]at this
  |skip=>have:=hK _ _ h;rwa [put_defers]at this
  |defer d=>have:=hK _ _ h;rw[put_defers]at this;cases this
  |enter f args=>
   obtain⟨e,w2,fr,hr,_⟩:=h [];cases e with
   |returned v=>have:=hK _ _ hr;rwa [put_defers]at this
   |panicked c=>exact absurd hr (hQ.VO _ _ _)
   |outgrown=>exact absurd hr hQ.out
  |row row args=>
   obtain⟨v,w2,hr,_⟩:=h default [];have:=hK _ _ hr;rwa [put_defers]at this
  |_=>exact h.elim
 |halt x w'=>
  cases x with
  |panic v=>exact absurd h (hQ.VO _ _ _)
  |_=>exact h.elim
def pG(o:Oper):Bool:=match o.op with
 |.defer _=>false
 |_=>true
def SN{o:Oper}(h:pG o=true):∀c,o.op≠.defer c:=by
 intro c e;unfold pG at h;rw[e]at h;cases h
def aaU(hF:oI F)(hQ:ym Q){o:Oper}(hnd:pG o=true){K K':Act->World->Prop}{ds:List Deferred}(hK:∀a w,K a w->a.defers=[])(hK':∀a w,K a w->K' (n5 ds a) w){a:Act}{w:World}
  (h:o.wp P a w K Q):o.wpIn F n P (n5 ds a) w K' Q':=by
 refine⟨fun f _=>hF.fn f,?_⟩;rw[cp _ _ _ (SN hnd),Mj];unfold Oper.wp at h;have hb:=GS (P:=P) hQ hK (o:=o) (a:=a) (w:=w) h;generalize (execOp a.eval o).run P w=r at h;cases r with
 |ok x w'=>
  cases x with
  |value v=>simp only[az,tC];exact hK' _ _ h
  |skip=>simp only[az,tC];exact hK' _ _ h
  |defer d=>have:=hK _ _ h;rw[put_defers]at this;cases this
  |enter f args=>
   simp only[az];refine⟨fun e=>absurd e hF.deep,hF.calls (Calls.mono h fun e w2 hr =>?_)⟩;cases e with
   |returned v=>simp only[tC];exact hK' _ _ hr
   |panicked c=>exact absurd hr (hQ.VO _ _ _)
   |outgrown=>exact absurd hr hQ.out
  |row row args=>
   simp only[az];refine⟨fun e=>absurd e hF.deep,hF.rows (Rows.mono h fun v w2 hr =>?_)⟩;simp only[tC];exact hK' _ _ hr
  |_=>exact h.elim
 |halt x w'=>
  cases x with
  |panic v=>exact absurd h (hQ.VO _ _ _)
  |_=>exact h.elim
def Bb(hQ:ym Q){ops:Array Oper}:∀(l:List Oper) (a:Act) (w:World),wpList P ops Q l a w->a.defers=[]
 |[],a,w,h=>hQ.bare _ _ _ h
 |o :: r,a,w,h=>by
  unfold wpList at h;split at h
  ·rcases h with h|⟨_,h⟩
   ·exact GS hQ (fun a w h=>Bb hQ r a w h) h
   ·exact absurd h hQ.out
  ·have:=Bb hQ r _ _ h;rwa [put_defers]at this
def GU(hF:oI F)(hQ:ym Q){ds:List Deferred}(hE:∀a w,Q .normal a w->Q' .normal (n5 ds a) w){ops:Array Oper}:∀(l:List Oper) (_:l.all pG=true) (a:Act) (w:World),wpList P ops Q l a w->wpListIn F n P ops Q' l (n5 ds a) w
 |[],_,a,w,h=>hE a w h
 |o :: r,hl,a,w,h=>by
  simp only[List.all_cons,ab]at hl;unfold wpListIn;unfold wpList at h;rw[Mk];split
  ·rename_i hw
   rw[if_pos hw]at h;rcases h with h|⟨_,h⟩
   ·exact aaU hF hQ hl.1 (fun a w h=>Bb hQ r a w h) (fun a w h=>GU hF hQ hE r hl.2 a w h) h
   ·exact absurd h hQ.out
  ·rename_i hw
   rw[if_neg hw]at h;refine⟨fun f _=>hF.fn f,?_⟩;rw[tC];exact GU hF hQ hE r hl.2 _ _ h
def VP(hQ:ym Q){ops:Array Oper}{i:Nat}{K:Act->World->Prop}(hK:∀a w,K a w->a.defers=[]){a:Act}{w:World}(h:wpOp P ops Q i K a w):a.defers=[]:=by
 unfold wpOp at h;split at h
 ·exact hK _ _ h
 ·split at h
  ·rcases h with h|⟨_,h⟩
   ·exact GS hQ hK h
   ·exact absurd h hQ.out
  ·have:=hK _ _ h;rwa [put_defers]at this
def Ml(hQ:ym Q){ops:Array Oper}{md:cq}:∀(n:Nat) (L:Array Bool) (a:Act) (w:World),wpAny P md ops Q n L a w->a.defers=[]
 |0,_,_,_,h=>hQ.bare _ _ _ h.2
 |n+1,L,a,w,h=>by
  cases hr:Region.ready md ops L with
  |nil=>exact hQ.bare _ _ _ (h.1 hr)
  |cons i r=>exact VP hQ (fun a w h=>Ml hQ n _ a w h) (h.2 i (by rw[hr];simp))
def abB(hF:oI F)(hQ:ym Q){ops:Array Oper}(hl:ops.toList.all pG=true){ds:List Deferred}{i:Nat}{K K':Act->World->Prop}(hK:∀a w,K a w->a.defers=[])(hK':∀a w,K a w->K' (n5 ds a) w){a:Act}{w:World}
  (h:wpOp P ops Q i K a w):wpOpIn F n P ops Q' i K' (n5 ds a) w:=by
 unfold wpOpIn;unfold wpOp at h;split
 ·rename_i hi;simp only[hi]at h;exact hK' _ _ h
 ·rename_i o hi
  simp only[hi]at h;have ho:pG o=true:=List.all_eq_true.1 hl o (by rw[<-Array.getElem?_toList]at hi;exact bt hi);rw[Mk];split
  ·rename_i hw
   rw[if_pos hw]at h;rcases h with h|⟨_,h⟩
   ·exact aaU hF hQ ho hK hK' h
   ·exact absurd h hQ.out
  ·rename_i hw
   rw[if_neg hw]at h;refine⟨fun f _=>hF.fn f,?_⟩;rw[tC];exact hK' _ _ h
def VQ(hF:oI F)(hQ:ym Q){ds:List Deferred}(hE:∀a w,Q .normal a w->Q' .normal (n5 ds a) w){ops:Array Oper}(hl:ops.toList.all pG=true){md:cq}:∀(k:Nat) (L:Array Bool) (a:Act) (w:World),wpAny P md ops Q k L a w->wpAnyIn F n P md ops Q' k L (n5 ds a) w
 |0,_,_,_,h=>⟨h.1,hE _ _ h.2⟩
 |k+1,L,a,w,h=>⟨fun e=>hE _ _ (h.1 e),fun i hi=>abB hF hQ hl (fun a w h=>Ml hQ k _ a w h) (fun a w h=>VQ hF hQ hE hl k _ a w h) (h.2 i hi)⟩
end
def mj:Code->Bool
 |.skip=>true
 |.region _ ops _=>ops.toList.all pG
 |.seq a b=>mj a&&mj b
 |.cond _ a b=>mj a&&mj b
 |.block _ b=>mj b
 |.exit _=>true
 |.ret=>true
 |_=>false
section
variable{X:Ext}{P:Program}{cx:Cx}{F:Fence}{n:Nat}
def C2(ds:List Deferred)(Q:Exit->Act->World->Prop):Exit->Act->World->Prop:=fun e a w=>∃a',a=n5 ds a'/\a'.defers=[]/\Q e a' w
def D2{O:aK}{K:Ex->St->VC}{W:List Nat}{st:St}{S:bQ}:ym (kT cx X O K W st S) where
 bare e a w h:=by
  cases e with
  |normal=>obtain⟨_,_,_,_,_,k,_⟩:=h;exact k.defers
  |exit i=>obtain⟨_,_,_,_,_,k,_⟩:=h;exact k.defers
  |ret=>obtain⟨_,_,_,_,_,k,_⟩:=h;exact k.defers
  |goto l=>exact h.elim
  |panic c=>exact h.elim
  |outgrown=>exact h.elim
 VO c a w h:=h.elim
 out h:=let⟨_,_,hh⟩:=h;hh.elim
def kT.on{O:aK}{K:Ex->St->VC}{W:List Nat}{st:St}{S:bQ}{ds:List Deferred}{e:Exit}{a:Act}{w:World}(h:kT cx X O K W st S e a w):C2 ds (kT cx X O K W st S) e (n5 ds a) w:=⟨a,rfl,D2.bare _ _ _ h,h⟩
def ade(hok:mW P cx X)(hF:oI F)(ds:List Deferred){O:aK}{id:Nat}{ops:Array Oper}{draw:Bool}(hl:ops.toList.all pG=true){st:St}{loc:Nat->Loc}{w:World}{a:Act}{K:Ex->St->VC}(hA:gX cx (aC O st loc w) st a)(g:Good cx.eT X (aC O st loc w))(hO:fT O w)
  (h:(BT cx ops draw st (K .normal)).holds):(Code.region id ops draw).wpIn F n P (C2 ds (kT cx X O K (eR ops.toList) st (aC O st loc w))) (n5 ds a) w:=by
 have hW:∀(j:Nat) (oj:Oper) (d:Nat),ops[j]?=some oj->oj.dst=some d->d∈eR ops.toList:=by
  intro j oj d hj hd;exact bu.2 ⟨oj,by rw[<-Array.getElem?_toList]at hj;exact bt hj,hd⟩
 have hq:∀st' loc' a' w',(K .normal st').holds->Good cx.eT X (aC O st' loc' w')->Tr (aC O st loc w) (aC O st' loc' w')->gX cx (aC O st' loc' w') st' a'->pq (eR ops.toList) st st'->
   kT cx X O K (eR ops.toList) st (aC O st loc w) .normal a' w':=fun st' loc' a' w' h1 h2 h3 h4 h5=>⟨st',loc',h1,h2,h3,h4,h5⟩
 unfold BT at h;cases draw with
 |false=>
  refine wpIn_region_list (GU hF D2 (fun a w h=>h.on) _ hl _ _ ?_);exact Cp hok hW ops.toList (fun o ho d hd=>bu.2 ⟨o,ho,hd⟩) hA g hO h hq
 |true=>
  split at h
  ·rename_i e;cases e
  ·rename_i e
   split at h
   ·rename_i hreg
    rw[PN]at h;refine wpIn_region_any hok.mixed (VQ hF D2 (fun a w h=>h.on) hl _ _ _ _ (GC (loud:=l6 cx ops.toList) _ _ _ _ (aC O st loc {w with drawn:=w.drawn+1}).A ?_));have hdrew:Below w.heap.size w {w with drawn:=w.drawn+1}:=⟨rfl,rfl,af _,fun _ _=>rfl⟩;obtain⟨tr,g'⟩:=qN (S:=aC O st loc w) (S':=aC O st loc {w with drawn:=w.drawn+1}) g rfl rfl rfl rfl hdrew;refine Cq hok hW hreg (fun c a w h=>h) ops.size _ ?_ ⟨hA.size,hA.defers,hA.env.tr tr⟩ g' (hO.tr (af _)) h ?_
    ·intro j o ho hj
     rw[bw,Array.getElem?_replicate]at hj;split at hj <;> simp at hj
    ·intro st' loc' a' w' h1 h2 h3 h4 h5
     obtain⟨st2,loc2,k1,k2,k3,k4,k5⟩:=ib.ren (K:=K .normal) (f:=canon st.next (eR ops.toList)) (W:=eR ops.toList) hA (fun st'=>by
      rcases ER st.next (eR ops.toList) st' with e|⟨r,q,k1,k2⟩
      ·exact .inl e
      ·exact .inr ⟨r,q,k1,k2⟩) (⟨st',loc',h1,h2,tr.trans h3,h4,h5⟩:ib cx X O (fun st'=>K .normal (canon st.next (eR ops.toList) st')) (eR ops.toList) st (aC O st loc w) a' w')
     exact hq st2 loc2 a' w' k1 k2 k3 k4 k5
   ·exact h.elim
def C2.mono{ds:List Deferred}{Q Q':Exit->Act->World->Prop}(h:∀e a w,Q e a w->Q' e a w){e:Exit}{a:Act}{w:World}(hq:C2 ds Q e a w):C2 ds Q' e a w:=let⟨a',k1,k2,k3⟩:=hq;⟨a',k1,k2,h _ _ _ k3⟩
def Bc(hok:mW P cx X)(hF:oI F)(ds:List Deferred){O:aK}:∀(c:Code) (cur:Nat) (_:mj c=true) {st:St} {loc:Nat->Loc} {w:World} {a:Act} {K:Ex->St->VC},
  gX cx (aC O st loc w) st a->Good cx.eT X (aC O st loc w)->fT O w->(vc cx [] c cur st K).holds->c.wpIn F n P (C2 ds (kT cx X O K (writes [] cur c) st (aC O st loc w))) (n5 ds a) w:=by
 intro c;induction c with
 |skip=>intro cur _ st loc w a K hA g hO h;exact wpIn_skip (kT.on ⟨st,loc,h,g,Tr.refl _,hA,fun _ _ _ _ h=>h⟩)
 |region id ops draw=>
  intro cur hs st loc w a K hA g hO h;exact ade hok hF ds hs hA g hO h
 |seq c1 c2 ih1 ih2=>
  intro cur hs st loc w a K hA g hO h;simp only[mj,ab]at hs;refine wpIn_seq ?_;refine wpIn_mono (ih1 cur hs.1 hA g hO h) ?_;rintro e a0 w' ⟨a',rfl,hb,hq⟩;have key:∀e,e≠.normal->kT cx X O (fun e st'=>match e with
   |.normal=>vc cx [] c2 cur st' K
   |e=>K e st') (writes [] cur c1) st (aC O st loc w) e a' w'->C2 ds (kT cx X O K (writes [] cur (.seq c1 c2)) st (aC O st loc w)) e (n5 ds a') w':=by
   intro e he hq;refine kT.on (kT.mono (W:=writes [] cur c1) (st1:=st) (S1:=aC O st loc w) ?_ (Tr.refl _) (fun _ _ _ _ h=>h) (fun n hn=>ak.2 (.inl hn)));cases e with
   |normal=>exact absurd rfl he
   |exit i=>exact hq
   |ret=>exact hq
   |goto l=>exact hq.elim
   |panic c=>exact hq.elim
   |outgrown=>exact hq.elim
  cases e with
  |normal=>
   obtain⟨st',loc',k1,k2,k3,k4,k5⟩:=hq;refine wpIn_mono (ih2 cur hs.2 k4 k2 (hO.tr k3.size) k1) ?_;intro e a2 w2 hq2;exact hq2.mono fun e a w hq=>hq.mono k3 (W':=writes [] cur (.seq c1 c2)) (fun hm t ht=>k5 (fun h=>hm (ak.2 (.inl h))) t fun hm=>ht (ak.2 (.inl hm))) (fun n hn=>ak.2 (.inr hn))
  |exit i=>exact key _ (by simp) hq
  |ret=>exact key _ (by simp) hq
  |goto l=>exact hq.elim
  |panic c=>exact hq.elim
  |outgrown=>exact hq.elim
 |cond x c1 c2 ih1 ih2=>
  intro cur hs st loc w a K hA g hO h;simp only[mj,ab]at hs;have hx:=cA hA.env x;have h1:∀{K},(vc cx [] c1 cur st K).holds->c1.wpIn F n P (C2 ds (kT cx X O K (writes [] cur (.cond x c1 c2)) st (aC O st loc w))) (n5 ds a) w:=fun h=>
   wpIn_mono (ih1 cur hs.1 hA g hO h) fun e a' w' hq=>hq.mono fun e a w hq=>hq.mono (Tr.refl _) (fun _ _ _ _ h=>h) (fun n hn=>ak.2 (.inl hn))
  have h2:∀{K},(vc cx [] c2 cur st K).holds->c2.wpIn F n P (C2 ds (kT cx X O K (writes [] cur (.cond x c1 c2)) st (aC O st loc w))) (n5 ds a) w:=fun h=>
   wpIn_mono (ih2 cur hs.2 hA g hO h) fun e a' w' hq=>hq.mono fun e a w hq=>hq.mono (Tr.refl _) (fun _ _ _ _ h=>h) (fun n hn=>ak.2 (.inr hn))
  have hev:(n5 ds a).eval x=a.eval x:=by rw[Mj]
  have h':(match eZ st.env x with
    |.lit true=>vc cx [] c1 cur st K
    |.lit false=>vc cx [] c2 cur st K
    |.d .bool g =>.ite g (vc cx [] c1 cur st K) (vc cx [] c2 cur st K)
    |_ =>.ff).holds:=h
  split at h'
  ·rename_i hl;rw[hl]at hx;exact wpIn_cond_true (hev.trans hx) (h1 h')
  ·rename_i hl;rw[hl]at hx;exact wpIn_cond_false (hev.trans hx) (h2 h')
  ·rename_i b hl
   rw[hl]at hx;have hx:=(fO (eT:=cx.eT) (S:=aC O st loc w) (b:=b)).1 hx;cases b
   ·exact wpIn_cond_false (hev.trans hx) (h2 (h'.2 rfl))
   ·exact wpIn_cond_true (hev.trans hx) (h1 (h'.1 rfl))
  ·exact h'.elim
 |block id b ih=>
  intro cur hs st loc w a K hA g hO h;refine wpIn_block ?_;have h':(vc cx [] b id st fun e st'=>match e with
   |.exit i=>match av i id with
    |true=>K .normal st'
    |false=>K (.exit i) st'
   |e=>K e st').holds:=h
  refine wpIn_mono (ih id hs hA g hO h') ?_;rintro e a0 w' ⟨a',rfl,hb,hq⟩;cases e with
  |normal=>exact kT.on hq
  |exit i=>
   obtain⟨st',loc',k1,k2,k3,k4,k5⟩:=hq;simp only at k1;show if i=id then _ else _
   split at k1
   ·rename_i hi
    rw[if_pos (ax hi)];exact kT.on ⟨st',loc',k1,k2,k3,k4,k5⟩
   ·rename_i hi
    rw[if_neg (fun e=>by rw[e,Nat.beq_refl]at hi;cases hi)];exact kT.on ⟨st',loc',k1,k2,k3,k4,k5⟩
  |ret=>exact kT.on hq
  |goto l=>exact hq.elim
  |panic c=>exact hq.elim
  |outgrown=>exact hq.elim
 |exit id=>intro cur _ st loc w a K hA g hO h;exact wpIn_exit (kT.on ⟨st,loc,h,g,Tr.refl _,hA,fun _ _ _ _ h=>h⟩)
 |ret=>intro cur _ st loc w a K hA g hO h;exact wpIn_ret (kT.on ⟨st,loc,h,g,Tr.refl _,hA,fun _ _ _ _ h=>h⟩)
 |_=>intro cur hs;cases hs
end
structure ur (B:Nat) (W W':World):Prop where
 os:W'.os=W.os
 output:W'.output=W.output
 size:W.heap.size<=W'.heap.size
 below:∀k,k<B->k<W.heap.size->W'.heap[k]?=W.heap[k]?
 cells:∀(k:Nat) (o:Obj),W.heap[k]?=some o->o.isCells=true->W'.heap[k]?=W.heap[k]?
def ur.of{B:Nat}{W W':World}{row:Option Nat}(hg:W.grownBy W' row)(hr:∀r,row=some r->B<=r/\∃o:Obj,W.heap[r]?=some o/\o.isCells=false):ur B W W':=
 ⟨hg.os,hg.output,hg.size,fun k h1 h2=>hg.block k h2 (fun e=>by have:=(hr k e.symm).1;omega),fun k o hk hc=>grownBy_keeps_cells hg (fun r e=>(hr r e).2) hk hc⟩
def ur.cell{B:Nat}{W W':World}(h:ur B W W'){b o:Nat}{v:Value}(hc:W.cell? ⟨b,o,none⟩=some v):W'.cell? ⟨b,o,none⟩=some v:=by
 obtain⟨ob,ho,hcs⟩:=cells_of_cell hc;exact(World.cell?_of_block (h.cells _ ob ho hcs)).trans hc
def plainO:OC->Bool
 |.cells _ _=>true
 |.bC _ _=>true
 |.arr _ _=>true
 |.tok _ _=>true
 |.ext k _ _=>av k 0 || av k 2
 |.iter _ _ _=>false
def p7:List (Nat×OC)->Bool
 |[]=>true
 |(_,oc) :: r=>plainO oc&&p7 r
def ov:∀{l:List (Nat×OC)},p7 l=true->∀{n:Nat} {oc:OC},look l n=some oc->plainO oc=true
 |[],_,_,_,h=>by simp[look]at h
 |(m,x) :: r,hp,n,oc,h=>by
  simp only[p7,ab]at hp;rw[cV]at h;split at h
  ·cases h;exact hp.1
  ·exact ov hp.2 h
section
variable{eT:TypeId}{X:Ext}
def CR.nN{S S':bQ}(hob:S'.ob=S.ob)(hloc:S'.loc=S.loc)(hn:S'.next=S.next)(hc:∀b o v,¬S.A b o->S.w.cell? ⟨b,o,none⟩=some v->S'.w.cell? ⟨b,o,none⟩=some v/\¬S'.A b o)
  {c:C}{v:Value}(h:CR eT S c v):CR eT S' c v:=by
 cases c with
 |d t x=>exact VR.frame h hc
 |app t xs n=>obtain⟨h1,h2,h3⟩:=h;exact⟨VR.frame h1 hc,by rw[hn];exact h2,by rw[hob,hloc];exact h3⟩
 |ql t x=>obtain⟨b,o,us,rfl,h1,h2⟩:=h;exact⟨b,o,us,rfl,h1.frame hc,h2.frame hc⟩
 |fn f caps=>simp only[CR,bQ.fixed,hob,hloc,hn]at h ⊢;exact h
 |_=>simp only[CR,hob,hloc,hn]at h ⊢ <;> exact h
def fD.nN{S S':bQ}(hob:S'.ob=S.ob)(hloc:S'.loc=S.loc)(hn:S'.next=S.next)(hc:∀b o v,¬S.A b o->S.w.cell? ⟨b,o,none⟩=some v->S'.w.cell? ⟨b,o,none⟩=some v/\¬S'.A b o)
  {cs:List C}{vs:List Value}(h:fD eT S cs vs):fD eT S' cs vs:=by
 induction h with
 |nil=>exact .nil
 |cons h1 h2 _ ih=>exact .cons (h1.nN hob hloc hn hc) h2 ih
def jG.nN{S S':bQ}(hob:S'.ob=S.ob)(hloc:S'.loc=S.loc)(hn:S'.next=S.next)(hc:∀b o v,¬S.A b o->S.w.cell? ⟨b,o,none⟩=some v->S'.w.cell? ⟨b,o,none⟩=some v/\¬S'.A b o)
  {x:dC}{v:Value}(h:jG eT S x v):jG eT S' x v:=by
 cases x with
 |one c=>exact CR.nN hob hloc hn hc h
 |agg cs=>obtain⟨vs,rfl,h1⟩:=h;exact⟨vs,rfl,h1.nN hob hloc hn hc⟩
def dE.nN{S S':bQ}(hob:S'.ob=S.ob)(hloc:S'.loc=S.loc)(hn:S'.next=S.next)(hc:∀b o v,¬S.A b o->S.w.cell? ⟨b,o,none⟩=some v->S'.w.cell? ⟨b,o,none⟩=some v/\¬S'.A b o)
  {xs:List dC}{vs:List Value}(h:dE eT S xs vs):dE eT S' xs vs:=by
 induction h with
 |nil=>exact .nil
 |cons h1 _ ih=>exact .cons (h1.nN hob hloc hn hc) ih
def eL.nN{S S':bQ}(hob:S'.ob=S.ob)(hloc:S'.loc=S.loc)(hn:S'.next=S.next)(hc:∀b o v,¬S.A b o->S.w.cell? ⟨b,o,none⟩=some v->S'.w.cell? ⟨b,o,none⟩=some v/\¬S'.A b o)
  {x:SV}{v:Value}(h:eL eT S x v):eL eT S' x v:=by
 cases x with
 |s x=>exact jG.nN hob hloc hn hc h
 |oJ xs=>obtain⟨vs,rfl,h1⟩:=h;exact⟨vs,rfl,h1.nN hob hloc hn hc⟩
def OR.nN{S S':bQ}(hob:S'.ob=S.ob)(hloc:S'.loc=S.loc)(hn:S'.next=S.next)(hc:∀b o v,¬S.A b o->S.w.cell? ⟨b,o,none⟩=some v->S'.w.cell? ⟨b,o,none⟩=some v/\¬S'.A b o)
  {l:Loc}{oc:OC}(hb:∀b,b∈l.bs->S'.w.heap[b]?=S.w.heap[b]?)(ho:OR eT X S l oc):OR eT X S' l oc:=by
 have he:∀{t:Ty} {xs:List (D t)} {vs:Array Value},mo eT S t xs vs->mo eT S' t xs vs:=fun h i y hy=>let⟨us,h1,h2⟩:=h i y hy;⟨us,h1.frame hc,h2⟩
 cases oc with
 |cells T cs=>
  obtain⟨b,vs,h1,h2,h3,h4⟩:=ho;exact⟨b,vs,h1,h2,by rw[hb b (by simp[h2])];exact h3,h4.nN hob hloc hn hc⟩
 |bC t xs=>
  rcases ho with ho|⟨b,vs,T,cap,h1,h2,h3,h4,h5,h6,h7⟩
  ·exact .inl ho
  ·exact .inr ⟨b,vs,T,cap,h1,h2,by rw[hb b (by simp[h2])];exact h3,h4,h5,h6,he h7⟩
 |arr t xs=>
  obtain⟨b,vs,T,h1,h2,h3,h4,h5⟩:=ho;exact⟨b,vs,T,h1,h2,by rw[hb b (by simp[h2])];exact h3,h4,he h5⟩
 |tok t xs=>
  rcases ho with ho|⟨b,vs,T,cap,h1,h2,h3,h4,h5,h6,h7⟩
  ·exact .inl ho
  ·exact .inr ⟨b,vs,T,cap,h1,h2,by rw[hb b (by simp[h2])];exact h3,h4,h5,h6,he h7⟩
 |ext k t x=>exact X.frame ho hb
 |iter cs seen cl=>
  obtain⟨b,m,c,sn,h1,h2,h3,h4,h5,h6⟩:=ho;exact⟨b,m,c,sn,h1,h2,by rw[hb b (by simp[h2])];exact h3,h4.nN hob hloc hn hc,h5,h6⟩
def OR.VS{S:bQ}{l:Loc}{oc:OC}(hp:plainO oc=true)(ho:OR eT X S l oc):∀b∈l.bs,∃vs T fz,S.w.heap[b]?=some (.cells vs T fz):=by
 intro b hb;cases oc with
 |cells T cs=>obtain⟨b',vs,_,h2,h3,_⟩:=ho;rw[h2]at hb;simp at hb;subst hb;exact⟨_,_,_,h3⟩
 |bC t xs=>
  rcases ho with⟨_,_,h⟩|⟨b',vs,T,cap,_,h2,h3,_⟩
  ·rw[h]at hb;simp at hb
  ·rw[h2]at hb;simp at hb;subst hb;exact⟨_,_,_,h3⟩
 |arr t xs=>obtain⟨b',vs,T,_,h2,h3,_⟩:=ho;rw[h2]at hb;simp at hb;subst hb;exact⟨_,_,_,h3⟩
 |tok t xs=>
  rcases ho with⟨_,_,h⟩|⟨b',vs,T,cap,_,h2,h3,_⟩
  ·rw[h]at hb;simp at hb
  ·rw[h2]at hb;simp at hb;subst hb;exact⟨_,_,_,h3⟩
 |ext k t x=>
  simp only[plainO,Bool.or_eq_true]at hp;rcases hp with hp|hp
  ·have:=ax hp
   subst this;have hd:mn t x l S.w:=X.deep.1 ho;cases t with
   |slice e=>
    obtain⟨s,_,top,hs,_,⟨_,_,_,h⟩|⟨b',vs,T,cap,cs,_,h2,h3,_,_,_,h4⟩⟩:=hd
    ·rw[h]at hb;simp at hb
    ·rw[h2]at hb
     rcases a7.1 hb with rfl|hb
     ·exact⟨_,_,_,h3⟩
     ·obtain⟨c,hc,hcb⟩:=bu.1 hb
      simp at hcb;subst hcb;obtain⟨i,hi⟩:=List.getElem?_of_mem hc;obtain⟨_,vs',T',h5⟩:=h4.Cf i b hi;exact⟨_,_,_,h5⟩
   |_=>exact hd.elim
  ·have:=ax hp
   subst this;obtain⟨rfl,b',p,v,h⟩:=X.TZ.1 ho;rw[h.bs]at hb;rcases a7.1 hb with rfl|hb
   ·exact⟨_,_,_,h.heap⟩
   ·rcases h.row.2 with⟨rfl,_⟩|⟨g,cap,cur,rfl,_,hg,_⟩
    ·simp[cr]at hb
    ·simp[cr]at hb;subst hb;exact⟨_,_,_,hg⟩
 |iter cs seen cl=>cases hp
def Bd{S:bQ}{W':World}{B:Nat}(g:Good eT X S)(hb:ur B S.w W')(hp:∀n oc,S.ob n=some oc->plainO oc=true)(hg:∀b∈X.Hi,b<B):Good eT X {S with w:=W'} where
 obj n oc h:=⟨(g.obj n oc h).1,OR.nN (S:=S) (S':={S with w:=W'}) rfl rfl rfl (fun b o v ha hc=>⟨hb.cell hc,ha⟩) (fun b hbm=>let⟨_,_,_,e⟩:=(g.obj n oc h).2.VS (hp n oc h) b hbm;hb.cells b _ e rfl) (g.obj n oc h).2⟩
 apart:=g.apart
 out:=g.out
 lU:=⟨X.Ep g.lU.1 fun b hbm=>hb.below b (hg b hbm) (X.Ki g.lU.1 b hbm),g.lU.2⟩
def GV{S0 S:bQ}{W':World}{B:Nat}(t:Tr S0 S)(hb:ur B S.w W')(hB:S0.w.heap.size<=B):Tr S0 {S with w:=W'} where
 O:=t.O
 next:=t.next
 os:=hb.os.trans t.os
 output:=hb.output.trans t.output
 size:=al t.size hb.size
 own:=t.own
 cell b o v ha hc:=let⟨h1,h2⟩:=t.cell b o v ha hc;⟨hb.cell h1,h2⟩
 block b hlt ho:=(hb.below b (ag hlt hB) (ag hlt t.size)).trans (t.block b hlt ho)
 loc:=t.loc
 kind:=t.kind
def D3{S:bQ}{W':World}{B:Nat}{env:List (Nat×SV)}{a:Act}(h:iu eT S env a)(hb:ur B S.w W'):iu eT {S with w:=W'} env a:=
 fun t sv ht=>eL.nN (S:=S) (S':={S with w:=W'}) rfl rfl rfl (fun b o v ha hc=>⟨hb.cell hc,ha⟩) (h t sv ht)
def IB{S:bQ}(g:Good eT X S)(hp:∀n oc,S.ob n=some oc->plainO oc=true){k:Nat}{o:Obj}(hk:S.w.heap[k]?=some o)(ho:o.isCells=false):¬S.owns k:=by
 rintro⟨n,oc,h1,h2⟩;obtain⟨vs,T,fz,e⟩:=(g.obj n oc h1).2.VS (hp n oc h1) k h2;rw[hk]at e;cases e;cases ho
end
def gV(an:lW)(st:St)(us:List Nat)(x:an.X):St:=
 {env:=wy an (an.pd x) us an.refs++s9 an st x,aH:=mQ (iw an.aU (an.pd x) us) an.aU (an.pd x) us++nD an st x,next:=st.next+an.aU.length}
def tj:List Ob->List Nat->List Nat->Bool
 |o :: os,n0 :: ns0,n :: ns=>(match px o o with|true=>av n n0|false=>true)&&tj os ns0 ns
 |_,_,_=>true
def IC:∀{aU:List Ob} {ν0 ν:List Nat} {i n0 n:Nat} {o:Ob},tj aU ν0 ν=true->aU[i]?=some o->px o o=true->ν0[i]?=some n0->ν[i]?=some n->n=n0
 |[],_,_,_,_,_,_,_,h,_,_,_=>by simp at h
 |_ :: _,[],_,_,_,_,_,_,_,_,h,_=>by simp at h
 |_ :: _,_ :: _,[],_,_,_,_,_,_,_,_,h=>by simp at h
 |a :: os,m0 :: ns0,m :: ns,0,n0,n,o,h,h1,h2,h3,h4=>by
  simp at h1 h3 h4;subst h1;subst h3;subst h4;simp only[tj,h2,ab]at h;exact ax h.1
 |a :: os,m0 :: ns0,m :: ns,i+1,n0,n,o,h,h1,h2,h3,h4=>by
  simp only[tj,ab]at h;exact IC h.2 (by simpa using h1) h2 (by simpa using h3) (by simpa using h4)
def FT(an:lW)(ν0:List Nat)(st st':St)(more:an.X->Prop):VC:=
 match Ab st' an with
 |some ν=>match nodupB ν&&(wx st' an ν an.refs&&tj an.aU ν0 ν),fE false st'.aH an.aU ν an.aU ν with
  |true,some y =>.leaf (KW (BS st' an y an.refs++jX an.aU y st'.aH an.aU ν++[∃x',an.inv x'/\more x'/\nT st' (an.aY x')/\nU st' (an.aH x'++jM st an.gS)/\(qF ν (nD an st x')=true/\y=an.pd x')]))
  |_,_ =>.ff
 |none =>.ff
def FU{an:lW}{ν0:List Nat}{st st':St}{more:an.X->Prop}(h:(FT an ν0 st st' more).holds):∃x,an.inv x/\more x/\∃ν,K2 an st st' x ν/\tj an.aU ν0 ν=true:=by
 unfold FT at h;split at h
 ·rename_i ν _
  split at h
  ·rename_i y hc hy
   simp only[ab]at hc;have hall:=xl h;obtain⟨x,h1,h2,h3,h4,h5,h6⟩:=hall (∃x',an.inv x'/\more x'/\nT st' (an.aY x')/\nU st' (an.aH x'++jM st an.gS)/\(qF ν (nD an st x')=true/\y=an.pd x')) (List.mem_append_right _ (a8.2 rfl));subst h6;obtain⟨k1,_⟩:=kB.1 hall;obtain⟨k1,k2⟩:=kB.1 k1;exact⟨x,h1,h2,ν,⟨hc.1,hc.2.1,hy,k1,k2,h3,h4,h5⟩,hc.2.2⟩
  ·exact h.elim
 ·exact h.elim
def ID{aH:List (Nat×OC)}{aU:List Ob}{ν:List Nat}{o:Ob}{y:OD o}{oc:OC}{f:Nat->C}{l:Loc}(hk:px o o=true)(h:lf false aH aU ν o oc=some y):bD l l oc (rG f o y):=by
 cases o with
 |box T cls=>obtain⟨cs,rfl⟩:=(nt h (fun _ =>.any)).1 _ _ rfl;rfl
 |row k t=>
  obtain⟨xs,rfl⟩:=(nt h (fun _ =>.any)).2.2.1 _ _ rfl rfl;cases k with
  |true=>rfl
  |false=>cases hk
 |tok t=>cases hk
 |ext k t=>obtain⟨x,rfl⟩:=(nt h (fun _ =>.any)).2.1 _ _ rfl;exact⟨rfl,rfl⟩
section
variable{X:Ext}{cx:Cx}
def VT{an:lW}{O:aK}{st st':St}{loc loc0:Nat->Loc}{w w0:World}{a:Act}{W us ν:List Nat}(x:an.X)(hus:nodupB us=true)(husl:us.length=an.aU.length)(husm:∀n∈us,n<st.next+an.aU.length)(hsel:∀(i m:Nat),us[i]?=some m->st.next<=m\/(ν[i]?=some m/\∃o,an.aU[i]?=some o/\px o o=true))(g:Good cx.eT X (aC O st' loc w))(hA:gX cx (aC O st' loc w) st' a)(ht:Tr (aC O st loc0 w0) (aC O st' loc w))
  (hok:pT an st W x=true)(hkeep:∀n∈an.keep,∀v,look st.env n=some v->∃u,look st'.env n=some u/\oP u v)(hf:K2 an st st' x ν) :
  ∃loc',Good cx.eT X (aC O (gV an st us x) loc' w)/\gX cx (aC O (gV an st us x) loc' w) (gV an st us x) a/\Tr (aC O st loc0 w0) (aC O (gV an st us x) loc' w):=by
 simp only[pT,ab]at hok;obtain⟨hb1,hb2,hkeys,hnr⟩:=hok;have hlen:ν.length=us.length:=by rw[husl];exact(pr hf.get).symm
 let loc':=fU us (ν.map loc) loc
 have hkept:∀(i n:Nat),n<st.next->us[i]?=some n->ν[i]?=some n/\∃o,an.aU[i]?=some o/\px o o=true:=fun i n hn hi=>(hsel i n hi).resolve_left (by omega)
 have hlow:∀n,n<st.next->loc' n=loc n:=fun n hn=>by
  by_cases hm:n∈us
  ·obtain⟨i,hi⟩:=List.getElem?_of_mem hm
   exact lH hus hi (by simp[(hkept i n hn hi).1])
  ·exact nr hm
 have hrest:∀m oc,look (nD an st x) m=some oc->m<st.next/\m∉ν/\∃u,look st'.aH m=some u/\bD (loc m) (loc m) u oc/\u.lo=oc.lo/\OR cx.eT X (aC O st' loc w) (loc m) oc:=by
  intro m oc hm;obtain⟨u,hu,hs⟩:=oe hf.aH hm;obtain⟨h1,h2,h3⟩:=xu hs (g.obj m u hu).2;exact⟨(lP hb2 hm).1,tS hf.out hm,u,hu,h2,h3,h1⟩
 have hob:∀m oc,look (gV an st us x).aH m=some oc->(∃(i n:Nat) (o:Ob) (y:OD o) (oc0:OC),ν[i]?=some n/\us[i]?=some m/\an.aU[i]?=some o/\look st'.aH n=some oc0/\lf false st'.aH an.aU ν o oc0=some y/\
   oc=rG (iw an.aU (an.pd x) us) o y/\loc' m=loc n)\/(m∉us/\look (nD an st x) m=some oc/\loc' m=loc m):=by
  intro m oc hm;simp only[gV,dZ]at hm;split at hm
  ·rename_i oc' hm'
   cases hm;obtain⟨i,n,o,y,oc0,k1,k2,k3,k4,k5,k6,_⟩:=qY hf.get (qX (X:=X) g hf.get hf.get hf.conds) hlen hm';exact .inl ⟨i,n,o,y,oc0,k1,k2,k3,k4,k5,k6,lH hus k2 (by simp[k1])⟩
  ·rename_i hm'
   have hnin:m∉us:=fun hmem=>by
    obtain⟨oc1,h2⟩:=qD (f:=iw an.aU (an.pd x) us) (x:=an.pd x) husl.symm hmem;rw[h2]at hm';cases hm'
   exact .inr ⟨hnin,hm,nr hnin⟩
 have hAsub:∀b o,(aC O (gV an st us x) loc' w).A b o->(aC O st' loc w).A b o:=by
  rintro b off (h|⟨m,oc,h1,h2,h3⟩)
  ·exact .inl h
  ·rcases hob m oc h1 with⟨i,n,o,y,oc0,k1,k2,k3,k4,k5,k6,k7⟩|⟨k1,k2,k3⟩
   ·refine .inr ⟨n,oc0,k4,by simp only[aC]at h2;rw[k7]at h2;exact h2,?_⟩
    rcases BQ (f:=iw an.aU (an.pd x) us) k5 with e|e
    ·rw[<-e,<-k6];exact h3
    ·cases e
   ·obtain⟨_,_,u,hu,_,hlo,_⟩:=hrest m oc k2
    exact .inr ⟨m,u,hu,by simp only[aC]at h2;rw[k3]at h2;exact h2,by rw[hlo];exact h3⟩
 have hcell:∀b o v,¬(aC O st' loc w).A b o->w.cell? ⟨b,o,none⟩=some v->w.cell? ⟨b,o,none⟩=some v/\¬(aC O (gV an st us x) loc' w).A b o:=fun b o v h1 h2=>⟨h2,fun h=>h1 (hAsub b o h)⟩
 have hrel:∀{c:C} {v:Value},qZ st.next c=true->CR cx.eT (aC O st' loc w) c v->CR cx.eT (aC O (gV an st us x) loc' w) c v:=fun hb hv=>
  Cv (S:=aC O st' loc w) (S':=aC O (gV an st us x) loc' w) (k:=st.next) hcell (by simp[aC,gV]) (fun n hn=>hlow n hn) (fun n oc hn h=>by
   rcases hob n oc h with⟨i,n',o,y,oc0,k1,k2,k3,k4,k5,k6,_⟩|⟨k1,k2,k3⟩
   ·obtain⟨e1,o',e2,e3⟩:=hkept i n hn k2
    rw[k1]at e1;cases e1;rw[k3]at e2;cases e2;exact⟨oc0,k4,by rw[k6];exact ID e3 k5⟩
   ·obtain⟨_,_,u,hu,hk,_,_⟩:=hrest n oc k2
    exact⟨u,hu,hk⟩) hb hv
 obtain⟨gN,laid⟩:=J8 (X:=X) g hf.get hf.conds hf.nodup (O2:=O) (ν2:=us) (rest:=nD an st x) (locR:=loc) (st2:=gV an st us x) hus hlen (by simp only[gV])
  (fun n hn=>by have:=husm n hn;simp only[gV];exact this)
  (fun n hn b hb off h=>by
   obtain⟨_,oc,_,_,k,_⟩:=lI hf.get hn;exact g.out n oc b off k hb h)
  (fun n hn b hb m oc h1 h2 h3=>by
   obtain⟨_,oc0,_,_,k,_⟩:=lI hf.get hn;obtain⟨_,hmν,u,hu,_⟩:=hrest m oc h1;have:=g.apart n m oc0 u b k hu hb h3;exact hmν (by rw[<-this];exact hn))
  (fun m oc h1 h2=>by
   obtain⟨hm,_,u,hu,hk,hlo,hor⟩:=hrest m oc h1;refine⟨by simp only[gV];omega,?_⟩;have hb:=(lP hb2 h1).2;cases oc with
   |cells T cs=>
    obtain⟨b,vs,h1,h2,h3,h4⟩:=hor;exact⟨b,vs,h1,h2,h3,mY (k:=st.next) hrel hb h4⟩
   |bC t xs=>exact Dy.to (S:=aC O st' loc w) (S':=aC O (gV an st us x) loc' w) rfl (.inr hAsub) hor
   |tok t xs=>exact Dy.to (X:=X) (S:=aC O st' loc w) (S':=aC O (gV an st us x) loc' w) (l:=loc m) rfl (.inr hAsub) hor
   |arr t xs=>
    obtain⟨b,vs,T,h1,h2,h3,h4,h5⟩:=hor;exact⟨b,vs,T,h1,h2,h3,h4,fun i y hy=>let⟨us,r1,r2⟩:=h5 i y hy;⟨us,r1.frame hcell,r2⟩⟩
   |ext k t x=>exact hor
   |iter cs seen cl=>obtain⟨b,m,c,sn,k1,k2,k3,k4,k5⟩:=hor;exact⟨b,m,c,sn,k1,k2,k3,mY (k:=st.next) hrel hb k4,k5⟩)
  (fun m m' oc oc' b h1 h2 _ _ h3 h4=>by
   obtain⟨_,_,u,hu,_⟩:=hrest m oc h1;obtain⟨_,_,u',hu',_⟩:=hrest m' oc' h2;exact g.apart m m' u u' b hu hu' h3 h4)
  (fun m oc b off h1 _ h2=>by
   obtain⟨_,_,u,hu,_⟩:=hrest m oc h1;exact g.out m u b off hu h2)
  (.inr hAsub)
  (fun b hb ⟨m,oc,h1,h2⟩=>by
   rcases hob m oc h1 with⟨i,n,o,y,oc0,k1,k2,k3,k4,k5,k6,k7⟩|⟨k1,k2,k3⟩
   ·refine g.lU.2 b hb ⟨n,oc0,k4,?_⟩
    have e:fU us (ν.map loc) loc m=loc n:=k7;simp only[aC]at h2;rw[e]at h2;exact h2
   ·obtain⟨_,_,u,hu,_⟩:=hrest m oc k2
    have e:fU us (ν.map loc) loc m=loc m:=k3;refine g.lU.2 b hb ⟨m,u,hu,?_⟩;simp only[aC]at h2;rw[e]at h2;exact h2)
 refine⟨loc',gN,⟨hA.size,hA.defers,fun t sv hl =>?_⟩,?_⟩
 ·simp only[gV,dZ]at hl
  split at hl
  ·rename_i v hv
   cases hl;obtain⟨k,hk,rfl⟩:=pU hv;obtain⟨c,hc,hs⟩:=xx hf.refs hk;have hcv:CR cx.eT (aC O st' loc w) c (a.tmps.getD t undef):=hA.env t _ hc;exact z7 laid (BP g hcv hf.get hs (Ac hf.acP hk hc))
  ·have hl2:look (s9 an st x) t=some sv:=hl
   have hst:∃u,look st'.env t=some u/\oP u sv:=by
    simp only[s9,dZ]at hl2;split at hl2
    ·rename_i v hv;cases hl2;exact od hf.env hv
    ·obtain⟨h1,h2⟩:=ji hl2;exact hkeep t h1 sv h2
   obtain⟨u,hu,hs⟩:=hst;have hv:=xr hs (hA.env t u hu);obtain⟨v0,rfl,hb⟩:=sR hb1 hl2;cases v0 with
   |one c=>exact hrel hb hv
   |agg cs=>obtain⟨vs,h1,h2⟩:=hv;exact⟨vs,h1,mY (k:=st.next) hrel hb h2⟩
 ·refine{O:=ht.O,next:=by simp[aC,gV],os:=ht.os,output:=ht.output,size:=ht.size,own:=fun b hb =>?_,cell:=fun b o v h1 h2 =>?_,block:=ht.block,loc:=fun n hn hfx =>?_,kind:=fun n oc hn h =>?_}
  ·obtain⟨m,oc,h1,h2⟩:=hb
   rcases hob m oc h1 with⟨i,n,o,y,oc0,k1,k2,k3,k4,k5,k6,k7⟩|⟨k1,k2,k3⟩
   ·exact ht.own b ⟨n,oc0,k4,by simp only[aC]at h2;rw[k7]at h2;exact h2⟩
   ·obtain⟨_,_,u,hu,_⟩:=hrest m oc k2
    exact ht.own b ⟨m,u,hu,by simp only[aC]at h2;rw[k3]at h2;exact h2⟩
  ·obtain⟨k1,k2⟩:=ht.cell b o v h1 h2
   exact⟨k1,fun h=>k2 (hAsub b o h)⟩
  ·show(loc' n).v=_/\(_->loc' n=_)
   rw[hlow n hn];exact ht.loc n hn hfx
  ·rcases hob n oc h with⟨i,n',o,y,oc0,k1,k2,k3,k4,k5,k6,_⟩|⟨k1,k2,k3⟩
   ·obtain⟨e1,o',e2,e3⟩:=hkept i n hn k2
    rw[k1]at e1;cases e1;rw[k3]at e2;cases e2;obtain⟨oc1,m1,m2⟩:=ht.kind n oc0 hn k4;refine⟨oc1,m1,?_⟩;show bD _ (loc' n) _ _;rw[hlow n hn,k6];exact m2.comp (ID e3 k5)
   ·obtain⟨_,_,u,hu,hk,_,_⟩:=hrest n oc k2
    obtain⟨oc1,m1,m2⟩:=ht.kind n u hn hu;refine⟨oc1,m1,?_⟩;show bD _ (loc' n) _ _;rw[hlow n hn];exact m2.comp hk
end
structure np:Type 1 where
 inv:List Nat->Prop
 keep:List Nat
 gS:List Nat:=[]
 eA:List Nat:=[]
 aU:List Ob:=[]
 refs:List (Nat×Nat):=[]
 pd:List Nat->PD aU:=fun _=>Rq aU
def np.Be(r:np):lW:={X:=List Nat,inv:=r.inv,bF:=fun _=>0,aY:=fun _=>[],keep:=r.keep,gS:=r.gS,aU:=r.aU,refs:=r.refs,pd:=r.pd}
def rUs(r:np)(ν0:List Nat)(st:St):List Nat:=ox r.aU r.aU ν0 st.next
def iA(r:np)(ν0:List Nat)(st:St)(pre:List Nat):St:=gV r.Be st (rUs r ν0 st) pre
def sM(r:np)(ν0:List Nat)(st:St)(pre:List Nat):Bool:=pT r.Be st [] pre&&(p7 (iA r ν0 st pre).aH&&(nodupB (rUs r ν0 st)&&lJ (st.next+r.aU.length) (rUs r ν0 st)))
def fG{t:Ty}(xs:List (D t))(k i:Nat):List (D t):=(xs.drop (i*k)).take k
def gR(n k:Nat):Nat:=(n+k-1) / k
def mb(a:Option Addr)(n k i:Nat):Value:=.slice (a.map fun p=>{p with off:=p.off+i*k}) (min k (n-i*k)) (min k (n-i*k))
def B4(ps:List Tmp)(asg:Code):Option (Nat×Nat):=
 match ps,asg with
 |[p],.region _ ops false=>match ops.toList with
  |[o]=>match o.dst,o.op,o.guard with
   |some d,.assign (.tmp q),none=>match av q p with
    |true=>some (p,d)
    |false=>none
   |_,_,_=>none
  |_=>none
 |_,_=>none
def aaV(st:St)(r:np):np:={r with keep:=(ES st.env r.keep).filter (fun t=>sA [t] r.refs),gS:=match r.gS with
 |[]=>sy (r.eA++(match Ab st r.Be with|some l=>l|none=>[])) st.aH
 |l=>l}
@[reducible] def Qn:Ty:=.slice (.int .u8)
def Kf(an:np)(ν0:List Nat)(st1:St)(bs:List (D (.int .u8)))(kN p d:Nat)(pre:List Nat)(i:Nat):St:=
 {iA an ν0 st1 pre with env:=(d,.s (.one (.d Qn (fG bs kN i)))) :: (p,.s (.one (.d Qn (fG bs kN i)))) :: (iA an ν0 st1 pre).env}
def rK(an:np)(ν0:List Nat)(st1:St)(K:Ex->St->VC)(pre:List Nat)(i:Nat):Ex->St->VC:=fun e st'=>match e with
 |.normal=>FT an.Be ν0 st1 {st' with env:=(iA an ν0 st1 pre).env} fun x=>x=pre++[i]
 |.ret=>match p7 st'.aH with
  |true =>.imp (pre=ah i) (K .ret {st' with env:=(iA an ν0 st1 pre).env})
  |false =>.ff
 |.exit _ =>.ff
def aaW(cx:Cx)(an:np)(st1:St)(bs:List (D (.int .u8)))(k:Int)(p d:Nat)(body:Code)(K:Ex->St->VC):VC:=
 match Ab st1 an.Be with
 |some ν0 =>.both (.leaf (1<=k/\k<=1000000000/\bs.length<=1000000000))
  (.both (FT an.Be ν0 st1 st1 fun x=>x=[]) (.both (.all (List Nat) fun pre =>.imp (an.inv pre) (match sM an ν0 st1 pre with
    |true =>.all Nat fun i =>.imp (pre.length<gR bs.length k.toNat)
     (vc cx [] body 0 (Kf an ν0 st1 bs k.toNat p d pre i) (rK an ν0 st1 K pre i))
    |false =>.ff))
   (.imp (an.inv (ah (gR bs.length k.toNat))) (K .normal (iA an ν0 st1 (ah (gR bs.length k.toNat)))))))
 |none =>.ff
def Zl(cx:Cx)(it:FuncId)(r:St->np)(g:Operand)(p d:Nat)(body:Code)(st:St)(K:Ex->St->VC):VC:=
 match eZ st.env g with
 |.fn f [n1,n2]=>match av f it&&!av n1 n2,look st.aH n1,look st.aH n2 with
  |true,some (.cells _ [.d (.slice (.int .u8)) bs]),some (.cells _ [.d (.int .i64) k])=>
   aaW cx (aaV (bH (bH st n1) n2) (r (bH (bH st n1) n2))) (bH (bH st n1) n2) bs k p d body K
  |_,_,_ =>.ff
 |_ =>.ff
def wR(P:Program)(it:FuncId):Prop:=
 ∀(b1 b2:Nat) (a:Option Addr) (len cap k:Nat) (w:World),1<=k->k<=1000000000->len<=1000000000->len<=cap->(0<len->∃b o,a=some ⟨b,o,none⟩)->b1<w.heap.size->b2<w.heap.size->w.cell? ⟨b1,0,none⟩=some (.slice a len cap)->w.cell? ⟨b2,0,none⟩=some (.int .i64 k)->
  SeqStopsK ae 2 P it #[.pointer (some ⟨b1,0,none⟩),.pointer (some ⟨b2,0,none⟩)] (fun i:Nat =>#[mb a len k i])
   (fun A B=>B.cell? ⟨b1,0,none⟩=A.cell? ⟨b1,0,none⟩/\B.cell? ⟨b2,0,none⟩=A.cell? ⟨b2,0,none⟩) (fun xs=>xs=ah (gR len k)) (fun pre=>∃j,pre=ah j) (gR len k) w
def tl{t:Ty}(xs:List (D t))(k i:Nat):(fG xs k i).length=min k (xs.length-i*k):=by simp[fG]
section
variable{eT:TypeId}{X:Ext}
def Zm{bs:List (D (.int .u8))}{A:aK}{w:World}{v:Value}(h:VR eT Qn bs A w v) :
  ∃a cap,v=.slice a bs.length cap/\bs.length<=cap/\(0<bs.length->∃b o,a=some ⟨b,o,none⟩)/\∀k i,VR eT Qn (fG bs k i) A w (mb a bs.length k i):=by
 obtain⟨v',e,hbig,h⟩:=h.one rfl;cases e;rcases h with⟨rfl,a,c,rfl⟩|⟨b,o,cap,rfl,hc,h⟩
 ·refine⟨a,c,rfl,bx _,fun h=>absurd h (Nat.lt_irrefl _),fun k i=>VR.cZ rfl ⟨_,rfl,by simp[fG],.inl ⟨by simp[fG],a.map fun p=>{p with off:=p.off+i*k},0,by simp[mb]⟩⟩⟩
 ·refine⟨some ⟨b,o,none⟩,cap,rfl,hc,fun _=>⟨b,o,rfl⟩,fun k i=>VR.cZ rfl ⟨_,rfl,by rw[tl];omega,.inr ⟨b,o+i*k,min k (bs.length-i*k),by rw[tl];rfl,by rw[tl];exact af _,fun j y hj =>?_⟩⟩⟩
  have hj':bs[i*k+j]?=some y:=by
   unfold fG at hj;rw[List.getElem?_take]at hj;split at hj
   ·rwa [List.getElem?_drop]at hj
   ·cases hj
  obtain⟨us,h1,h2⟩:=h _ y hj';refine⟨us,h1,fun m u hm =>?_⟩;have:=h2 m u hm;rw[show o+i*k+j*(Ty.int ct).size+m=o+(i*k+j)*(Ty.int ct).size+m by simp[Ty.size];omega];exact this
end
section
variable{P:Program}{F:Fence}{n:Nat}
def VU{K:Act->World->Prop}{id:Nat}{ops:Array Oper}{o:Oper}{d q:Nat}(ho:ops.toList=[o])(hd:o.dst=some d)(hop:o.op=.assign (.tmp q))(hg:o.guard=none){a:Act}{w:World}(hF:∀f,F.fn f)
  (h:K (a.put (some d) (a.eval (.tmp q))) w):(Code.region id ops false).wpIn F n P (Exit.then K (fun _ _ _=>False)) a w:=by
 refine wpIn_region_list ?_;rw[ho];unfold wpListIn;rw[if_pos (by simp[Region.wanted,hg])];refine⟨fun f _=>hF f,?_⟩;rw[cp _ _ _ (by simp[hop])];have e:(execOp a.eval o).run P w=.ok (.value (a.eval (.tmp q))) w:=by unfold execOp;rw[hop];rfl
 rw[e];simp only[az,hd];exact h
end
def OJ{ps:List Tmp}{asg:Code}{p d:Nat}(h:B4 ps asg=some (p,d)):ps=[p]/\∃id ops o,asg=.region id ops false/\ops.toList=[o]/\o.dst=some d/\o.op=.assign (.tmp p)/\o.guard=none:=by
 unfold B4 at h;split at h
 ·split at h
  ·split at h
   ·split at h
    ·cases h
     rename_i hb _;have:=ax hb;subst this;exact⟨rfl,_,_,_,rfl,by assumption,by assumption,by assumption,by assumption⟩
    ·cases h
   ·cases h
  ·cases h
 ·cases h
def SO(D:Nat):Deferred:={target:=.collected D,args:=#[]}
def B5{a:Act}(h:a.defers=[]):n5 [] a=a:=by cases a;simp only at h;subst h;rfl
section
variable{X:Ext}{P:Program}{cx:Cx}
structure SP (cx:Cx) (X:Ext) (O:aK) (K:St->VC) (S:bQ) (a a':Act) (w':World) (D:Nat) (st':St) (loc':Nat->Loc):Prop where
 act:a'=n5 [SO D] a
 vc:(K st').holds
 iV:Good cx.eT X (aC O st' loc' w')
 tr:Tr S (aC O st' loc' w')
 env:iu cx.eT (aC O st' loc' w') st'.env a
 far:S.w.heap.size<=D
 mark:w'.heap[D]?=some (.deferred (some []))
 plain:p7 st'.aH=true
def QR(cx:Cx)(X:Ext)(O:aK)(K:Ex->St->VC)(S:bQ)(a:Act):Exit->Act->World->Prop
 |.normal,a',w'=>∃D st' loc',SP cx X O (K .normal) S a a' w' D st' loc'
 |.ret,a',w'=>∃D st' loc',SP cx X O (K .ret) S a a' w' D st' loc'
 |_,_,_=>False
def rq{st:St}:∀{l:List Nat} {n:Nat} {v:SV},n∈l->look st.env n=some v->look (pw st l) n=some v
 |[],_,_,h,_=>by simp at h
 |t :: r,n,v,h,hv=>by
  simp only[pw];by_cases e:t=n
  ·subst e
   rw[hv];simp only[cV,if_true]
  ·have hn:n∈r:=(a7.1 h).resolve_left fun h=>e h.symm
   cases look st.env t with
   |none=>exact rq hn hv
   |some u=>simp only[cV,if_neg e];exact rq hn hv
def Zn{an:lW}{st:St}{us:List Nat}{x:an.X}(hs:an.aY x=[])(hnr:sA an.keep an.refs=true){n:Nat}(hn:n∈an.keep){v:SV}(h:look st.env n=some v):look (gV an st us x).env n=some v:=by
 simp only[gV,s9,dZ,hs];split
 ·rename_i u hu
  obtain⟨k,hk,_⟩:=pU hu;exact absurd hn (xy hnr hk)
 ·simp only[look]
  exact rq hn h
def FV{O:aK}{an:np}{ν0:List Nat}{st1 st':St}{loc loc':Nat->Loc}{w W:World}{a:Act}{pre:List Nat}(g:Good cx.eT X (aC O st' loc' W))(hsz:a.tmps.size=cx.N)(hdf:a.defers=[])(henv:iu cx.eT (aC O st' loc' W) st'.env a)
  (ht:Tr (aC O st1 loc w) (aC O st' loc' W))(hkeep:∀n∈an.keep,∀v,look st1.env n=some v->∃u,look st'.env n=some u/\oP u v)(hf:∃ν,K2 an.Be st1 st' pre ν/\tj an.aU ν0 ν=true)(hB:sM an ν0 st1 pre=true) :
  ∃loc2,Good cx.eT X (aC O (iA an ν0 st1 pre) loc2 W)/\iu cx.eT (aC O (iA an ν0 st1 pre) loc2 W) (iA an ν0 st1 pre).env a/\Tr (aC O st1 loc w) (aC O (iA an ν0 st1 pre) loc2 W):=by
 simp only[sM,ab]at hB;obtain⟨h1,_,h3,h4⟩:=hB;obtain⟨ν,hf,hk⟩:=hf;obtain⟨loc2,m1,m2,m3⟩:=VT (an:=an.Be) (st:=st1) (st':=st') (O:=O) (loc:=loc') (w:=W) (loc0:=loc) (w0:=w) (a:=a) (W:=[]) (ν:=ν) pre h3 rL (fun n hn=>sV h4 hn)
  (fun i m hi=>by
   rcases sE hi with⟨o,o',k1,k2,k3,k4⟩|k
   ·rw[k1]at k2;cases k2
    refine .inr ⟨?_,o,k1,k3⟩;have hl:i<ν.length:=by rw[<-pr hf.get];exact bN k1
    rw[List.getElem?_eq_getElem hl];exact congrArg some (IC hk k1 k3 k4 (List.getElem?_eq_getElem hl))
   ·exact .inl k) g ⟨hsz,hdf,henv⟩ ht h1 hkeep hf
 exact⟨loc2,m1,m2.env,m3⟩
def Zo(hok:mW P cx X){it:FuncId}(hit:wR P it)(heg:∀args w,(callFunc it args).run P w=.ok (.enter it args) w){O:aK}{st:St}{loc:Nat->Loc}{w:World}{a:Act}{K:Ex->St->VC}{g:Operand}{ps:Array Tmp}{asg body:Code}{p d:Nat}
  (r:St->np)(hsh:B4 ps.toList asg=some (p,d))(hsb:mj body=true)(hpN:p<cx.N)(sN:d<cx.N)(hA:gX cx (aC O st loc w) st a)(gd:Good cx.eT X (aC O st loc w))(hO:fT O w)
  (h:(Zl cx it r g p d body st K).holds):(Code.rangeFunc g ps asg body).wpIn ae 3 P (QR cx X O K (aC O st loc w) a) a w:=by
 obtain⟨hps,id,ops,o,rfl,hops,hdst,hop,hgd⟩:=OJ hsh;unfold Zl at h;split at h
 case h_2=>exact h.elim
 rename_i f n1 n2 hev;split at h
 case h_2=>exact h.elim
 rename_i T1 bs T2 k hb h1 h2;simp only[ab,cu]at hb;have hf:=ax hb.1;subst hf;have hne:n1≠n2:=fun e=>by have h3:=hb.2;subst e;rw[Nat.beq_refl]at h3;cases h3
 obtain⟨st1,hst1⟩:∃s,s=bH (bH st n1) n2:=⟨_,rfl⟩
 rw[<-hst1]at h;generalize aaV st1 (r st1)=an at h;unfold aaW at h;split at h
 case h_2=>exact h.elim
 rename_i ν0 _;obtain⟨⟨hk1,hk2,hlen⟩,hfit,hbd,hend⟩:=h;obtain⟨x0,hinv0,hx0,hf0⟩:=FU hfit;subst hx0;obtain⟨kN,hkN⟩:∃kN:Nat,kN=bz k:=⟨_,rfl⟩
 have hkk:(k:Int)=(kN:Int):=by rw[hkN];exact(Int.toNat_of_nonneg (ba (by decide) hk1)).symm
 rw[<-hkN]at hbd hend;have hHB:∀pre,an.inv pre->sM an ν0 st1 pre=true/\∀i,pre.length<gR bs.length kN->(vc cx [] body 0 (Kf an ν0 st1 bs kN p d pre i) (rK an ν0 st1 K pre i)).holds:=by
  intro pre hp;have:=hbd pre hp;split at this
  ·rename_i e;exact⟨e,fun i hi=>this i hi⟩
  ·exact this.elim
 have hx:=cA hA.env g;rw[hev]at hx;obtain⟨hgv,hcap⟩:=hx;obtain⟨b1,vs1,hl1,hbs1,hheap1,hc1⟩:=(gd.obj n1 _ h1).2;obtain⟨b2,vs2,hl2,hbs2,hheap2,hc2⟩:=(gd.obj n2 _ h2).2;cases hc1 with
 |cons hv1 _ hr1=>
 cases hr1;cases hc2 with
 |cons hv2 _ hr2=>
 cases hr2;rename_i v1 _ v2 _;obtain⟨a0,cap,rfl,hcap1,hsome,hpart⟩:=Zm hv1;obtain⟨rfl,_⟩:=dG.1 hv2;have hb1:b1<w.heap.size:=(Array.getElem?_eq_some_iff.1 hheap1).1;have hb2:b2<w.heap.size:=(Array.getElem?_eq_some_iff.1 hheap2).1;have hcell1:w.cell? ⟨b1,0,none⟩=some (.slice a0 bs.length cap):=by rw[cell_of_row w b1 _ _ _ (0,0) hheap1];rfl
 have hcell2:w.cell? ⟨b2,0,none⟩=some (.int .i64 kN):=by rw[cell_of_row w b2 _ _ _ (0,0) hheap2,<-hkk];rfl
 obtain⟨tr1,g1⟩:=oN (cx:=cx) gd n1;obtain⟨tr2,g2⟩:=oN (cx:=cx) g1 n2;rw[<-hst1]at tr2 g2;have trS:=tr1.trans tr2;have hlook:∀n oc,look st1.aH n=some oc->n≠n1/\n≠n2/\look st.aH n=some oc:=by
  intro n oc hn;rw[hst1]at hn;simp only[bH,nB]at hn;split at hn
  ·cases hn
  ·split at hn
   ·cases hn
   ·rename_i e1 e2;exact⟨fun e=>e2 e.symm,fun e=>e1 e.symm,hn⟩
 have hno1:∀{loc' W pre},Tr (aC O st1 loc w) (aC O (iA an ν0 st1 pre) loc' W)->¬(aC O (iA an ν0 st1 pre) loc' W).owns b1:=by
  intro loc' W pre t ho;rcases t.own b1 ho with⟨n,oc,k1,k2⟩|k
  ·obtain⟨e1,_,k3⟩:=hlook n oc k1
   exact e1 (gd.apart n n1 oc _ b1 k3 h1 k2 (by show b1∈((aC O st loc w).loc n1).bs;rw[hbs1];simp))
  ·exact absurd hb1 (b4.2 k)
 have hno2:∀{loc' W pre},Tr (aC O st1 loc w) (aC O (iA an ν0 st1 pre) loc' W)->¬(aC O (iA an ν0 st1 pre) loc' W).owns b2:=by
  intro loc' W pre t ho;rcases t.own b2 ho with⟨n,oc,k1,k2⟩|k
  ·obtain⟨_,e1,k3⟩:=hlook n oc k1
   exact e1 (gd.apart n n2 oc _ b2 k3 h2 k2 (by show b2∈((aC O st loc w).loc n2).bs;rw[hbs2];simp))
  ·exact absurd hb2 (b4.2 k)
 have hgbs:∀b∈X.Hi,b<w.heap.size:=fun b hb=>X.Ki gd.lU.1 b hb
 have hpartW:∀{loc' W pre} (_:Tr (aC O st1 loc w) (aC O (iA an ν0 st1 pre) loc' W)) i,VR cx.eT Qn (fG bs kN i) (aC O (iA an ν0 st1 pre) loc' W).A W (mb a0 bs.length kN i):=fun t i=>
  VR.frame (hpart kN i) (trS.trans t).cell
 have hv0:n5 [] a=a:=B5 hA.defers;have hplainH:∀{pre},sM an ν0 st1 pre=true->p7 (iA an ν0 st1 pre).aH=true:=fun hB=>by simp only[sM,ab]at hB;exact hB.2.1
 have hO1:∀{W:World},w.heap.size<=W.heap.size->fT O W:=fun hs=>hO.tr hs
 refine wpIn_rangeFunc_ownG (F:=ae) (n:=3) rfl (by decide) (gf:=f) (lb:=#[.pointer (some ⟨b1,0,none⟩),.pointer (some ⟨b2,0,none⟩)]) (by rw[hgv];simp only[List.map];rw[hl1,hl2]) trivial heg
  (hit b1 b2 a0 bs.length cap kN w (bb.1 (by rw[<-hkk];exact hk1)) (bb.1 (by rw[<-hkk];exact hk2)) hlen hcap1 hsome hb1 hb2 hcell1 hcell2)
  (fun h k=>⟨k.1.trans h.1,k.2.trans h.2⟩)
  (fun W l o o' hl ho hc _=>⟨World.cell?_of_block (cw (by simp only;omega)),World.cell?_of_block (cw (by simp only;omega))⟩)
  (di _ _) (fun x=>by rw[<-Array.length_toList (xs:=ps),hps];rfl)
  (fun pre W=>∃loc',an.inv pre/\sM an ν0 st1 pre=true/\Good cx.eT X (aC O (iA an ν0 st1 pre) loc' W)/\iu cx.eT (aC O (iA an ν0 st1 pre) loc' W) (iA an ν0 st1 pre).env a/\Tr (aC O st1 loc w) (aC O (iA an ν0 st1 pre) loc' W))
  (fun c pre W=>c=.ret/\∃st' loc',((∃j,pre=ah j)->(K .ret st').holds)/\p7 st'.aH=true/\Good cx.eT X (aC O st' loc' W)/\iu cx.eT (aC O st' loc' W) st'.env a/\Tr (aC O st1 loc w) (aC O st' loc' W))
  ?_ ?_ ?_ (fun x=>(a.put (some p) (mb a0 bs.length kN x)).put (some d) (mb a0 bs.length kN x)) ?_ ?_ ?_ ?_
 ·rintro pre A B row ⟨loc',hi,hB,g',he',t'⟩ hg hr
  have bk:=ur.of hg hr;exact⟨loc',hi,hB,Bd g' bk (fun n oc hn=>ov (hplainH hB) hn) hgbs,D3 he' bk,GV t' bk (af _)⟩
 ·rintro c pre A B row ⟨rfl,st',loc',hk,hpl,g',he',t'⟩ hg hr
  have bk:=ur.of hg hr;exact⟨rfl,st',loc',hk,hpl,Bd g' bk (fun n oc hn=>ov hpl hn) hgbs,D3 he' bk,GV t' bk (af _)⟩
 ·have hB:=(hHB [] hinv0).1
  obtain⟨loc2,m1,m2,m3⟩:=FV (an:=an) (pre:=[]) g2 hA.size hA.defers (fun n v hv=>by
   rw[hst1]at hv;exact(hA.env n v hv).tr trS) (Tr.refl _) (fun n _ v hv=>⟨v,hv,lK v⟩) hf0 hB
  exact⟨loc2,hinv0,hB,m1,m2,m3⟩
 ·intro l x W K' hK'
  refine VU hops hdst hop hgd (fun _=>trivial) ?_;have e:({tmps:=(ps.zip #[mb a0 bs.length kN x]).foldl (fun t (p,v)=>t.setIfInBounds p v) a.tmps,defers:=[]}:Act)=a.put (some p) (mb a0 bs.length kN x):=by
   have:ps= #[p]:=by rw[<-cy (xs:=ps),hps]
   rw[this];refine Eq.trans ?_ (congrArg (fun z:Act=>z.put (some p) (mb a0 bs.length kN x)) hv0);rw[show(#[p]:Array Tmp).zip #[mb a0 bs.length kN x]= #[(p,mb a0 bs.length kN x)] by simp[Array.zip]];rfl
  rw[e];have e2:(a.put (some p) (mb a0 bs.length kN x)).eval (.tmp p)=mb a0 bs.length kN x:=by
   have hp':p<a.tmps.size:=by rw[hA.size];exact hpN
   simp[Act.put,Act.eval,bw,hp']
  rw[e2];exact hK'
 ·rintro l pre x W ⟨loc',hi,hB,g',he',t'⟩ hlt
  have hvc:=(hHB pre hi).2 x hlt;have hpv:=hpartW t' x;have hA1:gX cx (aC O (iA an ν0 st1 pre) loc' W) {iA an ν0 st1 pre with env:=(p,.s (.one (.d Qn (fG bs kN x)))) :: (iA an ν0 st1 pre).env} (a.put (some p) (mb a0 bs.length kN x)):=
   gX.put (st:=iA an ν0 st1 pre) ⟨hA.size,hA.defers,he'⟩ (Tr.refl _) rfl hpN hpv
  have hA2:gX cx (aC O (iA an ν0 st1 pre) loc' W) (Kf an ν0 st1 bs kN p d pre x) ((a.put (some p) (mb a0 bs.length kN x)).put (some d) (mb a0 bs.length kN x)):=
   gX.put hA1 (Tr.refl _) rfl sN hpv
  have hrun:=Bc (n:=3-1-1) (st:=Kf an ν0 st1 bs kN p d pre x) hok (F:=ae.inRound l) (.inr ⟨l,rfl⟩) [] body 0 hsb hA2 g' (hO1 t'.size) hvc;rw[B5 hA2.defers]at hrun;refine wpIn_mono hrun ?_;rintro e a2 W2 ⟨a',rfl,_,hq⟩;have keeps:∀{st2 loc2},Tr (aC O (iA an ν0 st1 pre) loc' W) (aC O st2 loc2 W2)->KeepsFrom w.heap.size W W2:=fun k3=>
   ⟨k3.size,fun k o hk hko ho=>(k3.block k (Array.getElem?_eq_some_iff.1 hko).1 (IB g' (fun n oc hn=>ov (hplainH hB) hn) hko ho)).trans hko⟩
  cases e with
  |normal=>
   obtain⟨st2,loc2,k1,k2,k3,k4,k5⟩:=hq;obtain⟨x1,i2,hx1,hf1⟩:=FU k1;subst hx1;have hB2:=(hHB _ i2).1;have hnr:sA an.Be.keep an.Be.refs=true:=by simp only[sM,pT,ab]at hB;exact hB.1.2.2.2
   obtain⟨loc2,m1,m2,m3⟩:=FV (an:=an) (st':={st2 with env:=(iA an ν0 st1 pre).env}) (pre:=pre++[x]) k2 hA.size hA.defers (he'.tr k3) (t'.trans k3) (fun n hn v hv=>⟨v,Zn (an:=an.Be) rfl hnr hn hv,lK v⟩) hf1 hB2;exact⟨keeps k3,⟨World.cell?_of_block (k3.block b1 (ag hb1 t'.size) (hno1 t')),World.cell?_of_block (k3.block b2 (ag hb2 t'.size) (hno2 t'))⟩,loc2,i2,hB2,m1,m2,m3⟩
  |ret=>
   obtain⟨st2,loc2,k1,k2,k3,k4,k5⟩:=hq;simp only[rK]at k1;split at k1
   ·rename_i hpl
    exact⟨keeps k3,rfl,_,loc2,fun⟨j,hj⟩=>k1 (by
     cases j with
     |zero=>simp at hj
     |succ j=>
      rw[List.range_succ]at hj;obtain⟨e1,e2⟩:=List.append_inj' hj rfl;simp at e2;rw[e2];exact e1),hpl,k2,he'.tr k3,t'.trans k3⟩
   ·exact k1.elim
  |exit i=>obtain⟨_,_,k1,_⟩:=hq;exact k1.elim
  |goto l=>exact hq.elim
  |panic c=>exact hq.elim
  |outgrown=>exact hq.elim
 ·rintro D xs W hD rfl ⟨loc',hi,hB,g',he',t'⟩ hm
  refine⟨D,_,loc',⟨?_,hend hi,g',trS.trans t',he',hD,hm,hplainH hB⟩⟩;rw[hA.defers];rfl
 ·rintro D c pre W hD hsp ⟨rfl,st',loc',hk,hpl,g',he',t'⟩ hm
  refine wpIn_ret ⟨D,st',loc',⟨?_,hk hsp,g',trS.trans t',he',hD,hm,hpl⟩⟩;rw[hA.defers];rfl
end
def Qo(cx:Cx)(it:FuncId)(ra:List (Nat×(St->np))):Code->St->(Ex->St->VC)->VC
 |.seq a b,st,K=>match mj b with
  |true=>Qo cx it ra a st fun e st'=>match e with
   |.normal=>vc cx [] b 0 st' K
   |e=>K e st'
  |false=>match mj a with
   |true=>vc cx [] a 0 st fun e st'=>match e with
    |.normal=>Qo cx it ra b st' K
    |e=>K e st'
   |false =>.ff
 |.block id (.rangeFunc g ps asg body),st,K=>match B4 ps.toList asg,look ra id with
  |some (p,d),some r=>match Nat.blt p cx.N&&(Nat.blt d cx.N&&mj body)with
   |true=>Zl cx it r g p d body st K
   |false =>.ff
  |_,_ =>.ff
 |_,_,_ =>.ff
def aaX(cx:Cx)(it:FuncId)(ra:List (Nat×(St->np)))(res:List ResultVar)(c:Code)(st:St)(K:List dC->St->VC):VC:=
 Qo cx it ra c st fun e st'=>match e with
  |.exit _ =>.ff
  |_=>match p7 st'.aH with
   |true=>sb cx st' res fun vs=>K vs st'
   |false =>.ff
def aea:Exit->Option Ex
 |.normal=>some .normal
 |.exit n=>some (.exit n)
 |.ret=>some .ret
 |_=>none
def wS(B:Nat)(S:bQ)(ds:List Deferred):Prop:=ds=[]\/∃D,ds=[SO D]/\B<=D/\S.w.heap[D]?=some (.deferred (some []))/\¬S.owns D
section
variable{X:Ext}{P:Program}{cx:Cx}
def wS.tr{B:Nat}{S S':bQ}{ds:List Deferred}(h:wS B S ds)(t:Tr S S'):wS B S' ds:=by
 rcases h with h|⟨D,h1,h2,h3,h4⟩
 ·exact .inl h
 ·have hlt:D<S.w.heap.size:=(Array.getElem?_eq_some_iff.1 h3).1
  exact .inr ⟨D,h1,h2,(t.block D hlt h4).trans h3,fun ho=>(t.own D ho).elim h4 fun h=>absurd hlt (b4.2 h)⟩
structure Zp (cx:Cx) (X:Ext) (O:aK) (K:St->VC) (S:bQ) (a':Act) (w':World) (ds:List Deferred) (a2:Act) (st':St) (loc':Nat->Loc):Prop where
 act:a'=n5 ds a2
 rel:gX cx (aC O st' loc' w') st' a2
 vc:(K st').holds
 iV:Good cx.eT X (aC O st' loc' w')
 tr:Tr S (aC O st' loc' w')
 marks:wS S.w.heap.size (aC O st' loc' w') ds
def QE(cx:Cx)(X:Ext)(O:aK)(K:Ex->St->VC)(S:bQ):Exit->Act->World->Prop:=fun e a' w'=>∃x,aea e=some x/\∃ds a2 st' loc',Zp cx X O (K x) S a' w' ds a2 st' loc'
def SQ{O:aK}{K:Ex->St->VC}{W:List Nat}{st1:St}{S0 S1:bQ}{ds:List Deferred}(t:Tr S0 S1)(hm:wS S0.w.heap.size S1 ds){e:Exit}{a:Act}{w:World}(h:C2 ds (kT cx X O K W st1 S1) e a w):QE cx X O K S0 e a w:=by
 obtain⟨a',rfl,hb,hq⟩:=h;cases e with
 |normal=>obtain⟨st',loc',k1,k2,k3,k4,_⟩:=hq;exact⟨_,rfl,ds,a',st',loc',rfl,k4,k1,k2,t.trans k3,hm.tr k3⟩
 |exit i=>obtain⟨st',loc',k1,k2,k3,k4,_⟩:=hq;exact⟨_,rfl,ds,a',st',loc',rfl,k4,k1,k2,t.trans k3,hm.tr k3⟩
 |ret=>obtain⟨st',loc',k1,k2,k3,k4,_⟩:=hq;exact⟨_,rfl,ds,a',st',loc',rfl,k4,k1,k2,t.trans k3,hm.tr k3⟩
 |goto l=>exact hq.elim
 |panic c=>exact hq.elim
 |outgrown=>exact hq.elim
def QE.mono{O:aK}{K:Ex->St->VC}{S0 S1:bQ}(t:Tr S0 S1){e:Exit}{a:Act}{w:World}(h:QE cx X O K S1 e a w):QE cx X O K S0 e a w:=by
 obtain⟨x,hx,ds,a2,st',loc',q⟩:=h;refine⟨x,hx,ds,a2,st',loc',q.act,q.rel,q.vc,q.iV,t.trans q.tr,?_⟩;rcases q.marks with h|⟨D,h1,h2,h3⟩
 ·exact .inl h
 ·exact .inr ⟨D,h1,al t.size h2,h3⟩
def VV(hok:mW P cx X){it:FuncId}(hit:wR P it)(heg:∀args w,(callFunc it args).run P w=.ok (.enter it args) w){O:aK}(ra:List (Nat×(St->np))):∀(c:Code) {st:St} {loc:Nat->Loc} {w:World} {a:Act} {K:Ex->St->VC},
  gX cx (aC O st loc w) st a->Good cx.eT X (aC O st loc w)->fT O w->(Qo cx it ra c st K).holds->c.wpIn ae 3 P (QE cx X O K (aC O st loc w)) a w:=by
 intro c;induction c with
 |seq c1 c2 ih1 ih2=>
  intro st loc w a K hA g hO h;simp only[Qo]at h;split at h
  ·rename_i hs2
   refine wpIn_seq (wpIn_mono (ih1 hA g hO h) ?_);rintro e a1 w1 ⟨x,hx,ds,a2,st',loc',q⟩;cases e with
   |normal=>
    cases hx;obtain⟨rfl,q2,q3,q4,q5,q6⟩:=q;exact wpIn_mono (Bc (n:=3) hok (F:=ae) (.inl rfl) ds c2 0 hs2 q2 q4 (hO.tr q5.size) q3) fun e a w hq=>SQ q5 q6 hq
   |exit i=>cases hx;exact⟨_,rfl,ds,a2,st',loc',q⟩
   |ret=>cases hx;exact⟨_,rfl,ds,a2,st',loc',q⟩
   |goto l=>cases hx
   |panic c=>cases hx
   |outgrown=>cases hx
  ·split at h
   ·rename_i hs1
    have hr:=Bc (n:=3) hok (F:=ae) (.inl rfl) [] c1 0 hs1 hA g hO h;rw[B5 hA.defers]at hr;refine wpIn_seq (wpIn_mono hr ?_);rintro e a1 w1 hq;cases e with
    |normal=>
     obtain⟨a',rfl,hb,st',loc',k1,k2,k3,k4,_⟩:=hq;show c2.wpIn _ _ _ _ (n5 [] a') w1;rw[B5 hb];exact wpIn_mono (ih2 k4 k2 (hO.tr k3.size) k1) fun e a w hq=>hq.mono k3
    |exit i=>exact SQ (K:=K) (Tr.refl _) (.inl rfl) hq
    |ret=>exact SQ (K:=K) (Tr.refl _) (.inl rfl) hq
    |goto l=>exact hq.choose_spec.2.2.elim
    |panic c=>exact hq.choose_spec.2.2.elim
    |outgrown=>exact hq.choose_spec.2.2.elim
   ·exact h.elim
 |block id b ih=>
  intro st loc w a K hA g hO h;cases b with
  |rangeFunc gf ps asg body=>
   simp only[Qo]at h;split at h
   ·rename_i p d r hsh _
    split at h
    ·rename_i hb
     simp only[ab]at hb;refine wpIn_block (wpIn_mono (Zo hok hit heg r hsh hb.2.2 (nR hb.1) (nR hb.2.1) hA g hO h) ?_);have fin:∀{x:Ex} {a':Act} {w':World},(∃D st' loc',SP cx X O (K x) (aC O st loc w) a a' w' D st' loc')->∃ds a2 st' loc',Zp cx X O (K x) (aC O st loc w) a' w' ds a2 st' loc':=by
      rintro x a' w' ⟨D,st',loc',q⟩;exact⟨[SO D],a,st',loc',q.act,⟨hA.size,hA.defers,q.env⟩,q.vc,q.iV,q.tr,.inr ⟨D,rfl,q.far,q.mark,IB q.iV (fun n oc hn=>ov q.plain hn) q.mark rfl⟩⟩
     intro e a' w' hq;cases e with
     |normal=>exact⟨_,rfl,fin hq⟩
     |ret=>exact⟨_,rfl,fin hq⟩
     |exit i=>exact hq.elim
     |goto l=>exact hq.elim
     |panic c=>exact hq.elim
     |outgrown=>exact hq.elim
    ·exact h.elim
   ·exact h.elim
  |_=>exact h.elim
 |_=>intro st loc w a K hA g hO h;exact h.elim
def VW(hok:TyOK P cx){O:aK}{st:St}{loc:Nat->Loc}{w:World}{a:Act}(g:Good cx.eT X (aC O st loc w))(he:iu cx.eT (aC O st loc w) st.env a){fn:Func}{K:List dC->VC}(h:(sb cx st fn.results.toList K).holds) :
  ∃vs us,(K vs).holds/\dE cx.eT (aC O st loc w) vs us/\(results fn a.tmps).run P w=.ok (xA us) w:=by
 obtain⟨vs,us,m1,m2,m3⟩:=Cw (P:=P) hok g he h;refine⟨vs,us,m1,m2,?_⟩;have hm:(fn.results.mapM (tT a.tmps):Sem (Array Value)).run P w=.ok us.toArray w:=by
  rw[<-cy (xs:=fn.results),List.mapM_toArray,Sem.run_map,m3];rfl
 have he:results fn a.tmps=(do
   let xs <-fn.results.mapM (tT a.tmps)
   return if h:xs.size=1 then xs[0]else .tuple xs):=by
  unfold results;congr 1
 rw[he,Sem.run_bind,hm];simp only[Result.andThen_ok,Sem.run_pure]
 match us with
 |[]=>rfl
 |[u]=>rfl
 |_ :: _ :: _=>rfl
def Mm(hok:mW P cx X){it:FuncId}(hit:wR P it)(heg:∀args w,(callFunc it args).run P w=.ok (.enter it args) w){f:FuncId}{fn:Func}{c:Code}(hf:P.funcs[f]?=some fn)(hb:fn.body=some c)(hN:cx.N=fn.ntmps)(ra:List (Nat×(St->np))){O:aK}{st:St}{loc:Nat->Loc}{w:World}
  {args:Array Value}{K:List dC->St->VC}(hsz:args.size<=fn.ntmps)(g:Good cx.eT X (aC O st loc w))(hO:fT O w)
  (henv:∀t sv,look st.env t=some sv->∃v,args[t]?=some v/\eL cx.eT (aC O st loc w) sv v)
  (h:(aaX cx it ra fn.results.toList c st K).holds) :
  Calls P f args w fun e w'=>∃vs us st' loc',e=.returned (xA us)/\(K vs st').holds/\dE cx.eT (aC O st' loc' w') vs us/\Good cx.eT X (aC O st' loc' w')/\Tr (aC O st loc w) (aC O st' loc' w'):=by
 refine callsIn_wide.1 (callsIn_of_wp_marks (n:=3) hf hb trivial ?_);have hA:gX cx (aC O st loc w) st {tmps:=args++Array.replicate (fn.ntmps-args.size) undef,defers:=[]}:=by
  refine⟨by simp[hN];omega,rfl,fun t sv ht =>?_⟩;obtain⟨v,hv,hr⟩:=henv t sv ht;have hlt:t<args.size:=by
   rcases Nat.lt_or_ge t args.size with hh|hh
   ·exact hh
   ·rw[Array.getElem?_eq_none hh]at hv;cases hv
  rw[bw,Array.getElem?_append,if_pos hlt,hv];exact hr
 refine wpIn_mono (VV hok hit heg ra c hA g hO h) ?_;have fin:∀{a':Act} {w':World} {ds:List Deferred} {a2:Act} {st':St} {loc':Nat->Loc},Zp cx X O (fun st'=>match p7 st'.aH with
   |true=>sb cx st' fn.results.toList fun vs=>K vs st'
   |false =>.ff) (aC O st loc w) a' w' ds a2 st' loc'->
   LeavesInM ae 3 P fn a'.tmps (fun e w'=>∃vs us st' loc',e=.returned (xA us)/\(K vs st').holds/\dE cx.eT (aC O st' loc' w') vs us/\Good cx.eT X (aC O st' loc' w')/\Tr (aC O st loc w) (aC O st' loc' w')) a'.defers .returning w':=by
  rintro a' w' ds a2 st' loc' ⟨rfl,q2,q3,q4,q5,q6⟩;split at q3
  case h_2=>exact q3.elim
  rename_i hpl;rcases q6 with rfl|⟨D,rfl,k1,k2,k3⟩
  ·obtain⟨vs,us,m1,m2,m3⟩:=VW hok.toTyOK q4 q2.env q3
   exact⟨_,m3,vs,us,st',loc',rfl,m1,m2,q4,q5⟩
  ·have bk:ur w.heap.size w' (w'.putObj D (.deferred none)):=ur.of (grownBy_putObj' w' D _) (fun r e=>by cases e;exact⟨k1,_,k2,rfl⟩)
   have g':Good cx.eT X (aC O st' loc' (w'.putObj D (.deferred none))):=Bd q4 bk (fun n oc hn=>ov hpl hn) (fun b hb=>X.Ki g.lU.1 b hb);have t':Tr (aC O st loc w) (aC O st' loc' (w'.putObj D (.deferred none))):=GV q5 bk (af _);have e':iu cx.eT (aC O st' loc' (w'.putObj D (.deferred none))) st'.env a2:=D3 q2.env bk;obtain⟨vs,us,m1,m2,m3⟩:=VW hok.toTyOK g' e' q3;refine⟨by simp,.inl ⟨D,_,rfl,run_takeDeferred k2,?_⟩⟩;exact⟨_,m3,vs,us,st',loc',rfl,m1,m2,g',t'⟩
 rintro e a' w' ⟨x,hx,ds,a2,st',loc',q⟩;cases e with
 |normal=>cases hx;exact fin q
 |ret=>cases hx;exact fin q
 |exit i=>cases hx;exact q.vc.elim
 |goto l=>cases hx
 |panic c=>cases hx
 |outgrown=>cases hx
variable{aU:List Ob}{args:List Cl}
def GW(B:Cx)(Γ:List (FuncId×(Bool×aX)))(it:FuncId)(fn:Func)(ra:List (Nat×(St->np)))(aU:List Ob)(args:List Cl)(alts:List (Alt aU args))(a:CD args)(x:PD aU):VC:=
 aaX (sU B Γ fn.ntmps) it ra fn.results.toList (codeOf fn) (mh aU args a x) fun vs st'=>uO a x vs st' alts
def GX{B:Cx}{Γ:List (FuncId×(Bool×aX))}(hok:bL P B X Γ){it:FuncId}(hit:wR P it){fi:Func}(hfi:P.funcs[it]?=some fi)(hgi:q7 fi 3=true){f:FuncId}{fn:Func}(hf:P.funcs[f]?=some fn)(hg:q7 fn args.length=true)(ra:CD args->PD aU->List (Nat×(St->np)))
  {pre:CD args->PD aU->Prop}{alts:List (Alt aU args)}(h:∀a x,fM args a->pre a x->(GW B Γ it fn (ra a x) aU args alts a x).holds) :
  bY P B.eT X f false (aW aU args pre alts):=by
 simp only[q7,ab,cu]at hg hgi;obtain⟨⟨h1,h2⟩,h3⟩:=hg;obtain⟨c,hc⟩:=cz.1 h1;have heg:∀args w,(callFunc it args).run P w=.ok (.enter it args) w:=fun args w=>zT hfi (by obtain⟨ci,hci⟩:=cz.1 hgi.1.1;rw[hci];rfl) hgi.1.2 args w
 refine⟨⟨fn,hf,by rw[hc];rfl,h2⟩,fun O st loc w asg vs K hK g hO ha =>?_⟩;unfold aW at hK;obtain⟨t1,g1,e1,k1⟩:=xE args asg g;simp only at hK;split at hK
 case h_2=>exact hK.elim
 rename_i ν hν;split at hK
 case h_2=>exact hK.elim
 rename_i a x hnd hga hx;obtain⟨hp,hpre,hK⟩:=Dx hK;obtain⟨hp1,hp2⟩:=kB.1 hp;refine(HI (f:=f) (B:=B) (pre:=pre) g1 hO (k1 vs ha) hnd hga hx hp1 hp2 hpre hK fun hwf O' loc0 g0 hOin' hargs hlen =>?_).mono ?_
 ·have hcode:codeOf fn=c:=by unfold codeOf;rw[hc];rfl
  have hvc:=h a x hwf hpre;unfold GW at hvc;rw[hcode]at hvc;exact Mm (X:=X) (hok fn.ntmps) hit heg hf hc (by rfl) (ra a x) (O:=O') (loc:=loc0) (w:=w) (args:=vs.toArray) (st:=mh aU args a x)
   (by rw[List.size_toArray,hlen];exact Nat.le_of_ble_eq_true h3) g0 hOin'
   (fun t sv ht=>by
    obtain⟨_,v,k1,k2⟩:=vB 0 hargs t sv ht;exact⟨v,by simpa using k1,k2⟩) hvc
 ·rintro e w' ⟨v,sv,st',loc',q1,q2,q3,q4,q5,q6⟩
  exact⟨v,sv,st',loc',q1,q2,q3.trans e1,(fun hq=>by cases hq),q4,t1.trans q5,q6⟩
end
end Go.Vg

namespace Go.Mrl
open Go.Vg
def eS(l:List (D aB))(s:aD):Int:=match l.findIdx? (fun e=>decide (e.1=s))with
 |some i=>(i:Int)
 |none =>-1
def rr{l:List (D aB)}{s:aD}(h:∀j,j<l.length->(nth aB l j).1≠s):eS l s= -1:=by
 unfold eS;rw[List.findIdx?_eq_none_iff.2 fun e he=>by
  obtain⟨j,hj,rfl⟩:=gT (t:=aB) he;exact decide_eq_false (h j hj)]
def rU{l:List (D aB)}{s:aD}{i:Nat}(hi:i<l.length)(h:∀j,j<i->(nth aB l j).1≠s)(he:(nth aB l i).1=s):eS l s=(i:Int):=by
 unfold eS;have hn:∀j (hj:j<l.length),l[j]=nth aB l j:=fun j hj=>by unfold nth;rw[List.getD_eq_getElem?_getD,List.getElem?_eq_getElem hj];rfl
 rw[(List.findIdx?_eq_some_iff_getElem (xs:=l) (p:=fun e=>decide (e.1=s)) (i:=i)).2 ⟨hi,by rw[hn i hi];exact decide_eq_true he,fun j hj=>by
  rw[hn j (by omega)];simp only[decide_eq_true_eq];exact h j hj⟩]
def yn(n:Int):Int:=bh .u8 n
def lG(n:Int):aD:=bytesOf [yn n,yn (n.fdiv (2^8)),yn (n.fdiv (2^16)),yn (n.fdiv (2^24))]
def gM(a b:Int):aD:=[83]++lG a++lG b
def u7(n:Int):(lG n).length=4:=by simp[lG,bytesOf]
def IE(a b:Int):(gM a b).length=9:=by simp[gM,u7]
def VX(a b:Int):Int:=bh .i64 (b5 bj.bits a ||| b5 bj.bits b).toNat
def VY(a:Int)(n:Nat):Int:=bh .i64 (a*2^n)
def j9(s:aD):Int:=VX (VX (VX ((bR s 0).toNat:Int) (VY ((bR s 1).toNat:Int) 8)) (VY ((bR s 2).toNat:Int) 16)) (VY ((bR s 3).toNat:Int) 24)
def nq:List (D aB)->Int
 |[]=>0
 |e :: r=>if bE e≠0 then bE e else nq r
def gO(l:List (D aB)):aD:=l.flatMap hH
def eK(l:List (D aB)):aD×aS:=if nq l≠0 then([],aL (nq l))else(gO l,.nil)
def Qp:∀{l:List (D aB)} {i:Nat},(∀j,j<i->bE (nth aB l j)=0)->i<l.length->bE (nth aB l i)≠0->nq l=bE (nth aB l i)
 |[],i,_,h,_=>by simp at h
 |e :: r,0,_,_,h=>by unfold nq;rw[if_pos (show bE e≠0 from h)];rfl
 |e :: r,i+1,h,h1,h2=>by
  unfold nq;rw[if_neg (by have:=h 0 (by omega);exact not_not_intro this)];exact Qp (l:=r) (i:=i) (fun j hj=>h (j+1) (by omega)) (by simpa using h1) h2
def IF:∀{l:List (D aB)},(∀j,j<l.length->bE (nth aB l j)=0)->nq l=0
 |[],_=>rfl
 |e :: r,h=>by
  unfold nq;rw[if_neg (by have:=h 0 (by simp);exact not_not_intro this)];exact IF (l:=r) fun j hj=>h (j+1) (by simp;omega)
def Mn:∀{l:List (D aB)},nq l=0->∀e∈l,bE e=0
 |[],_,_,h=>by simp at h
 |e :: r,hb,x,hx=>by
  unfold nq at hb;split at hb
  ·rename_i h;exact absurd hb h
  ·rename_i h
   rcases a7.1 hx with rfl|hx
   ·exact b6.1 h
   ·exact Mn hb x hx
def VZ{l:List (D aB)}{i:Nat}(h:i<l.length):gO (l.take (i+1))=gO (l.take i)++hH (nth aB l i):=by
 unfold gO;rw[gI (t:=aB) h];simp
def V0{e:D aB}(h:bE e=0):(hH e).length<=2753:=by
 have:=(nn h).DM e.2.2.1.length;unfold hH th;rw[ad];simp;omega
def D4:∀{l:List (D aB)},(∀e∈l,bE e=0)->(gO l).length<=2753*l.length
 |[],_=>by simp[gO]
 |e :: r,h=>by
  have h1:=V0 (h e (by simp));have h2:=D4 (l:=r) fun x hx=>h x (by simp[hx])
  have h3:gO (e :: r)=hH e++gO r:=rfl;rw[h3,ad,ao];omega
def V1{l:List (D aB)}{i:Nat}(hq:∀j,j<i->bE (nth aB l j)=0)(hi:i<l.length)(h:(dY (nth aB l i)).2.isNil=false):([],(dY (nth aB l i)).2)=eK l:=by
 have hf:bE (nth aB l i)≠0:=fun e=>by rw[Mi,e]at h;cases h
 unfold eK;rw[Qp hq hi hf,if_pos hf,Mi]
def Zq{l:List (D aB)}{i:Nat}(hq:∀j,j<i->bE (nth aB l j)=0)(hi:¬i<l.length):(gO (l.take i),aS.nil)=eK l:=by
 unfold eK;rw[IF fun j hj=>hq j (by omega),if_neg (by decide),List.take_of_length_le (by omega)]
def V2{l:List (D aB)}{i:Nat}(h:i<l.length)(ht:(dY (nth aB l i)).2.isNil=true):gO (l.take (i+1))=gO (l.take i)++(dY (nth aB l i)).1:=by
 rw[VZ h,(yl ht).2]
def V3{l:List (D aB)}{i:Nat}(hl:l.length<=100)(hi:i<l.length)(hq:∀j,j<i->bE (nth aB l j)=0):(gO (l.take i)).length<=275300:=by
 have h1:∀e∈l.take i,bE e=0:=fun e he=>by
  obtain⟨j,hj,rfl⟩:=gT (t:=aB) he;rw[bc]at hj;rw[DH (t:=aB) (by omega)];exact hq j (by omega)
 have h2:=D4 h1;rw[bc]at h2;omega
def n7(bs:List Int):Dk->Int->List Nat->Dk×Int
 |d,_,[]=>(d,0)
 |d,s,i :: r=>if(bZ d s (bytesOf (fG (t:=.int .u8) bs 64 i))).2=0 then n7 bs (bZ d s (bytesOf (fG (t:=.int .u8) bs 64 i))).1 (s+1) r else bZ d s (bytesOf (fG (t:=.int .u8) bs 64 i))
def Mo(bs:List Int)(i:Nat):∀(pre:List Nat) (d:Dk) (s:Int),(n7 bs d s pre).2=0->
  n7 bs d s (pre++[i])=bZ (n7 bs d s pre).1 (s+pre.length) (bytesOf (fG (t:=.int .u8) bs 64 i))
 |[],d,s,_=>by
  simp only[c6,n7,c7];rw[show s+((0:Nat):Int)=s by omega];split
  ·rename_i h
   exact aw rfl h.symm
  ·rfl
 |j :: r,d,s,h=>by
  simp only[b7,n7]at h ⊢;split
  ·rename_i h1
   rw[if_pos h1]at h;rw[Mo bs i r _ _ h,ao];congr 1;omega
  ·rename_i h1
   rw[if_neg h1]at h;exact absurd h h1
structure dN (d:Dk) (m:Nat):Prop where
 nO : -1<=(d.1.1:Int)
 o6:d.2.2.2.1.length<=m
 len:d.2.1.length=d.2.2.1.length
def dN.mono{d:Dk}{m m':Nat}(h:dN d m)(hm:m<=m'):dN d m':=⟨h.nO,al h.o6 hm,h.len⟩
def u9{d:Dk}{m:Nat}(h:dN d m):dN (stepOf d).1 m:=by
 unfold stepOf;split
 ·exact h
 ·split
  ·exact⟨bd _,h.o6,h.len⟩
  ·refine⟨?_,h.o6,h.len⟩
   have:=h.nO;show -1<=(if 0<d.1.1 then d.1.1-1 else d.1.1);split <;> omega
def nP{d:Dk}{m:Nat}(h:dN d m)(a:Int)(s:aD):dN (bZ d a s).1 (m+1):=by
 unfold bZ;split
 ·exact h.mono (by omega)
 ·split
  ·refine⟨(u9 h).nO,?_,?_⟩
   ·show(d.2.2.2.1++[(a,fK s,())]).length<=m+1
    rw[ad];have:=h.o6;simp;omega
   ·show d.2.1.length=(d.2.2.1.set a.toNat (fK s)).length
    rw[ai];exact h.len
  ·exact(u9 h).mono (by omega)
def tm{d:Dk}{m:Nat}(h:dN d m):dN (cD d).1 m:=by
 unfold cD;split
 ·exact⟨(u9 h).nO,bx _,rfl⟩
 ·exact u9 h
def Mp(bs:List Int):∀(pre:List Nat) {d:Dk} {s:Int} {m:Nat},dN d m->dN (n7 bs d s pre).1 (m+pre.length)
 |[],_,_,_,h=>h
 |i :: r,d,s,m,h=>by
  simp only[n7];split
  ·exact(Mp bs r (nP h _ _)).mono (by simp;omega)
  ·exact(nP h _ _).mono (by simp)
def jz(l:List (D aB))(r:Int)(d:Dk)(pre:List Nat):Dk×Int:=n7 (bT (eK l).1) d (2+(r+1).tmod 2*55) pre
def jA(l:List (D aB)):List Nat:=ah (gR (bT (eK l).1).length 64)
def FW(l:List (D aB))(r:Int)(d:Dk):Dk×Int:=cD (jz l r d (jA l)).1
def y7(l:List (D aB))(r:Int)(d:Dk):Dk×Int:=bZ (FW l r d).1 ((r+1).tmod 2) (gM (r+1) (eK l).1.length)
def gy(d:Dk)(r:Int)(l:List (D aB)):Dk×Int:=
 if nq l≠0 then(d,nq l)
 else if(jz l r d (jA l)).2≠0 then jz l r d (jA l)
 else if(FW l r d).2≠0 then FW l r d
 else if(y7 l r d).2≠0 then y7 l r d
 else cD (y7 l r d).1
def aaY{r:Int}(h:0<=r):0<=(r+1).tmod 2/\(r+1).tmod 2<=1:=by rw[bm (by omega)];omega
def IG{l:List (D aB)}(h:l.length<=100):(eK l).1.length<=275300:=by
 unfold eK;split
 ·simp
 ·rename_i hb
  have:=D4 (Mn (b6.1 hb));show(gO l).length<=275300;omega
def sO{l:List (D aB)}(h:(eK l).2.isNil=true):(eK l).2=.nil/\nq l=0:=by
 unfold eK at h ⊢;split at h
 ·rename_i hb;exact absurd (aV.1 h) hb
 ·rename_i hb;rw[if_neg hb];exact⟨rfl,b6.1 hb⟩
def Mq{l:List (D aB)}{r:Int}{d:Dk}(h:dN d 1000000)(pre:List Nat):dN (jz l r d pre).1 (1000000+pre.length):=Mp _ pre h
def yp{l:List (D aB)}(h:l.length<=100):gR (bT (eK l).1).length 64<=5000:=by
 have:=IG h;unfold gR;rw[bT,b8];omega
def V4{l:List (D aB)}(d:Dk)(r:Int)(h:(eK l).2.isNil=false):gy d r l=(d,nq l)/\nq l≠0/\(eK l).2=aL (nq l):=by
 have hb:nq l≠0:=fun e=>by unfold eK at h;rw[if_neg (not_not_intro e)]at h;cases h
 exact⟨by unfold gy;rw[if_pos hb],hb,by unfold eK;rw[if_pos hb]⟩
def uu{l o:List (D aB)}{d:Dk}{r:Int}{z:Dk×Int}(hk:gy d r l=z)(hz:z.2≠0) :
  (((r,o,()),z.1):(Int×List (D aB)×Unit)×Dk)=(if(gy d r l).2=0 then(r+1,l,())else(r,o,()),(gy d r l).1)/\(aL z.2,())=(aL (gy d r l).2,()):=by
 rw[hk,if_neg hz];exact⟨rfl,rfl⟩
def V5{l o:List (D aB)}{d:Dk}{r:Int}{z:Dk×Int}(hk:gy d r l=z)(hz:z.2=0) :
  (((r+1,l,()),z.1):(Int×List (D aB)×Unit)×Dk)=(if(gy d r l).2=0 then(r+1,l,())else(r,o,()),(gy d r l).1)/\(aL z.2,())=(aL (gy d r l).2,()):=by
 rw[hk,if_pos hz];exact⟨rfl,rfl⟩
def Mr(bs:List Int)(i:Nat)(rest:List Nat):∀(pre:List Nat) (d:Dk) (s:Int),(n7 bs d s pre).2=0->(bZ (n7 bs d s pre).1 (s+pre.length) (bytesOf (fG (t:=.int .u8) bs 64 i))).2≠0->
  n7 bs d s (pre++i :: rest)=bZ (n7 bs d s pre).1 (s+pre.length) (bytesOf (fG (t:=.int .u8) bs 64 i))
 |[],d,s,_,h=>by
  simp only[c6,n7,c7]at h ⊢;rw[show s+((0:Nat):Int)=s by omega]at h ⊢;rw[if_neg h]
 |j :: r,d,s,h,h2=>by
  simp only[b7,n7]at h h2 ⊢;by_cases h1:(bZ d s (bytesOf (fG (t:=.int .u8) bs 64 j))).2=0
  ·simp only[if_pos h1]at h h2 ⊢
   rw[ao,show s+((r.length+1:Nat):Int)=s+1+(r.length:Int) by omega]at h2 ⊢;exact Mr bs i rest r _ _ h h2
  ·rw[if_neg h1]at h
   exact absurd h h1
def Zr{i m:Nat}(h:i<m):∃rest,ah m=ah i++i :: rest:=by
 obtain⟨b,rfl⟩:∃b,m=i+(b+1):=⟨m-i-1,by omega⟩
 rw[List.range_add,List.range_succ_eq_map];exact⟨_,by simp only[bn,Nat.add_zero];rfl⟩
def SR{l:List (D aB)}{d:Dk}{r:Int}{pre:List Nat}{i:Nat}(h0:(eK l).2.isNil=true)(hp:(jz l r d pre).2=0)(e:pre=ah i)(hi:pre.length<gR (bT (eK l).1).length 64)
  (hw:(bZ (jz l r d pre).1 (2+(r+1).tmod 2*55+(pre.length:Int)) (bytesOf (fG (t:=.int .u8) (bT (eK l).1) 64 i))).2≠0) :
  gy d r l=bZ (jz l r d pre).1 (2+(r+1).tmod 2*55+(pre.length:Int)) (bytesOf (fG (t:=.int .u8) (bT (eK l).1) 64 i)):=by
 have hil:i<gR (bT (eK l).1).length 64:=by rw[e,b9]at hi;exact hi
 obtain⟨rest,hr⟩:=Zr hil;have hall:jz l r d (jA l)=bZ (jz l r d pre).1 (2+(r+1).tmod 2*55+(pre.length:Int)) (bytesOf (fG (t:=.int .u8) (bT (eK l).1) 64 i)):=by
  unfold jz jA;rw[hr,<-e];exact Mr _ i rest pre d _ hp hw
 unfold gy;rw[if_neg (not_not_intro (sO h0).2),hall,if_pos hw]
def Ms{l:List (D aB)}{d:Dk}{r:Int}{pre:List Nat}(i:Nat)(hp:(jz l r d pre).2=0) :
  jz l r d (pre++[i])=bZ (jz l r d pre).1 (2+(r+1).tmod 2*55+(pre.length:Int)) (bytesOf (fG (t:=.int .u8) (bT (eK l).1) 64 i)):=Mo _ i pre d _ hp
def abC{l:List (D aB)}{d:Dk}{r:Int}(h0:(eK l).2.isNil=true)(hp:(jz l r d (jA l)).2=0)(hf:(FW l r d).2≠0):gy d r l=FW l r d:=by
 unfold gy;rw[if_neg (not_not_intro (sO h0).2),if_neg (not_not_intro hp),if_pos hf]
def abD{l:List (D aB)}{d:Dk}{r:Int}(h0:(eK l).2.isNil=true)(hp:(jz l r d (jA l)).2=0)(hf:(FW l r d).2=0)(hh:(y7 l r d).2≠0):gy d r l=y7 l r d:=by
 unfold gy;rw[if_neg (not_not_intro (sO h0).2),if_neg (not_not_intro hp),if_neg (not_not_intro hf),if_pos hh]
def IH{l:List (D aB)}{d:Dk}{r:Int}(h0:(eK l).2.isNil=true)(hp:(jz l r d (jA l)).2=0)(hf:(FW l r d).2=0)(hh:(y7 l r d).2=0):gy d r l=cD (y7 l r d).1:=by
 unfold gy;rw[if_neg (not_not_intro (sO h0).2),if_neg (not_not_intro hp),if_neg (not_not_intro hf),if_neg (not_not_intro hh)]
def D5{l:List (D aB)}{r:Int}{d:Dk}(hl:l.length<=100)(h:dN d 1000000):dN (jz l r d (jA l)).1 1005000:=
 (Mq h (jA l)).mono (by have:=yp hl;unfold jA;rw[b9];omega)
abbrev Sh:=(Int×List (D aB)×Unit)×Dk
def vb(x:Sh)(l:List (D aB)):Sh×Int:=((if(gy x.2 x.1.1 l).2=0 then(x.1.1+1,l,())else x.1,(gy x.2 x.1.1 l).1),(gy x.2 x.1.1 l).2)
def tn(l:List (D aB))(e:D aB):Option (List (D aB)):=if 0<=eS l e.1 then some (l.set (eS l e.1).toNat e)else if l.length=3 then none else some (l++[e])
def mT(x:Sh)(e:D aB):Sh×Int:=
 if bE e≠0 then(x,bE e)else match tn x.1.2.1 e with
  |none=>(x,2)
  |some l=>vb x l
def dA(l:List (D aB))(s:aD):D aB×Bool:=if 0<=eS l s then(nth aB l (eS l s).toNat,true)else(cB aB,false)
def ir(x:Sh)(s:aD):Sh×Int:=
 if 0<=eS x.1.2.1 s then vb x (x.1.2.1.eraseIdx (eS x.1.2.1 s).toNat)else(x,5)
def rV(l:List (D aB))(s:aD):eS l s<l.length/\-1<=eS l s:=by
 unfold eS;split
 ·rename_i i h
  obtain⟨h1,_⟩:=List.findIdx?_eq_some_iff_getElem.1 h;omega
 ·omega
def II{x:Sh}{e:D aB}(h:bE e≠0):mT x e=(x,bE e):=by unfold mT;rw[if_pos h]
def Qq{x:Sh}{e:D aB}(h:bE e=0)(hi:0<=eS x.1.2.1 e.1):mT x e=vb x (x.1.2.1.set (eS x.1.2.1 e.1).toNat e):=by
 unfold mT tn;rw[if_neg (not_not_intro h),if_pos hi]
def Mt{x:Sh}{e:D aB}(h:bE e=0)(hi:¬0<=eS x.1.2.1 e.1)(hl:(x.1.2.1.length:Int)=3):mT x e=(x,2):=by
 unfold mT tn;rw[if_neg (not_not_intro h),if_neg hi,if_pos (by omega)]
def GY{x:Sh}{e:D aB}(h:bE e=0)(hi:¬0<=eS x.1.2.1 e.1)(hl:¬(x.1.2.1.length:Int)=3):mT x e=vb x (x.1.2.1++[e]):=by
 unfold mT tn;rw[if_neg (not_not_intro h),if_neg hi,if_neg (by omega)]
def Bf{α:Type}{o:List α}{b:Bool}(q:0<o.length->b=false)(h:b=true):o=[]:=by
 cases o with
 |nil=>rfl
 |cons a t=>rw[q (by simp)]at h;cases h
def dH(l:List (D aB)):List aD:=l.map (·.1)
def sk{l:List (D aB)}{i:Nat}(h:i<l.length):dH (l.take i)++[(nth aB l i).1]=dH (l.take (i+1)):=by
 rw[gI (t:=aB) h];simp[dH]
def FX(l:List (D aB)):(dH l).length=l.length:=by simp[dH]
def wT{l:List (D aB)}{s:aD}(h:0<=eS l s):dA l s=(nth aB l (eS l s).toNat,true):=by unfold dA;rw[if_pos h]
def FY{l:List (D aB)}{s:aD}(h:¬0<=eS l s):dA l s=(cB aB,false):=by unfold dA;rw[if_neg h]
def qI(s:aD):¬0<=eS [] s:=fun h=>absurd (show(0:Int)<=-1 from h) (by decide)
def ln(l:List (D aB))(e:D aB):List (D aB)×Int:=if bE e > 0 then(l,bE e)else match tn l e with
 |none=>(l,2)
 |some l'=>(l',0)
def jf(l:List (D aB))(s:aD):List (D aB):=l.filter fun e=>decide (e.1≠s)
def jo(l:List (D aB))(s:aD):List (D aB)×Int:=if(jf l s).length=l.length then(l,5)else(jf l s,0)
def yq{l:List (D aB)}{e:D aB}(h:bE e > 0):ln l e=(l,bE e):=by unfold ln;rw[if_pos h]
def D6{l:List (D aB)}{e:D aB}{i:Nat}(h:¬bE e > 0)(hi:i<l.length)(hq:∀j,j<i->(nth aB l j).1≠e.1)(he:(nth aB l i).1=e.1):ln l e=(l.set i e,0):=by
 have hf:=rU hi hq he;unfold ln tn;rw[if_neg h,if_pos (by rw[hf];omega),hf];rfl
def Bg{l:List (D aB)}{e:D aB}(h:¬bE e > 0)(hq:∀j,j<l.length->(nth aB l j).1≠e.1)(hl:(l.length:Int)=3):ln l e=(l,2):=by
 unfold ln tn;rw[if_neg h,if_neg (by rw[rr hq];decide),if_pos (by omega)]
def yr{l:List (D aB)}{e:D aB}(h:¬bE e > 0)(hq:∀j,j<l.length->(nth aB l j).1≠e.1)(hl:¬(l.length:Int)=3):ln l e=(l++[e],0):=by
 unfold ln tn;rw[if_neg h,if_neg (by rw[rr hq];decide),if_neg (by omega)]
def V6(l:List (D aB))(s:aD):(jf l s).length<=l.length:=c8 _ _
def FZ{l:List (D aB)}{s:aD}{i:Nat}(h:i<l.length)(hn:(nth aB l i).1≠s):jf (l.take (i+1)) s=jf (l.take i) s++[nth aB l i]:=by
 unfold jf;rw[gI (t:=aB) h,bf];simp[hn]
def F0{l:List (D aB)}{s:aD}{i:Nat}(h:i<l.length)(hn:(nth aB l i).1=s):jf (l.take (i+1)) s=jf (l.take i) s:=by
 unfold jf;rw[gI (t:=aB) h,bf];simp[hn]
def SS{l:List (D aB)}{s:aD}(h:((jf l s).length:Int)=(l.length:Int)):jo l s=(l,5):=by unfold jo;rw[if_pos (by omega)]
def SU{l:List (D aB)}{s:aD}(h:¬((jf l s).length:Int)=(l.length:Int)):jo l s=(jf l s,0):=by unfold jo;rw[if_neg (by omega)]
def eJ(c:UInt8)(s:aD):List aD:=ar [c] 1 (cc s [c]) s
def IJ(sep:aD)(save:Nat):∀(k:Nat) (s:aD),∀y∈ar sep save k s,y.length<=s.length
 |0,s,y,h=>by simp[ar]at h;subst h;exact af _
 |k+1,s,y,h=>by
  unfold ar at h;split at h
  ·simp at h;subst h;exact af _
  ·rcases a7.1 h with rfl|h
   ·rw[bc];exact Nat.min_le_right _ _
   ·exact al (IJ sep save k _ y h) (by rw[da];omega)
def IK(c:UInt8)(s y:aD)(h:y∈eJ c s):y.length<=s.length:=IJ _ _ _ _ _ h
def jB(d:Dk):Dk×Int:=
 if(d.2.2.1.length:Int)<112 then(d,8)
 else if(bZ d 1 []).2≠0 then bZ d 1 []
 else if(cD (bZ d 1 []).1).2≠0 then cD (bZ d 1 []).1
 else if(bZ (cD (bZ d 1 []).1).1 0 (gM 2 0)).2≠0 then bZ (cD (bZ d 1 []).1).1 0 (gM 2 0)
 else cD (bZ (cD (bZ d 1 []).1).1 0 (gM 2 0)).1
def abE{d:Dk}(h:(d.2.2.1.length:Int)<112):jB d=(d,8):=by unfold jB;rw[if_pos h]
def adO{d:Dk}(h:¬(d.2.2.1.length:Int)<112)(h1:(bZ d 1 []).2≠0):jB d=bZ d 1 []:=by unfold jB;rw[if_neg h,if_pos h1]
def adP{d:Dk}(h:¬(d.2.2.1.length:Int)<112)(h1:(bZ d 1 []).2=0)(h2:(cD (bZ d 1 []).1).2≠0):jB d=cD (bZ d 1 []).1:=by
 unfold jB;rw[if_neg h,if_neg (not_not_intro h1),if_pos h2]
def adQ{d:Dk}(h:¬(d.2.2.1.length:Int)<112)(h1:(bZ d 1 []).2=0)(h2:(cD (bZ d 1 []).1).2=0)(h3:(bZ (cD (bZ d 1 []).1).1 0 (gM 2 0)).2≠0):jB d=bZ (cD (bZ d 1 []).1).1 0 (gM 2 0):=by
 unfold jB;rw[if_neg h,if_neg (not_not_intro h1),if_neg (not_not_intro h2),if_pos h3]
def adR{d:Dk}(h:¬(d.2.2.1.length:Int)<112)(h1:(bZ d 1 []).2=0)(h2:(cD (bZ d 1 []).1).2=0)(h3:(bZ (cD (bZ d 1 []).1).1 0 (gM 2 0)).2=0):jB d=cD (bZ (cD (bZ d 1 []).1).1 0 (gM 2 0)).1:=by
 unfold jB;rw[if_neg h,if_neg (not_not_intro h1),if_neg (not_not_intro h2),if_neg (not_not_intro h3)]
def tD{a b:Nat}(ha:a<2^40)(hb:b<2^40):VX (a:Int) (b:Int)=((a ||| b:Nat):Int):=by
 have hlt:a ||| b<2^40:=bo ha hb
 have e:∀n:Nat,b5 bj.bits (n:Int)=BitVec.ofNat bj.bits n:=fun n=>BitVec.ofInt_natCast _ n
 unfold VX;rw[e,e,<-BitVec.ofNat_or,BitVec.toNat_ofNat,Nat.mod_eq_of_lt (ag hlt (by decide))];exact nf (by omega) (by omega)
def tE{a k:Nat}(ha:a<2^8)(hk:k<=24):VY (a:Int) k=((a*2^k:Nat):Int):=by
 unfold VY;have h1:2^k<=2^24:=Nat.pow_le_pow_right (by decide) hk;have h2:a*2^k<=255*2^24:=Nat.mul_le_mul (by omega) h1;rw[show((a:Nat):Int)*(2:Int)^k=((a*2^k:Nat):Int) by simp];exact nf (by omega) (by omega)
def C3(s:aD):∃n:Nat,j9 s=(n:Int)/\n<2^32:=by
 have hb:∀i,(bR s i).toNat<2^8:=fun i=>(bR s i).toNat_lt
 have h1:(bR s 1).toNat*2^8<2^32:=ag (cd (hb 1) (by decide)) (by decide);have h2:(bR s 2).toNat*2^16<2^32:=ag (cd (hb 2) (by decide)) (by decide);have h3:(bR s 3).toNat*2^24<2^32:=ag (cd (hb 3) (by decide)) (by decide);have h0:(bR s 0).toNat<2^32:=ag (hb 0) (by decide);have w:∀{n:Nat},n<2^32->n<2^40:=fun h=>ag h (by decide)
 unfold j9;rw[tE (hb 1) (by decide),tE (hb 2) (by decide),tE (hb 3) (by decide),tD (w h0) (w h1)];have a1:=bo h0 h1;rw[tD (w a1) (w h2)];have a2:=bo a1 h2;rw[tD (w a2) (w h3)];exact⟨_,rfl,bo a2 h3⟩
def Bh(d:Dk)(i:Int):aD:=nth .str d.2.2.1 (bz i)
def rv(d:Dk)(i:Nat):Int:=j9 (au 1 (aj 5 (Bh d i)))
def sN(d:Dk)(i:Nat):Int:=j9 (au 5 (aj 9 (Bh d i)))
def fH(d:Dk):Nat->Int×Int
 |0=>(0,0)
 |i+1=>if((bR (Bh d i) 0).toNat:Int)=83/\(fH d i).1<rv d i/\sN d i<=3520 then(rv d i,sN d i)else fH d i
def kH(d:Dk)(b:Int):Nat->aD
 |0=>[]
 |i+1=>kH d b i++Bh d (b+(i:Int))
def l5(L:List aD):List (D aB):=(L.filter fun s=>decide (s≠[])).map fun s=>(iW s).1
def Mu(L:List aD):Prop:=∃j,j<L.length/\nth .str L j≠[]/\(iW (nth .str L j)).2.isNil=false
def mG(d:Dk):Int:=2+(fH d 2).1.tmod 2*55
def eC(d:Dk):List aD:=eJ 10 (aj (fH d 2).2.toNat (kH d (mG d) 55))
open Classical in
def dP(d:Dk):(Int×List (D aB))×Int:=
 if d.1.2.1=true then((0,[]),9)else if(d.2.2.1.length:Int)<112 then((0,[]),4)else if(fH d 2).1=0 then((0,[]),4)
 else if Mu (eC d)then((0,[]),4)else(((fH d 2).1,l5 (eC d)),0)
def F1(d:Dk):fH d 0=(0,0):=rfl
def aaZ(d:Dk)(i:Nat):fH d (i+1)=if((bR (Bh d i) 0).toNat:Int)=83/\(fH d i).1<rv d i/\sN d i<=3520 then(rv d i,sN d i)else fH d i:=rfl
def aa0(d:Dk)(b:Int):kH d b 0=[]:=rfl
def SW(d:Dk)(b:Int)(i:Nat):kH d b (i+1)=kH d b i++Bh d (b+(i:Int)):=rfl
def rW(d:Dk)(i:Nat):rv d i=j9 (au 1 (aj 5 (nth .str d.2.2.1 i))):=rfl
def tG(d:Dk)(i:Nat):sN d i=j9 (au 5 (aj 9 (nth .str d.2.2.1 i))):=rfl
def ml(d:Dk):mG d=2+(fH d 2).1.tmod 2*55:=rfl
def iO(d:Dk):eC d=eJ 10 (aj (fH d 2).2.toNat (kH d (mG d) 55)):=rfl
def wU{d:Dk}{i:Nat}(h1:((bR (nth .str d.2.2.1 i) 0).toNat:Int)=83)(h2:(fH d i).1<rv d i)(h3:sN d i<=3520):fH d (i+1)=(rv d i,sN d i):=by rw[aaZ];exact if_pos ⟨h1,h2,h3⟩
def B6{d:Dk}{i:Nat}(h:¬(((bR (nth .str d.2.2.1 i) 0).toNat:Int)=83/\(fH d i).1<rv d i/\sN d i<=3520)):fH d (i+1)=fH d i:=by rw[aaZ];exact if_neg h
def iM(d:Dk):∀i,(0<=(fH d i).1/\(fH d i).1<4294967296)/\0<=(fH d i).2/\(fH d i).2<=3520
 |0=>by rw[F1];decide
 |i+1=>by
  by_cases h:((bR (nth .str d.2.2.1 i) 0).toNat:Int)=83/\(fH d i).1<rv d i/\sN d i<=3520
  ·rw[wU h.1 h.2.1 h.2.2]
   obtain⟨n,e,hn⟩:=C3 (au 1 (aj 5 (nth .str d.2.2.1 i)));obtain⟨m,e2,hm⟩:=C3 (au 5 (aj 9 (nth .str d.2.2.1 i)));have h3:=h.2.2;rw[rW,tG,e,e2];rw[tG,e2]at h3;refine⟨⟨by omega,?_⟩,by omega,h3⟩;have:(n:Int)<((2^32:Nat):Int):=Int.ofNat_lt.2 hn;simpa using this
  ·rw[B6 h];exact iM d i
def ve{a:Int}(h:0<=a):0<=a.tmod 2/\a.tmod 2<=1:=by rw[bm h];omega
def mm{d:Dk}(hs:∀i,i<d.2.2.1.length->(nth .str d.2.2.1 i).length=64){b:Int}(hb:0<=b):∀n:Nat,b+(n:Int)<=d.2.2.1.length->(kH d b n).length=64*n
 |0,_=>by rw[aa0];rfl
 |n+1,h=>by
  rw[SW,ad,mm hs hb n (by omega),show(Bh d (b+(n:Int))).length=64 from hs _ (by omega)];omega
def V7{d:Dk}(h:d.1.2.1=true):dP d=((0,[]),9):=by unfold dP;rw[if_pos h]
def Zs{d:Dk}(h1:d.1.2.1=false)(h:(d.2.2.1.length:Int)<112):dP d=((0,[]),4):=by unfold dP;rw[if_neg (by rw[h1];decide),if_pos h]
def V8{d:Dk}(h1:d.1.2.1=false)(h:¬(d.2.2.1.length:Int)<112)(h5:(fH d 2).1=0):dP d=((0,[]),4):=by unfold dP;rw[if_neg (by rw[h1];decide),if_neg h,if_pos h5]
def Zt{d:Dk}(h1:d.1.2.1=false)(h:¬(d.2.2.1.length:Int)<112)(h5:¬(fH d 2).1=0)(hb:Mu (eC d)):dP d=((0,[]),4):=by unfold dP;rw[if_neg (by rw[h1];decide),if_neg h,if_neg h5,if_pos hb]
def Qr{d:Dk}(h1:d.1.2.1=false)(h:¬(d.2.2.1.length:Int)<112)(h5:¬(fH d 2).1=0)(hb:¬Mu (eC d)):dP d=(((fH d 2).1,l5 (eC d)),0):=by unfold dP;rw[if_neg (by rw[h1];decide),if_neg h,if_neg h5,if_neg hb]
def V9{L:List aD}{i:Nat}(h:i<L.length)(he:nth .str L i=[]):l5 (L.take (i+1))=l5 (L.take i):=by
 unfold l5;rw[gI (t:=.str) h,bf,he];simp
def Wa{L:List aD}{i:Nat}(h:i<L.length)(he:nth .str L i≠[]):l5 (L.take (i+1))=l5 (L.take i)++[(iW (nth .str L i)).1]:=by
 unfold l5;rw[gI (t:=.str) h,bf];simp[he]
def Zu(L:List aD):(l5 L).length<=L.length:=by unfold l5;rw[b8];exact c8 _ _
def abF{L:List aD}{i:Nat}(hi:¬i<L.length)(h:∀j,j<i->nth .str L j=[]\/(iW (nth .str L j)).2.isNil=true):¬Mu L:=by
 rintro⟨j,h1,h2,h3⟩;rcases h j (by omega)with h|h
 ·exact h2 h
 ·rw[h]at h3;cases h3
def F2(sep:aD)(save:Nat):∀(k:Nat) (s:aD),(ar sep save k s).length<=k+1
 |0,s=>by simp[ar]
 |k+1,s=>by
  unfold ar;split
  ·simp
  ·rw[ao];have:=F2 sep save k (s.drop ((cf s sep).toNat+sep.length));omega
def SX(c:UInt8)(s:aD):(eJ c s).length<=s.length+1:=by
 unfold eJ;refine al (F2 _ _ _ _) ?_;rw[bp];have:=List.count_le_length (a:=c) (l:=s);omega
def Wb:l5 []=[]:=rfl
def lR(d:Dk):Dk×Int:=Classical.choose (⟨jB d,rfl⟩:∃y,y=jB d)
def pH(d:Dk):lR d=jB d:=Classical.choose_spec (⟨jB d,rfl⟩:∃y,y=jB d)
attribute [irreducible] fH kH l5 mG eC rv sN
end Go.Mrl

namespace Go.Vg
open Go.RowKit
def GZ(t:Ty):aX:=fun args st K=>
 match args with
 |[.one (.bC n),.one a,.one b]=>match look st.aH n,uz (.int .i64) a,uz (.int .i64) b with
  |some (.bC t' xs),some i,some j=>match Ty.beq t' t with
   |true =>.and (0<=(i:Int)/\(i:Int)<(j:Int)/\(j:Int)<=xs.length)
     (K (.s (.one (.bC st.next))) (fresh (bH (bH st n) n) (.bC t' (xs.take (i:Int).toNat++xs.drop (j:Int).toNat))))
   |false =>.ff
  |_,_,_ =>.ff
 |_ =>.ff
def Wc(P:Program)(f:FuncId)(sz:Nat):Prop:=∀(b i j n cap:Nat) (vs:Array Value) (T:TypeId) (w:World),w.heap[b]?=some (.cells vs T (0,0))->vs.size=cap*sz->i<j->j<=n->n<=cap->n<=aI->
 (∀(k:Nat) u,k<n*sz->vs[k]?=some u->u.oneCell'=true)->
 Calls P f #[.slice (some ⟨b,0,none⟩) n cap,.int .i64 (i:Int),.int .i64 (j:Int)] w fun e w'=>e=.returned (.slice (some ⟨b,0,none⟩) (i+(n-j)) cap)/\w'.os=w.os/\w'.output=w.output/\w'.heap.size=w.heap.size/\(∀k,k≠b->w'.heap[k]?=w.heap[k]?)/\
  ∃vs':Array Value,w'.heap[b]?=some (.cells vs' T (0,0))/\vs'.size=vs.size/\∀k,k<(i+(n-j))*sz->vs'[k]?=vs[if k<i*sz then k else k+(j-i)*sz]?
def Zv{i j:Int}{n:Nat}(h0:0<=i)(hij:i<j)(hj:j<=n):∃i' j':Nat,i=(i':Int)/\j=(j':Int)/\i'<j'/\j'<=n:=
 ⟨i.toNat,j.toNat,by omega,by omega,by omega,by omega⟩
section
variable{P:Program}{X:Ext}{f:FuncId}
def SY{B:Cx}{t:Ty}(hfn:∃fn,P.funcs[f]?=some fn/\fn.body.isNone=false/\(fn.name == "runtime.NumGoroutine")=false)(H:Wc P f t.size) :
  bY P B.eT X f false (GZ t):=by
 refine⟨hfn,fun O st loc w args vs K hs g hO ha =>?_⟩;unfold GZ at hs;split at hs
 case h_2=>exact hs.elim
 rename_i n ca cb;split at hs
 case h_2=>exact hs.elim
 rename_i t' xs i j hob hi hj;split at hs
 case h_2=>exact hs.elim
 rename_i ht;have ht':=Ty.eq_of_beq ht;subst ht';obtain⟨⟨h0,hij,hjx⟩,hs⟩:=hs
 match vs,ha with
 |[v0,v1,v2],.cons a0 (.cons a1 (.cons a2 .nil))=>
 have key:=Zv h0 hij hjx;clear h0 hij hjx;obtain⟨i,j,rfl,rfl,hij,hjx⟩:=key;have hs:(K (.s (.one (.bC st.next))) (fresh (bH (bH st n) n) (.bC t' (xs.take i++xs.drop j)))).holds:=hs;have e1:v1=.int .i64 (i:Int):=(dG.1 (rB hi a1)).1;have e2:v2=.int .i64 (j:Int):=(dG.1 (rB hj a2)).1;subst e1 e2;have hvl:=a0.2 _ _ hob;rcases(g.obj n _ hob).2 with⟨rfl,_⟩|⟨b,cs,T,cap,hl1,jc,hheap,hsz,hfit,hbig,he⟩
 ·simp at hjx;omega
 have hv0:=hvl.trans hl1;subst hv0;have hxs:List.length xs*t'.size<=cs.size:=by rw[hsz];exact bq _ hfit
 obtain⟨olds,ho,ho1,ho3,ho4⟩:=r9 (cx:=B) he hxs;refine(H b i j xs.length cap cs T w hheap hsz hij hjx hfit hbig (fun k u hk hu=>ho4 u ?_)).mono ?_
 ·refine bt (i:=k) ?_
  rw[ho,List.getElem?_take,if_pos hk,Array.getElem?_toList];exact hu
 rintro r w' ⟨rfl,k1,k2,k3,k4,cs',k5,k6,k7⟩;have hl':(xs.take i++xs.drop j).length=i+(xs.length-j):=by rw[ad,bc,da];omega
 obtain⟨tr,gd⟩:=s7 (w':=w') (oc:=.bC t' (xs.take i++xs.drop j)) (l:=⟨.slice (some ⟨b,0,none⟩) (i+(xs.length-j)) cap,[b]⟩) g hO n n k1 k2 (Nat.le_of_eq k3.symm)
  (fun k oc' hk hl=>by
   have:k=n:=by rcases hk with h|h <;> exact h
   subst this;rw[hob]at hl;cases hl;rfl)
  (fun b' hlt hb=>k4 b' fun e'=>hb n _ (.inl rfl) hob (by rw[e',show(loc n).bs=_ from jc];simp))
  (fun b' hbm=>by
   simp at hbm;subst hbm;exact .inl ⟨n,_,.inl rfl,hob,by rw[show(loc n).bs=_ from jc];simp⟩)
 have gd:=gd (.inr ⟨b,cs',T,cap,by rw[hl'],rfl,k5,by rw[k6,hsz],by rw[hl'];omega,by rw[hl'];unfold aI at*;omega,fun k y hy=>by
  have hk:k<i+(xs.length-j):=by have:=bN hy;rw[hl']at this;exact this
  obtain⟨k',hk',hyx⟩:∃k',(k'=if k<i then k else k+(j-i))/\xs[k']?=some y:=by
   refine⟨_,rfl,?_⟩;rw[List.getElem?_append,bc]at hy;by_cases h:k<i
   ·rw[if_pos (by omega),List.getElem?_take,if_pos h]at hy
    rw[if_pos h];exact hy
   ·rw[if_neg (by omega),List.getElem?_drop]at hy
    rw[if_neg h];rw[show j+(k-min i xs.length)=k+(j-i) by omega]at hy;exact hy
  obtain⟨us,r1,r2⟩:=he k' y hyx;refine⟨us,r1.frame tr.cell,fun q u hq =>?_⟩;have hql:q<t'.size:=by have:=bN hq;rw[r1.length]at this;exact this
  have hm:(k+1)*t'.size<=(i+(xs.length-j))*t'.size:=bq _ hk;rw[cg,Nat.one_mul]at hm;rw[k7 _ (by omega)];have:=r2 q u hq;by_cases h:k<i
  ·rw[if_pos h]at hk'
   subst hk';have hm2:(k'+1)*t'.size<=i*t'.size:=bq _ h;rw[cg,Nat.one_mul]at hm2;rw[if_pos (by omega)];exact this
  ·rw[if_neg h]at hk'
   have hm2:i*t'.size<=k*t'.size:=bq _ (by omega);rw[if_neg (by omega)];rw[hk',cg]at this;rw[show k*t'.size+q+(j-i)*t'.size=k*t'.size+(j-i)*t'.size+q by omega];exact this⟩)
 exact⟨_,_,_,_,rfl,hs,rfl,(fun hq=>by cases hq),gd,tr,⟨by simp[aC,fresh,bH],fun t xs hy=>by simp[aC,cM]⟩⟩
end
end Go.Vg

namespace Go.Mrl
open Go.Vg
def pc{n:Int}{k:Nat}(h0:0<=n)(h:n<((10^(k+1):Nat):Int)):(Lib.itoa n).length<=k+1:=by
 unfold Lib.itoa;rw[if_neg (by omega)];exact kf k n.toNat (by omega)
def Wd{n:Int}(h:je (-2147483648) 2147483647 n):(Lib.itoa n).length<=11:=by
 have h1:=h.1;have h2:=h.2;by_cases hn:n<0
 ·rw[AL hn,ad,br]
  have:=pc (n:=-n) (k:=9) (by omega) (by omega);omega
 ·have:=pc (n:=n) (k:=9) (by omega) (by omega);omega
def G0{α:Type}{f:α->aD}{m:Nat}:∀{l:List α},(∀x∈l,(f x).length<=m)->(l.flatMap f).length<=m*l.length
 |[],_=>by simp
 |a :: r,h=>by
  have h1:=h a (by simp);have h2:=G0 (l:=r) fun x hx=>h x (by simp[hx])
  rw[List.flatMap_cons,ad,ao,Nat.mul_add,Nat.mul_one];omega
def Mv{p:D aG}(h1:Nm p.1)(h2:je 1 1000000 p.2.1)(h3:je 0 255 p.2.2.1):(o8 p).length<=21:=by
 have a:=h1.2.1;have b:=pc (n:=p.2.1) (k:=6) (by have:=h2.1;omega) (by have:=h2.2;omega);have c:=pc (n:=p.2.2.1) (k:=2) (by have:=h3.1;omega) (by have:=h3.2;omega);simp[o8];omega
def Mw{p:D aN}(h1:je 0 5 p.1)(h2:je 0 39 p.2.1)(h3:je (-2147483648) 2147483647 p.2.2.1):(o9 p).length<=17:=by
 have a:=pc (n:=p.1) (k:=0) (by have:=h1.1;omega) (by have:=h1.2;omega);have b:=pc (n:=p.2.1) (k:=1) (by have:=h2.1;omega) (by have:=h2.2;omega);have c:=Wd h3;simp[o9];omega
def OK{e:D aB}(hf:bE e=0):(hH e).length<=752:=by
 have h:=nn hf;have a1:=h.nm.2.1;have a2:=pc (n:=(e.2.1.length:Int)) (k:=0) (by omega) (by have:=h.p6;omega);have a3:=pc (n:=(e.2.2.1.length:Int)) (k:=1) (by omega) (by have:=h.FL;omega);have hh:(yi e).length<=13:=by simp[yi];omega
 have b:=G0 (f:=o8) (m:=21) (l:=e.2.1) fun x hx=>by
  obtain⟨j,hj,rfl⟩:=gT (t:=aG) hx;obtain⟨k1,k2,k3⟩:=h.parts j hj;exact Mv k1 k2 k3
 have c:=G0 (f:=o9) (m:=17) (l:=e.2.2.1) fun x hx=>by
  obtain⟨j,hj,rfl⟩:=gT (t:=aN) hx;obtain⟨k1,k2,k3⟩:=h.L2 j hj;exact Mw k1 k2 k3
 have d1:=h.p6;have d2:=h.FL;unfold hH th kP ld;rw[db,db,ad,ad,ad,br];omega
def yt:∀{l:List (D aB)},(∀e∈l,bE e=0)->(gO l).length<=752*l.length
 |[],_=>by simp[gO]
 |e :: r,h=>by
  have h1:=OK (h e (by simp));have h2:=yt (l:=r) fun x hx=>h x (by simp[hx])
  have h3:gO (e :: r)=hH e++gO r:=rfl;rw[h3,ad,ao];omega
def IL{c:UInt8}:∀{l r:aD},c∉l->cf (l++c :: r) [c]=(l.length:Int)
 |[],r,_=>AI
 |b :: l,r,h=>by
  have hb:b≠c:=fun e=>h (by rw[e];simp)
  rw[b7,AH hb,IL (l:=l) (r:=r) fun k=>h (List.mem_cons_of_mem _ k),ao];rw[if_neg (by simp)];omega
def OL{c:UInt8}{l r:aD}(h:c∉l):eJ c (l++[c]++r)=(l++[c]) :: eJ c r:=by
 have hc:cc (l++[c]++r) [c]=cc r [c]+1:=by
  rw[bp,bp,dc,List.count_append,List.count_eq_zero_of_not_mem h];simp
 have hi:cf (l++[c]++r) [c]=(l.length:Int):=by rw[dc];exact IL h
 unfold eJ;rw[hc,ar,hi,if_neg (by simp)];have e1:((l.length:Int)).toNat+1=(l++[c]).length:=by simp
 have e2:((l.length:Int)).toNat+ [c].length=(l++[c]).length:=by simp
 rw[e2,List.drop_left,e1,List.take_left]
def SZ(c:UInt8):eJ c []=[[]]:=by
 unfold eJ;rw[bp];rfl
def F3:∀{l:List (D aB)},(∀e∈l,bE e=0)->eJ 10 (gO l)=l.map hH++[[]]
 |[],_=>SZ 10
 |e :: r,h=>by
  have h3:gO (e :: r)=th e++[10]++gO r:=rfl;rw[h3,OL (SG (nn (h e (by simp)))),F3 (l:=r) fun x hx=>h x (by simp[hx])];rfl
def Zw(e:D aB):hH e≠[]:=by unfold hH;simp
def F4{e:D aB}(h:bE e=0):iW (hH e)=(e,.nil):=by unfold iW;rw[Qm h rfl];rfl
def Zx{l:List (D aB)}(h:∀e∈l,bE e=0):l5 (l.map hH++[[]])=l:=by
 unfold l5;rw[bf,dd.2 fun s hs=>by
  obtain⟨e,_,rfl⟩:=ay.1 hs;exact decide_eq_true (Zw e)]
 simp only[ch,List.filter_nil,ne_eq,not_true_eq_false,decide_false,Bool.false_eq_true,if_false,List.append_nil,List.map_map];have:l.map ((fun s=>(iW s).1) ∘ hH)=l.map id:=List.map_congr_left fun e he=>by simp only[Function.comp];rw[F4 (h e he)];rfl
 rw[this,List.map_id]
def Zy{l:List (D aB)}(h:∀e∈l,bE e=0):¬Mu (l.map hH++[[]]):=by
 rintro⟨j,h1,h2,h3⟩;have hm:nth .str (l.map hH++[[]]) j∈l.map hH++[[]]:=eO (t:=.str) h1;rcases ak.1 hm with hm|hm
 ·obtain⟨e,he,k⟩:=ay.1 hm
  rw[<-k,F4 (h e he)]at h3;cases h3
 ·exact h2 (a8.1 hm)
def We(n:Int):yn n=n % 256:=by
 unfold yn;simp[bh,IntKind.signed,IntKind.bits]
def vf{n:Nat}{m:Int}{k:Nat}(h:m=((n / 2^k:Nat):Int)):(UInt8.ofNat (bz (yn m))).toNat=n / 2^k % 256:=by
 rw[We,h,show((n / 2^k:Nat):Int) % 256=((n / 2^k % 256:Nat):Int) by omega,aq];simp[UInt8.toNat_ofNat']
def D7(n k:Nat):((n:Nat):Int).fdiv (2^k)=((n / 2^k:Nat):Int):=by
 rw[Int.fdiv_eq_ediv_of_nonneg _ (Int.le_of_lt (Int.pow_pos (by decide)))];simp
def Mx{a b k:Nat}(h:a<2^k):a ||| b*2^k=a+b*2^k:=by
 have:=Nat.two_pow_add_eq_or_of_lt h b;rw[Nat.mul_comm,Nat.or_comm];omega
def IM{n:Nat}(h:n<2^32):j9 (lG (n:Int))=(n:Int):=by
 have b0:(bR (lG (n:Int)) 0).toNat=n / 2^0 % 256:=vf (n:=n) (k:=0) (by simp);have b1:(bR (lG (n:Int)) 1).toNat=n / 2^8 % 256:=vf (D7 n 8);have b2:(bR (lG (n:Int)) 2).toNat=n / 2^16 % 256:=vf (D7 n 16);have b3:(bR (lG (n:Int)) 3).toNat=n / 2^24 % 256:=vf (D7 n 24);have l:∀k,n / 2^k % 256<2^8:=fun k=>Nat.mod_lt _ (by decide)
 unfold j9;rw[b0,b1,b2,b3,tE (l 8) (by decide),tE (l 16) (by decide),tE (l 24) (by decide)];have l0:=l 0;have l1:=l 8;have l2:=l 16;have l3:=l 24;generalize hb0:n / 2^0 % 256=x0 at*;generalize hb1:n / 2^8 % 256=x1 at*;generalize hb2:n / 2^16 % 256=x2 at*;generalize hb3:n / 2^24 % 256=x3 at*;rw[tD (by omega) (by omega),Mx (k:=8) (by omega),tD (by omega) (by omega),Mx (k:=16) (by omega),tD (by omega) (by omega),Mx (k:=24) (by omega)];congr 1;omega
structure ru (d:Dk):Prop where
 down:d.1.2.1=false
 nO:(d.1.1:Int)= -1
 len:112<=d.2.2.1.length
 sec:∀i,i<d.2.2.1.length->(nth .str d.2.2.1 i).length=64
 Zz:d.2.1.length=d.2.2.1.length
def My{s:aD}(h:s.length<=64):(fK s).length=64:=by unfold fK;simp;omega
def Bi{d:Dk}(g:ru d):stepOf d=(d,0):=by
 unfold stepOf;rw[if_neg (by rw[g.down];decide),if_neg (by rw[g.nO];decide)];have hf:=g.nO;have hd:=g.down;obtain⟨⟨f,dn,u⟩,rest⟩:=d;simp only at hf hd;subst hd;rw[if_neg (by show ¬0<f;omega)]
def tp{d:Dk}(g:ru d){a:Int}{s:aD}(h0:0<=a)(h1:a<d.2.2.1.length)(hs:s.length<=64) :
  (bZ d a s).2=0/\(bZ d a s).1.2.2.1=d.2.2.1.set a.toNat (fK s)/\ru (bZ d a s).1:=by
 have e:bZ d a s=((d.1,d.2.1,d.2.2.1.set a.toNat (fK s),d.2.2.2.1++[(a,fK s,())],()),0):=by
  unfold bZ;rw[if_neg (by omega),Bi g,if_pos rfl]
 rw[e];refine⟨rfl,rfl,g.down,g.nO,by rw[ai];exact g.len,fun i hi =>?_,by rw[ai];exact g.Zz⟩;show(nth .str (d.2.2.1.set a.toNat (fK s)) i).length=64;have hi:i<(d.2.2.1.set a.toNat (fK s)).length:=hi;rw[ai]at hi;by_cases c:a.toNat=i
 ·subst c;rw[lE (t:=.str) hi];exact My hs
 ·rw[lD (t:=.str) c];exact g.sec i hi
def tq{d:Dk}(g:ru d):(cD d).2=0/\(cD d).1.2.2.1=d.2.2.1/\ru (cD d).1:=by
 have e:cD d=((d.1,d.2.2.1,d.2.2.1,[],()),0):=by
  unfold cD;rw[Bi g,if_pos rfl]
 rw[e];exact⟨rfl,rfl,g.down,g.nO,g.len,g.sec,rfl⟩
def Mz(bs:List Int):∀(pre:List Nat) {d:Dk} {s:Int},ru d->0<=s->s+(pre.length:Int)<=d.2.2.1.length->
  (n7 bs d s pre).2=0/\ru (n7 bs d s pre).1/\(n7 bs d s pre).1.2.2.1.length=d.2.2.1.length/\
  (∀j,j<pre.length->nth .str (n7 bs d s pre).1.2.2.1 (s.toNat+j)=fK (bytesOf (fG (t:=.int .u8) bs 64 (pre.getD j 0))))/\
  (∀i,i<s.toNat\/s.toNat+pre.length<=i->nth .str (n7 bs d s pre).1.2.2.1 i=nth .str d.2.2.1 i)
 |[],d,s,g,h0,h1=>⟨rfl,g,rfl,fun j hj=>absurd hj (cj _),fun i _=>rfl⟩
 |p :: r,d,s,g,h0,h1=>by
  have hc:(bytesOf (fG (t:=.int .u8) bs 64 p)).length<=64:=by rw[bytesOf,b8,tl];exact Nat.min_le_left _ _
  rw[ao]at h1;obtain⟨w1,w2,w3⟩:=tp g (a:=s) h0 (by omega) hc;have hl:(bZ d s (bytesOf (fG (t:=.int .u8) bs 64 p))).1.2.2.1.length=d.2.2.1.length:=by rw[w2,ai]
  obtain⟨k1,k2,k3,k4,k5⟩:=Mz bs r (s:=s+1) w3 (by omega) (by rw[hl];omega);have e:n7 bs d s (p :: r)=n7 bs (bZ d s (bytesOf (fG (t:=.int .u8) bs 64 p))).1 (s+1) r:=by
   rw[n7,if_pos w1]
  rw[e];have hs1:(s+1).toNat=s.toNat+1:=by omega
  refine⟨k1,k2,k3.trans hl,fun j hj =>?_,fun i hi =>?_⟩
  ·cases j with
   |zero=>
    rw[Nat.add_zero,k5 s.toNat (.inl (by omega)),w2,lE (t:=.str) (by omega)];rfl
   |succ j=>
    have:=k4 j (by simpa using hj);rw[hs1]at this;rw[show s.toNat+(j+1)=s.toNat+1+j by omega,this];rfl
  ·rw[ao]at hi
   rw[k5 i (by omega),w2,lD (t:=.str) (by omega)]
def Qs{d:Dk}(hs:∀i,i<d.2.2.1.length->(nth .str d.2.2.1 i).length=64){b:Int}(hb:0<=b):∀(n:Nat),b+(n:Int)<=d.2.2.1.length->∀i,i<64*n->(kH d b n)[i]?=(nth .str d.2.2.1 (b.toNat+i / 64))[i % 64]?
 |0,_,i,hi=>by omega
 |n+1,h,i,hi=>by
  have hl:=mm hs hb n (by omega);rw[SW];by_cases c:i<64*n
  ·rw[List.getElem?_append_left (by rw[hl];exact c)]
   exact Qs hs hb n (by omega) i c
  ·rw[List.getElem?_append_right (by rw[hl];omega),hl]
   have e1:i / 64=n:=by omega
   have e2:i-64*n=i % 64:=by omega
   rw[e1,e2,show Bh d (b+(n:Int))=nth .str d.2.2.1 (b.toNat+n)from congrArg (nth .str d.2.2.1) (by omega)]
def Wf(t:aD)(j r:Nat)(hr:r<64):(bytesOf (fG (t:=.int .u8) (bT t) 64 j))[r]?=t[j*64+r]?:=by
 have e:bytesOf (fG (t:=.int .u8) (bT t) 64 j)=(t.drop (j*64)).take 64:=by
  have h:∀l:aD,bytesOf (bT l)=l:=xF
  have h2:fG (t:=.int .u8) (bT t) 64 j=bT ((t.drop (j*64)).take 64):=by simp[fG,bT,List.map_take,List.map_drop]
  rw[h2,h]
 rw[e,List.getElem?_take,if_pos hr,List.getElem?_drop]
def abG{d:Dk}(hs:∀i,i<d.2.2.1.length->(nth .str d.2.2.1 i).length=64){b:Int}(hb:0<=b)(hb2:b+55<=d.2.2.1.length){t:aD}(ht:t.length<=3520)
  (hw:∀j,j<gR t.length 64->nth .str d.2.2.1 (b.toNat+j)=fK (bytesOf (fG (t:=.int .u8) (bT t) 64 j))):(kH d b 55).take t.length=t:=by
 apply de;intro i;by_cases c:i<t.length
 ·rw[List.getElem?_take,if_pos c,Qs hs hb 55 hb2 i (by omega)]
  have hj:i / 64<gR t.length 64:=by unfold gR;omega
  rw[hw _ hj];unfold fK;have hg:=Wf t (i / 64) (i % 64) (Nat.mod_lt _ (by decide));have hi:i / 64*64+i % 64=i:=by omega
  rw[hi]at hg;have hlt:i % 64<(bytesOf (fG (t:=.int .u8) (bT t) 64 (i / 64))).length:=by
   apply Classical.byContradiction;intro hn;rw[List.getElem?_eq_none (by omega)]at hg;rw[List.getElem?_eq_getElem c]at hg;cases hg
  rw[List.getElem?_append_left hlt,hg]
 ·rw[List.getElem?_take,if_neg c,List.getElem?_eq_none (by omega)]
def Wg(a b:Int)(s:aD):au 1 (aj 5 (gM a b++s))=lG a/\au 5 (aj 9 (gM a b++s))=lG b/\(bR (gM a b++s) 0).toNat=83:=by
 refine⟨rfl,rfl,rfl⟩
def MA{d:Dk}{p:Nat}{a b:Nat}(h:nth .str d.2.2.1 p=fK (gM a b))(ha:a<2^32)(hb:b<2^32) :
  ((bR (nth .str d.2.2.1 p) 0).toNat:Int)=83/\rv d p=(a:Int)/\sN d p=(b:Int):=by
 obtain⟨h1,h2,h3⟩:=Wg a b (ck (64-(gM a b).length) 0);rw[rW,tG,h];unfold fK;exact⟨by rw[h3];rfl,by rw[h1];exact IM ha,by rw[h2];exact IM hb⟩
structure kC (d:Dk) (r:Nat) (l:List (D aB)):Prop where
 iV:ru d
 quiet:d.2.2.2.1=[]
 vT:∀e∈l,bE e=0
 o6:l.length<=3
 r2:2<=r
 rM:r<=1000000000
 head:nth .str d.2.2.1 (r % 2)=fK (gM r (gO l).length)
 other:((bR (nth .str d.2.2.1 (1-r % 2)) 0).toNat:Int)≠83\/rv d (1-r % 2)<(r:Int)
 text:(kH d (2+((r % 2:Nat):Int)*55) 55).take (gO l).length=gO l
def Bj:∀{l:List (D aB)},(∀e∈l,bE e=0)->nq l=0
 |[],_=>rfl
 |e :: r,h=>by unfold nq;rw[if_neg (not_not_intro (h e (by simp)))];exact Bj fun x hx=>h x (by simp[hx])
def kC.small{d:Dk}{r:Nat}{l:List (D aB)}(h:kC d r l):(gO l).length<=2256:=by
 have:=yt h.vT;have:=h.o6;omega
def kC.hds{d:Dk}{r:Nat}{l:List (D aB)}(h:kC d r l):fH d 2=((r:Int),((gO l).length:Int)):=by
 have hr:=h.r2;have hM:=h.rM;have hs:=h.small;obtain⟨k1,k2,k3⟩:=MA h.head (by omega) (by omega);have ho:=h.other;rcases Nat.mod_two_eq_zero_or_one r with e|e
 ·rw[e]at k1 k2 k3 ho
  have h1:fH d 1=((r:Int),((gO l).length:Int)):=by
   rw[wU k1 (by rw[F1,k2];show(0:Int)<r;omega) (by rw[k3];omega),k2,k3]
  rw[B6 (i:=1) fun hh =>?_,h1];rcases ho with ho|ho
  ·exact ho hh.1
  ·have h2:=hh.2.1
   rw[h1]at h2;have h2:(r:Int)<rv d 1:=h2;have ho:rv d 1<(r:Int):=ho;omega
 ·rw[e]at k1 k2 k3 ho
  have h1:(fH d 1).1<(r:Int):=by
   by_cases c:((bR (nth .str d.2.2.1 0) 0).toNat:Int)=83/\(fH d 0).1<rv d 0/\sN d 0<=3520
   ·rw[wU c.1 c.2.1 c.2.2]
    rcases ho with ho|ho
    ·exact absurd c.1 ho
    ·exact ho
   ·rw[B6 c,F1];show(0:Int)<r;omega
  rw[wU (i:=1) k1 (by rw[k2];exact h1) (by rw[k3];omega),k2,k3]
def kC.lines{d:Dk}{r:Nat}{l:List (D aB)}(h:kC d r l):eC d=l.map hH++[[]]:=by
 rw[iO,ml,h.hds];have e:((r:Int)).tmod 2=((r % 2:Nat):Int):=by rw[bm (by omega)];omega
 simp only[e,aq];rw[h.text,F3 h.vT]
def kC.opens{d:Dk}{r:Nat}{l:List (D aB)}(h:kC d r l):dP d=(((r:Int),l),0):=by
 have h5:=h.hds;rw[Qr h.iV.down (by have:=h.iV.len;omega) (by rw[h5];have:=h.r2;show ¬(r:Int)=0;omega) (by rw[h.lines];exact Zy h.vT),h.lines,Zx h.vT,h5]
def S3{l:List (D aB)}(h:∀e∈l,bE e=0):(eK l).1=gO l:=by unfold eK;rw[if_neg (not_not_intro (Bj h))]
def C4{d:Dk}(g:ru d):(cD d).1.2.2.2.1=[]:=by
 have e:cD d=((d.1,d.2.2.1,d.2.2.1,[],()),0):=by unfold cD;rw[Bi g,if_pos rfl]
 rw[e]
def abH{d:Dk}{r:Nat}{l l':List (D aB)}(h:kC d r l)(hf:∀e∈l',bE e=0)(hn:l'.length<=3)(hr:r+1<=1000000000) :
  (gy d r l').2=0/\kC (gy d r l').1 (r+1) l':=by
 have hb:=Bj hf;have ht:=S3 hf;have hs:(gO l').length<=2256:=by have:=yt hf;omega
 have hlen:=h.iV.len;obtain⟨p,hp,hpd⟩:∃p:Nat,p<=1/\p=(r+1) % 2:=⟨_,by omega,rfl⟩
 have hm:((r:Int)+1).tmod 2=(p:Int):=by rw[bm (by omega)];omega
 have hq:r % 2=1-p:=by omega
 have hN:(jA l').length=gR (gO l').length 64:=by unfold jA;rw[b9,ht,CK]
 have hN2:gR (gO l').length 64<=36:=by unfold gR;omega
 obtain⟨a1,a2,a3,a4,a5⟩:=Mz (bT (gO l')) (jA l') (s:=2+(p:Int)*55) h.iV (by omega) (by rw[hN];omega);have ew:jz l' r d (jA l')=n7 (bT (gO l')) d (2+(p:Int)*55) (jA l'):=by unfold jz;rw[ht,hm]
 rw[<-ew]at a1 a2 a3 a4 a5;obtain⟨b1,b2,b3⟩:=tq a2;have ef:FW l' r d=cD (jz l' r d (jA l')).1:=rfl;rw[<-ef]at b1 b2 b3;obtain⟨c1,c2,c3⟩:=tp b3 (a:=(p:Int)) (s:=gM ((r:Int)+1) (gO l').length) (by omega) (by rw[b2,a3];omega) (by rw[IE];decide);have eh:y7 l' r d=bZ (FW l' r d).1 (p:Int) (gM ((r:Int)+1) (gO l').length):=by unfold y7;rw[ht,hm]
 rw[<-eh]at c1 c2 c3;obtain⟨e1,e2,e3⟩:=tq c3;have ek:gy d r l'=cD (y7 l' r d).1:=by
  unfold gy;rw[if_neg (not_not_intro hb),if_neg (not_not_intro a1),if_neg (not_not_intro b1),if_neg (not_not_intro c1)]
 rw[ek];have hsec:(cD (y7 l' r d).1).1.2.2.1=(jz l' r d (jA l')).1.2.2.1.set p (fK (gM ((r:Int)+1) (gO l').length)):=by
  rw[e2,c2,b2,aq]
 have hpl:p<(jz l' r d (jA l')).1.2.2.1.length:=by rw[a3];omega
 have htn:(2+(p:Int)*55).toNat=2+p*55:=by omega
 rw[htn]at a4 a5;refine⟨e1,{iV:=e3,quiet:=C4 c3,vT:=hf,o6:=hn,r2:=by have:=h.r2;omega,rM:=hr,head:=?_,other:=?_,text:=?_}⟩
 ·rw[<-hpd,hsec,lE (t:=.str) hpl];rfl
 ·rw[<-hpd]
  have hk:nth .str (cD (y7 l' r d).1).1.2.2.1 (1-p)=nth .str d.2.2.1 (1-p):=by
   rw[hsec,lD (t:=.str) (by omega),a5 _ (.inl (by omega))]
  have hh:=h.head;rw[hq]at hh;have hM:=h.rM;have hsm:=h.small;obtain⟨k1,k2,k3⟩:=MA hh (by omega) (by omega);right;rw[rW,hk,<-rW,k2];omega
 ·rw[<-hpd]
  refine abG (b:=2+(p:Int)*55) (fun i hi=>e3.sec i hi) (by omega) (by rw[hsec,ai,a3];omega) (by omega) fun j hj =>?_
  rw[htn,hsec,lD (t:=.str) (by omega),a4 j (by rw[hN];exact hj)];unfold jA;rw[ht,CK,List.getD_eq_getElem?_getD,List.getElem?_range hj];rfl
def yu{n:Int}(h:112<=n):ru (DL n) where
 down:=rfl
 nO:=rfl
 len:=by show 112<=(ck n.toNat (fK [])).length;rw[List.length_replicate];omega
 sec:=fun i hi=>by
  have:i<(ck n.toNat (fK [])).length:=hi;rw[show nth .str (DL n).2.2.1 i=fK []from List.eq_of_mem_replicate (eO (t:=.str) this)];exact My (by decide)
 Zz:=rfl
def vg{d:Dk}(g:ru d):(lR d).2=0/\kC (lR d).1 2 []:=by
 rw[pH];have hlen:=g.len;obtain⟨a1,a2,a3⟩:=tp g (a:=1) (s:=[]) (by omega) (by omega) (by decide);obtain⟨b1,b2,b3⟩:=tq a3;obtain⟨c1,c2,c3⟩:=tp b3 (a:=0) (s:=gM 2 0) (by omega) (by rw[b2,a2,ai];omega) (by rw[IE];decide);obtain⟨e1,e2,e3⟩:=tq c3;have ek:jB d=cD (bZ (cD (bZ d 1 []).1).1 0 (gM 2 0)).1:=by
  unfold jB;rw[if_neg (by omega),if_neg (not_not_intro a1),if_neg (not_not_intro b1),if_neg (not_not_intro c1)]
 rw[ek];have hsec:(cD (bZ (cD (bZ d 1 []).1).1 0 (gM 2 0)).1).1.2.2.1=(d.2.2.1.set 1 (fK [])).set 0 (fK (gM 2 0)):=by
  rw[e2,c2,b2,a2];rfl
 refine⟨e1,{iV:=e3,quiet:=C4 c3,vT:=fun e he=>absurd he (by simp),o6:=by simp,r2:=af _,rM:=by decide,head:=?_,other:=.inl ?_,text:=rfl}⟩
 ·rw[hsec];exact lE (t:=.str) (by rw[ai];omega)
 ·rw[hsec]
  show((bR (nth .str ((d.2.2.1.set 1 (fK [])).set 0 (fK (gM 2 0))) 1) 0).toNat:Int)≠83;rw[lD (t:=.str) (by omega),lE (t:=.str) (by omega)];decide
structure fC (x:Sh) (m:List (D aB)) (k:Nat):Prop where
 list:x.1.2.1=m
 names:(m.map (·.1)).Nodup
 G1:∃r:Nat,(x.1.1:Int)=(r:Int)/\r<=2+k/\kC x.2 r m
def yv{x:Sh}{m l:List (D aB)}{k:Nat}(h:fC x m k)(hk:k<=1000)(hf:∀e∈l,bE e=0)(hl:l.length<=3)(hn:(l.map (·.1)).Nodup):(vb x l).2=0/\fC (vb x l).1 l (k+1):=by
 obtain⟨r,h1,h2,h3⟩:=h.G1;obtain⟨k1,k2⟩:=abH h3 hf hl (by omega);unfold vb;rw[show(x.1.1:Int)=(r:Int)from h1,if_pos k1];exact⟨k1,rfl,hn,r+1,rfl,by omega,k2⟩
def fC.next{x:Sh}{m:List (D aB)}{k:Nat}(h:fC x m k):fC x m (k+1):=⟨h.list,h.names,let⟨r,h1,h2,h3⟩:=h.G1;⟨r,h1,by omega,h3⟩⟩
def Wh{m:List (D aB)}{e:D aB}{i:Nat}(hi:i<m.length)(he:(nth aB m i).1=e.1):(m.set i e).map (·.1)=m.map (·.1):=by
 apply de;intro j;rw[List.getElem?_map,List.getElem?_map,List.getElem?_set];by_cases c:i=j
 ·subst c
  rw[if_pos rfl,if_pos hi];have:=oV (t:=aB) hi;rw[this];simp[he]
 ·rw[if_neg c]
def ZA{p:Nat->Prop}(h:∃i,p i):∃i,(∀j,j<i->¬p j)/\p i:=by
 obtain⟨i,hi⟩:=h;induction i using Nat.strongRecOn with
 |ind i ih=>
  by_cases c:∃j,j<i/\p j
  ·obtain⟨j,h1,h2⟩:=c;exact ih j h1 h2
  ·exact⟨i,fun j hj hp=>c ⟨j,hj,hp⟩,hi⟩
def B7(m:List (D aB))(s:aD):(∃i,i<m.length/\(∀j,j<i->(nth aB m j).1≠s)/\(nth aB m i).1=s/\eS m s=(i:Int))\/((∀j,j<m.length->(nth aB m j).1≠s)/\eS m s= -1):=by
 by_cases h:∃i,i<m.length/\(nth aB m i).1=s
 ·left
  obtain⟨i,h0,h1,h2⟩:=ZA h;exact⟨i,h1,fun j hj e=>h0 j hj ⟨by omega,e⟩,h2,rU h1 (fun j hj e=>h0 j hj ⟨by omega,e⟩) h2⟩
 ·right
  have h':∀j,j<m.length->(nth aB m j).1≠s:=fun j hj e=>h ⟨j,hj,e⟩
  exact⟨h',rr h'⟩
def ZB{m:List (D aB)}{e:D aB}{i:Nat}(h:∀x∈m,bE x=0)(he:bE e=0):∀x∈m.set i e,bE x=0:=fun x hx=>by
 rcases df hx with h1|h1
 ·exact h x h1
 ·exact h1▸he
def MB{m:List (D aB)}{s:aD}(h:∀j,j<m.length->(nth aB m j).1≠s):s∉m.map (·.1):=fun hm=>by
 obtain⟨e,he,rfl⟩:=ay.1 hm;obtain⟨j,hj,rfl⟩:=gT (t:=aB) he;exact h j hj rfl
def ZC{x:Sh}{m:List (D aB)}{k:Nat}(h:fC x m k)(hk:k<=1000)(e:D aB):(mT x e).2=(ln m e).2/\fC (mT x e).1 (ln m e).1 (k+1):=by
 obtain⟨r,h1,h2,h3⟩:=h.G1;have hl:=h.list;by_cases hf:bE e=0
 ·rcases B7 m e.1 with⟨i,i1,i2,i3,i4⟩|⟨j1,j2⟩
  ·rw[Qq hf (by rw[hl,i4];omega),hl,i4,D6 (by omega) i1 i2 i3,aq]
   exact yv h hk (ZB h3.vT hf) (by rw[ai];exact h3.o6) (by rw[Wh i1 i3];exact h.names)
  ·by_cases c:(m.length:Int)=3
   ·rw[Mt hf (by rw[hl,j2];omega) (by rw[hl];exact c),Bg (by omega) j1 c]
    exact⟨rfl,h.next⟩
   ·rw[GY hf (by rw[hl,j2];omega) (by rw[hl];exact c),hl,yr (by omega) j1 c]
    refine yv h hk (fun y hy =>?_) (by rw[ad,br];have:=h3.o6;omega) ?_
    ·rcases ak.1 hy with hy|hy
     ·exact h3.vT y hy
     ·rw[a8.1 hy];exact hf
    ·rw[List.map_append,List.nodup_append]
     refine⟨h.names,by simp,fun a ha b hb hab =>?_⟩;rw[List.map_singleton,a8]at hb;exact MB j1 (by rw[<-hb,<-hab];exact ha)
 ·have:=yW e
  rw[II hf,yq (by omega)];exact⟨rfl,h.next⟩
def F5{m:List (D aB)}{s:aD}(h:s∉m.map (·.1)):jf m s=m:=by
 unfold jf;exact dd.2 fun e he=>decide_eq_true fun hh=>h (ay.2 ⟨e,he,hh⟩)
def MC:∀{m:List (D aB)} {s:aD} {i:Nat},(m.map (·.1)).Nodup->i<m.length->(nth aB m i).1=s->jf m s=m.eraseIdx i
 |[],_,_,_,h,_=>absurd h (cj _)
 |e :: r,s,0,hn,_,he=>by
  have he:e.1=s:=he;rw[bn,cm]at hn;have h2:=F5 (m:=r) (s:=s) (by rw[<-he];exact hn.1);unfold jf at*;rw[ch,if_neg (by simp[he]),h2];rfl
 |e :: r,s,i+1,hn,hi,he=>by
  have he:(nth aB r i).1=s:=he;rw[bn,cm]at hn;have hi:i<r.length:=by simpa using hi
  have h2:=MC (m:=r) (s:=s) (i:=i) hn.2 hi he;have hne:e.1≠s:=fun hh=>hn.1 (by rw[hh,<-he];exact ay.2 ⟨_,eO (t:=aB) hi,rfl⟩)
  unfold jf at*;rw[ch,if_pos (decide_eq_true hne),h2];rfl
def IN{x:Sh}{m:List (D aB)}{k:Nat}(h:fC x m k)(hk:k<=1000)(s:aD):(ir x s).2=(jo m s).2/\fC (ir x s).1 (jo m s).1 (k+1):=by
 obtain⟨r,h1,h2,h3⟩:=h.G1;have hl:=h.list;rcases B7 m s with⟨i,i1,i2,i3,i4⟩|⟨j1,j2⟩
 ·have e:=MC h.names i1 i3
  have el:(m.eraseIdx i).length=m.length-1:=by rw[List.length_eraseIdx,if_pos i1]
  have ed:jo m s=(m.eraseIdx i,0):=by unfold jo;rw[if_neg (by rw[e,el];omega),e]
  unfold ir;rw[if_pos (by rw[hl,i4];omega),hl,i4,ed,aq];exact yv h hk (fun y hy=>h3.vT y (List.mem_of_mem_eraseIdx hy)) (by rw[el];have:=h3.o6;omega) (h.names.sublist ((List.eraseIdx_sublist m i).map _))
 ·have e:=F5 (MB j1)
  have ed:jo m s=(m,5):=by unfold jo;rw[if_pos (by rw[e]),]
  unfold ir;rw[if_neg (by rw[hl,j2];omega),ed];exact⟨rfl,h.next⟩
def kD:Sh:=((2,[],()),(lR (DL 112)).1)
def gL:fC kD [] 0:=⟨rfl,List.nodup_nil,2,rfl,af _,(vg (yu (bd _))).2⟩
def fC.at{x:Sh}{m:List (D aB)}{k:Nat}(h:fC x m k):∃r:Nat,x.1=((r:Int),m,())/\r<=2+k/\kC x.2 r m:=by
 obtain⟨r,h1,h2,h3⟩:=h.G1;exact⟨r,aw h1 (aw h.list rfl),h2,h3⟩
def fC.opens{x:Sh}{m:List (D aB)}{k:Nat}(h:fC x m k):dP x.2=((x.1.1,m),0):=by
 obtain⟨r,h1,h2,h3⟩:=h.at;rw[h3.opens,h1]
def fC.B8{x:Sh}{m:List (D aB)}{k:Nat}(h:fC x m k):(dP x.2).2=0:=by rw[h.opens]
def fC.again{x:Sh}{m:List (D aB)}{k:Nat}(h:fC x m k):(((dP x.2).1.1,(dP x.2).1.2,()):Int×List (D aB)×Unit)=x.1:=by
 rw[h.opens];exact aw rfl (aw h.list.symm rfl)
def kC.vh{d:Dk}{r:Nat}{l:List (D aB)}(h:kC d r l):dN d 1000000:=⟨by have:=h.iV.nO;omega,by rw[h.quiet];exact bx _,h.iV.Zz⟩
def fC.vh{x:Sh}{m:List (D aB)}{k:Nat}(h:fC x m k):dN x.2 1000000:=let⟨_,_,_,h3⟩:=h.at;h3.vh
def fC.sec{x:Sh}{m:List (D aB)}{k:Nat}(h:fC x m k):∀i,i<x.2.2.2.1.length->(nth .str x.2.2.2.1 i).length=64:=let⟨_,_,_,h3⟩:=h.at;h3.iV.sec
def fC.o6{x:Sh}{m:List (D aB)}{k:Nat}(h:fC x m k):x.1.2.1.length<=3:=by rw[h.list];let⟨_,_,_,h3⟩:=h.at;exact h3.o6
def fC.round{x:Sh}{m:List (D aB)}{k:Nat}(h:fC x m k):0<=(x.1.1:Int)/\(x.1.1:Int)<=2+k:=by
 obtain⟨r,h1,h2,_⟩:=h.G1;omega
def fC.aeb{x:Sh}{m:List (D aB)}{k:Nat}(h:fC x m k)(hk:k<=1000):x.1.2.1.length<=100/\0<=(x.1.1:Int)/\(x.1.1:Int)<=1000000000/\dN x.2 1000000:=
 ⟨al h.o6 (by decide),h.round.1,by have:=h.round.2;omega,h.vh⟩
def fC.Qt{x:Sh}{m:List (D aB)}{k:Nat}(h:fC x m k)(hk:k<=1000):x.1.2.1.length<=99/\0<=(x.1.1:Int)/\(x.1.1:Int)<=1000000000/\dN x.2 1000000:=
 ⟨al h.o6 (by decide),h.round.1,by have:=h.round.2;omega,h.vh⟩
def OM(m:List (D aB))(e:D aB):0<=(ln m e).2:=by
 unfold ln;split
 ·have:=yW e;exact this
 ·split
  ·show(0:Int)<=2;decide
  ·exact bd 0
def MD(m:List (D aB))(s:aD):0<=(jo m s).2:=by
 unfold jo;split
 ·show(0:Int)<=5;decide
 ·exact bd 0
def fC.adS{x:Sh}{m:List (D aB)}{k:Nat}(h:fC x m k)(hk:k<=1000)(s:aD):fJ (aL (ir x s).2) (jo m s).2=true:=by
 rw[(IN h hk s).1];exact pV (MD m s)
def rX{a b:List (List UInt8)}(h:a=b):lC a b=true:=decide_eq_true h
def fC.self{x:Sh}{m:List (D aB)}{k:Nat}(h:fC x m k):fC x x.1.2.1 k:=by rw[h.list];exact h
def fC.aa1{x:Sh}{m:List (D aB)}{k:Nat}(h:fC x m k):(dP x.2).1.2=x.1.2.1:=by rw[h.opens,h.list]
def fC.Ss{x:Sh}{m:List (D aB)}{k:Nat}(h:fC x m k):(dP x.2).1.2.length<=1000000:=by
 rw[h.aa1];exact al h.o6 (by decide)
def fC.len{x:Sh}{m:List (D aB)}{k:Nat}(h:fC x m k):x.1.2.1.length<=1000000:=al h.o6 (by decide)
def IP{b:List Int}{i n:Int}{t:D aQ}(h:(l8 b i t n).2.isNil=true):(-2147483648:Int)<=(l8 b i t n).1/\(l8 b i t n).1<=(2147483647:Int):=by
 unfold l8 at h ⊢;split
 ·rename_i hk
  rw[if_pos hk]at h;split
  ·exact⟨by decide,by decide⟩
  ·rename_i h1
   exact⟨by show(-2147483648:Int)<=n-(pX b i.toNat+t.1);omega,by show n-(pX b i.toNat+t.1)<=(2147483647:Int);omega⟩
 ·split
  ·exact⟨by decide,by decide⟩
  ·rename_i h1
   exact⟨by show(-2147483648:Int)<=n;omega,by show n<=(2147483647:Int);omega⟩
def ZD{l:List (D aA)}{b:List Int}{i:Int}{t:D aQ}(h:(fP l b i t).2.isNil=true):(-2147483648:Int)<=(fP l b i t).1/\(fP l b i t).1<=(2147483647:Int):=by
 unfold fP at h ⊢;split
 ·rename_i hk;rw[if_pos hk]at h;exact IP h
 ·rename_i hk
  rw[if_neg hk]at h;split
  ·rename_i h1;rw[if_pos h1]at h;exact IP h
  ·exact⟨show(-2147483648:Int)<=0 by decide,show(0:Int)<=2147483647 by decide⟩
def ME{l:List (D aA)}{b:List Int}:∀{os:List (D aA)} {i:Nat},(∀k,k<os.length->(nth aA os k).2.2.2.1.length<=6)->(sX l b os i).length<=6*os.length
 |[],i,_=>by simp[sX]
 |o :: r,i,h=>by
  have h0:o.2.2.2.1.length<=6:=h 0 (by simp);have hr:=ME (l:=l) (b:=b) (os:=r) (i:=i+1) fun k hk=>h (k+1) (by simp;omega)
  have hl:(DV l b i o.2.2.2.1).length=o.2.2.2.1.length:=by simp[DV]
  show(DV l b i o.2.2.2.1++sX l b r (i+1)).length<=6*(r.length+1);rw[ad];omega
def IQ(s:List Int):∀k,kv s k % 16=0
 |0=>rfl
 |k+1=>by
  have h:=IQ s k;show(kv s k+cP (nth (.int .i64) s k)) % 16=0;unfold cP;omega
def jr.base{rd:Rd}{root:aD}{ns:List aD}{os:List (D aA)}{bs:List Int}{ps:List Pt}(h:jr rd root ns os bs ps){i:Nat}(hi:i<os.length) :
  (0:Int)<=nth (.int .i64) bs i/\nth (.int .i64) bs i<=(255:Int)/\nth (.int .i64) bs i % (16:Int)=0:=by
 obtain⟨h1,h2,h3⟩:=h.sum;have hs:∀j,j<(bV os).length->1<=(nth (.int .i64) (bV os) j:Int)/\(nth (.int .i64) (bV os) j:Int)<=40:=by
  intro k hk;rw[pF]at hk;rw[Fu hk];have:=h1 k hk;exact⟨bb.2 this.1,bb.2 this.2⟩
 have hm:=R8 hs (os.length-(i+1)) (i+1) (by rw[pF];omega);rw[show i+1+(os.length-(i+1))=os.length by omega]at hm;have e:kv (bV os) (i+1)=kv (bV os) i+cP (nth (.int .i64) (bV os) i):=rfl;have hr:=(Om (n:=nth (.int .i64) (bV os) i)).1;have hp:=(hs i (by rw[pF];exact hi)).1;have hb:=h.bi i (by rw[h.bl];exact hi);refine⟨hb.1,?_,by rw[h3 i hi];exact IQ _ _⟩;rw[h3 i hi];have h2:kv (bV os) os.length<=256:=h2;have hr:(nth (.int .i64) (bV os) i:Int)<=cP (nth (.int .i64) (bV os) i):=hr;have hp:(1:Int)<=nth (.int .i64) (bV os) i:=hp;have key:∀b c d s:Int,b=c+d->s<=d->1<=s->b<=256->c<=255:=by intros;omega
 exact key _ _ _ _ e hr hp (ba hm h2)
def S4{x:cY}(g:ig x){root:aD}{ns:List aD}{os:List (D aA)}{bs:List Int}{ps:List Pt}(h:jr (aO x) root ns os bs ps):bE (root,cS (aO x) ns bs ns.length,ps,())=0:=by
 have hrd:∀j,j<ns.length->(aO x (nth .str ns j)).2.2=0:=fun j hj=>(lZ g.ok (h.sc.AV j hj).1).1
 have hl:=h.sc.len;have hle:=h.sc.le;have hpos:=h.sc.pos;have hroot:aJ root=0:=by
  have:=(g.read (hrd 0 hpos)).1;rw[h.sc.head]at this;exact this
 have hps:ps.length<=36:=by
  rw[h.pt];have:=ME (l:=os) (b:=bs) (os:=os) (i:=0) fun k hk=>(h.sc.obj g.ok hk).t6
  omega
 refine A7 (Int.le_of_eq hroot) (eI ?_ ?_ ?_) (fun j hj =>?_) (fun j hj =>?_)
 ·show(1:Int)<=((cS (aO x) ns bs ns.length).length:Int);rw[fB];omega
 ·show((cS (aO x) ns bs ns.length).length:Int)<=6;rw[fB];omega
 ·show(ps.length:Int)<=36;omega
 ·have hj:j<ns.length:=by rw[<-fB (aO x) ns bs ns.length];exact hj
  show eH (nth aG (cS (aO x) ns bs ns.length) j)=0;rw[jJ hj];obtain⟨r1,_,r3,r4⟩:=g.read (hrd j hj);obtain⟨b1,b2,b3⟩:=h.base (i:=j) (by omega);have hm:=g.st.pre.2.2;exact D0 (Int.le_of_eq r1) r3 (ba r4 hm) b1 b2 b3
 ·have hj:j<ps.length:=hj
  show dS (cS (aO x) ns bs ns.length).length (nth aN ps j)=0;rw[fB];have hp:=h.okp j hj;have hmem:nth aN ps j∈sX os bs os 0:=by rw[<-h.pt];exact eO (t:=aN) hj
  obtain⟨k,t,hk,ht,e⟩:=DW hmem;rw[Nat.zero_add]at e;have hw:=ZD (h.one k hk t ht);have h40:=(h.sc.obj g.ok hk).w40;have h2:=hp.2.2.2;have h1:=hp.2.1;rw[nJ]at h1;have ek:(nth aN ps j).1=(k:Int):=by rw[e]
  rw[ek,aq,rl hk]at h2;refine FK hp.1 (by rw[ek];omega) hp.2.2.1 (Int.le_of_lt_add_one (show _<(39:Int)+1 from Int.lt_of_lt_of_le h2 (bb.2 h40))) ?_ ?_
  ·rw[e];exact hw.1
  ·rw[e];exact hw.2
def vj{x:cY}(g:ig x){root:aD}(h1:(aL (cJ (aO x) root).2).isNil=true) :
  (cI (aO x) root).2=0/\ll (aO x) (cJ (aO x) root).1=cI (aO x) root/\eG (aO x) (cJ (aO x) root).1=true/\bE (cJ (aO x) root).1=0:=by
 obtain⟨ns,os,bs,ps,e,hr,em⟩:=Iw g.ok h1;have hf:=hr.fresh g.ok;have hu:=hr.use g.ok (rd':=aO x) (fun _ _=>rfl) hf;have hl:=GO e hr;rw[em];exact⟨by rw[hl],hu.trans hl.symm,hf,S4 g hr⟩
def ZE{rd:Rd}(ok:fZ rd){root:aD}(h:(aL (cJ rd root).2).isNil=false):(cJ rd root).2=(cI rd root).2/\(cJ rd root).1=cB aB:=by
 rcases FF ok root with⟨f,hf,e,em⟩|⟨ns,os,bs,ps,e,hr,em⟩
 ·rw[em,rR (by rw[e];show ¬f=0;omega),e];exact⟨rfl,rfl⟩
 ·rw[em]at h;cases h
def n8(f:cY)(e:D aB):Prop:=∃f0:cY,ig f0/\f0.1.1<=f.1.1/\cJ (aO f0) e.1=(e,0)/\∀k,(aO f k).2.2=0->(aO f k).2.1<=f0.1.1->aO f k=aO f0 k
def S5(f:cY)(s t k:aD):aO (cW f s t).1 k=aO f k\/(aO (cW f s t).1 k).2.1=f.1.1+1:=by
 cases he:(aL (cW f s t).2).isNil with
 |false=>left;rw[U3 he]
 |true=>
  by_cases e:k=s
  ·right;rw[e,U2 he]
  ·left;exact RY e
def n8.write{f:cY}{e:D aB}(h:n8 f e)(g:ig f)(s t:aD):n8 (cW f s t).1 e:=by
 obtain⟨f0,h1,h2,h3,h4⟩:=h;refine⟨f0,h1,ba h2 (g.st.write s t).2,h3,fun k a b =>?_⟩;rcases S5 f s t k with c|c
 ·rw[c]at a b ⊢;exact h4 k a b
 ·have h2:(f0.1.1:Int)<=f.1.1:=h2
  have b:((aO (cW f s t).1 k).2.1:Int)<=f0.1.1:=b;rw[c]at b;omega
def IS{s:aD}:∀{es:List FE},(es.map rf).Nodup->dO dI (iF dI es s) s=false
 |[],_=>rfl
 |y :: es,h=>by
  rw[bn,cm]at h;by_cases e:y.1=s
  ·have hd:iF dI (y :: es) s=es:=if_pos e
   rw[hd];cases hh:dO dI es s with
   |false=>rfl
   |true=>
    obtain⟨z,hz,e2⟩:=nI.1 hh;exact absurd (ay.2 ⟨z,hz,(e2.trans e.symm:rf z=rf y)⟩) h.1
  ·have hd:iF dI (y :: es) s=y :: iF dI es s:=if_neg e
   rw[hd];have:=IS (s:=s) h.2;simp only[dO]at this ⊢;simp[this,e]
def Wi{f:cY}(g:ig f)(s:aD):(aO (eP f s).1 s).2.2=5:=by
 obtain⟨r,hr⟩:=g.st.iV;cases hh:dO dI f.2.1.1 s with
 |false=>rw[ot hh,nv hh]
 |true=>
  rw[ng hh,nv];exact IS hr.names
def n8.remove{f:cY}{e:D aB}(h:n8 f e)(g:ig f)(s:aD):n8 (eP f s).1 e:=by
 obtain⟨f0,h1,h2,h3,h4⟩:=h;refine⟨f0,h1,ba h2 (g.st.remove s).2,h3,fun k a b =>?_⟩;by_cases c:k=s
 ·subst c;rw[Wi g]at a;cases a
 ·rw[Vw c]at a b ⊢;exact h4 k a b
def n8.self{f:cY}(g:ig f){s:aD}{e:D aB}(h:cJ (aO f) s=(e,0))(hs:e.1=s):n8 f e:=⟨f,g,bd _,by rw[hs];exact h,fun _ _ _=>rfl⟩
def IT{rd:Rd}{s:aD}(h:(cJ rd s).2=0):(cJ rd s).1.1=s:=by
 unfold cJ at h ⊢;split
 ·rename_i c;rw[if_pos c]at h;exact absurd h c
 ·rfl
def n8.aec{f:cY}{e:D aB}(h:n8 f e)(hf:eG (aO f) e=true):cJ (aO f) e.1=(e,0):=by
 obtain⟨f0,h1,h2,h3,h4⟩:=h;obtain⟨ns,os,bs,ps,e1,hr,em⟩:=Iw h1.ok (root:=e.1) (by rw[h3];rfl);have he:e=(e.1,cS (aO f0) ns bs ns.length,ps,()):=by
  have:=em;rw[h3]at this;exact congrArg Prod.fst this
 rw[Sw e1 hr (rd':=aO f) fun k hk =>?_,h3];obtain⟨j,hj,rfl⟩:=gT (t:=.str) hk;obtain⟨_,q⟩:=Ir hf;have hst:e.2.1=cS (aO f0) ns bs ns.length:=by rw[he]
 have qj:=q j (by rw[hst,fB];exact hj);rw[hst,jJ hj]at qj;simp only at qj;have hrd:(aO f0 (nth .str ns j)).2.2=0:=by
  have:=Iu h1.ok (s:=e.1) (by rw[e1]) (i:=j) (by rw[e1];exact hj);rw[e1]at this;exact this
 refine h4 _ qj.1 ?_;rw[qj.2];exact(h1.read hrd).2.2.2
def iC(f:cY)(l:List (D aB))(s:aD):List (D cE)×Bool×Int:=
 if(dA l s).2=true/\eG (aO f) (dA l s).1=true then((ll (aO f) (dA l s).1).1,decide ((ll (aO f) (dA l s).1).2=0),(ll (aO f) (dA l s).1).2)
 else((cI (aO f) s).1,false,(cI (aO f) s).2)
def IU{l:List (D aB)}{s:aD}(h:(dA l s).2=true):(dA l s).1∈l/\(dA l s).1.1=s:=by
 rcases B7 l s with⟨i,i1,i2,i3,i4⟩|⟨j1,j2⟩
 ·rw[wT (by omega),i4,aq];exact⟨eO (t:=aB) i1,i3⟩
 ·rw[FY (by omega)]at h;cases h
structure kQ (f:cY) (l:List (D aB)):Prop where
 iV:ig f
 made:∀e∈l,n8 f e
def kQ.new:kQ oE []:=⟨.new,fun e he=>absurd he (by simp)⟩
def kQ.write{f:cY}{l:List (D aB)}(h:kQ f l)(s t:aD):kQ (cW f s t).1 l:=⟨h.iV.write s t,fun e he=>(h.made e he).write h.iV s t⟩
def kQ.remove{f:cY}{l:List (D aB)}(h:kQ f l)(s:aD):kQ (eP f s).1 l:=⟨h.iV.remove s,fun e he=>(h.made e he).remove h.iV s⟩
def ZF{l:List (D aB)}{e x:D aB}(h:x∈(ln l e).1):x=e\/x∈l:=by
 unfold ln at h;split at h
 ·exact .inr h
 ·split at h
  ·exact .inr h
  ·rename_i l' hl
   unfold tn at hl;split at hl
   ·cases hl
    rcases df h with h|h
    ·exact .inr h
    ·exact .inl h
   ·split at hl
    ·cases hl
    ·cases hl
     rcases ak.1 h with h|h
     ·exact .inr h
     ·exact .inl (a8.1 h)
def Wj{l:List (D aB)}{s:aD}{x:D aB}(h:x∈(jo l s).1):x∈l:=by
 unfold jo at h;split at h
 ·exact h
 ·exact(List.mem_filter.1 h).1
def ky(f:cY)(l:List (D aB))(s:aD):List (D aB)×Int:=if(cJ (aO f) s).2=0 then ln l (cJ (aO f) s).1 else(l,(cJ (aO f) s).2)
def kQ.put{f:cY}{l:List (D aB)}(h:kQ f l){s:aD}(hm:(cJ (aO f) s).2=0):kQ f (ln l (cJ (aO f) s).1).1:=by
 refine⟨h.iV,fun x hx =>?_⟩;rcases ZF hx with rfl|hx
 ·exact n8.self h.iV (aw rfl hm) (IT hm)
 ·exact h.made x hx
def kQ.build{f:cY}{l:List (D aB)}(h:kQ f l)(s:aD):kQ f (ky f l s).1:=by
 unfold ky;split
 ·rename_i hm;exact h.put hm
 ·exact h
def kQ.drop{f:cY}{l:List (D aB)}(h:kQ f l)(s:aD):kQ f (jo l s).1:=⟨h.iV,fun x hx=>h.made x (Wj hx)⟩
def kQ.load{f:cY}{l:List (D aB)}(h:kQ f l)(s:aD):(iC f l s).1=(cI (aO f) s).1/\(iC f l s).2.2=(cI (aO f) s).2/\
  (iC f l s).2.1=((dA l s).2&&eG (aO f) (dA l s).1)/\((iC f l s).2.1=true->(cI (aO f) s).2=0):=by
 unfold iC;by_cases c:(dA l s).2=true/\eG (aO f) (dA l s).1=true
 ·rw[if_pos c]
  obtain⟨m1,m2⟩:=IU c.1;have ha:=(h.made _ m1).aec c.2;rw[m2]at ha;obtain⟨u1,u2,u3,u4⟩:=vj h.iV (root:=s) (by rw[ha];rfl);rw[ha]at u2;rw[u2,u1,c.1,c.2];exact⟨rfl,rfl,rfl,fun _=>rfl⟩
 ·rw[if_neg c]
  refine⟨rfl,rfl,?_,fun e=>by cases e⟩;show false=_;exact(Bool.eq_false_iff.2 fun e=>c (by rw[ab]at e;exact e)).symm
def vU(x:Sh):Prop:=x.1.2.1.length<=99/\0<=(x.1.1:Int)/\(x.1.1:Int)<=1000000000/\dN x.2 1000000
def vV(l:List (D aB)):Prop:=∀i,i<l.length->(nth aB l i).2.1.length<=1000/\(nth aB l i).2.2.1.length<=1000
def jC(f:cY)(x:Sh)(s:aD):Sh×Int:=if(cJ (aO f) s).2=0 then mT x (cJ (aO f) s).1 else(x,(cJ (aO f) s).2)
def Wk{f:cY}{x:Sh}{s:aD}(h:¬(cJ (aO f) s).2=0):jC f x s=(x,(cJ (aO f) s).2):=by unfold jC;rw[if_neg h]
def S6{f:cY}{x:Sh}{s:aD}(h:(cJ (aO f) s).2=0):jC f x s=mT x (cJ (aO f) s).1:=by unfold jC;rw[if_pos h]
def S7{f:cY}(g:ig f){s:aD}(h:(cJ (aO f) s).2=0):(cJ (aO f) s).1.2.1.length<=1000000/\(cJ (aO f) s).1.2.2.1.length<=1000000:=by
 have:=nn (vj g (root:=s) (aV.2 h)).2.2.2;have h1:=this.p6;have h2:=this.FL;exact⟨by omega,by omega⟩
def Wl{l:List (D aB)}(h:vV l){s:aD}(hs:(dA l s).2=true):(dA l s).1.2.1.length<=1000:=by
 obtain⟨j,hj,e⟩:=gT (t:=aB) (IU hs).1;rw[<-e];exact(h j hj).1
def vV.wide{l:List (D aB)}(h:vV l):∀i,i<l.length->(nth aB l i).2.1.length<=1000000/\(nth aB l i).2.2.1.length<=1000000:=fun i hi=>by
 have:=h i hi;omega
def IV{f:cY}{l:List (D aB)}{s:aD}(h1:(dA l s).2=true)(h2:eG (aO f) (dA l s).1=true) :
  iC f l s=((ll (aO f) (dA l s).1).1,decide ((ll (aO f) (dA l s).1).2=0),(ll (aO f) (dA l s).1).2):=by unfold iC;rw[if_pos ⟨h1,h2⟩]
def Bk{f:cY}{l:List (D aB)}{s:aD}(h:¬((dA l s).2=true/\eG (aO f) (dA l s).1=true)):iC f l s=((cI (aO f) s).1,false,(cI (aO f) s).2):=by unfold iC;rw[if_neg h]
def abI(n:Int):(aL n).isNil=decide (n=0):=by
 cases h:(aL n).isNil with
 |true=>rw[decide_eq_true (aV.1 h)]
 |false=>rw[decide_eq_false fun e=>by rw[aV.2 e]at h;cases h]
def kY(rd:Rd)(l:List (D aB))(s:aD):List (D aB)×Int:=if(cJ rd s).2 > 0 then(l,(cJ rd s).2)else ln l (cJ rd s).1
def Wm{rd:Rd}{l:List (D aB)}{s:aD}(h:(cJ rd s).2 > 0):kY rd l s=(l,(cJ rd s).2):=by unfold kY;rw[if_pos h]
def S8{rd:Rd}{l:List (D aB)}{s:aD}(h:(cJ rd s).2<=0):kY rd l s=ln l (cJ rd s).1:=by unfold kY;rw[if_neg (by omega)]
def sq(rd:Rd)(l:List (D aB))(s:aD):List (D cE)×Bool×Int:=((cI rd s).1,(dA l s).2&&eG rd (dA l s).1,(cI rd s).2)
structure gu (f:cY) (m:RS) (x:Sh) (k:Nat):Prop where
 files:dU f m
 kept:kQ f x.1.2.1
 kR:fC x x.1.2.1 k
def gu.rd{f:cY}{m:RS}{x:Sh}{k:Nat}(h:gu f m x k):aO f=bU m.1:=funext fun s=>h.files.read s
def gu.rok{f:cY}{m:RS}{x:Sh}{k:Nat}(h:gu f m x k):fZ (bU m.1):=by rw[<-h.rd];exact h.kept.iV.ok
def gu.write{f:cY}{m:RS}{x:Sh}{k:Nat}(h:gu f m x k)(s t:aD):gu (cW f s t).1 (jk m s t).1 x (k+1):=⟨(h.files.write s t).1,h.kept.write s t,h.kR.next⟩
def gu.remove{f:cY}{m:RS}{x:Sh}{k:Nat}(h:gu f m x k)(s:aD):gu (eP f s).1 (jg m s).1 x (k+1):=⟨(h.files.remove s).1,h.kept.remove s,h.kR.next⟩
def gu.next{f:cY}{m:RS}{x:Sh}{k:Nat}(h:gu f m x k):gu f m x (k+1):=⟨h.files,h.kept,h.kR.next⟩
def gu.adg{f:cY}{m:RS}{x:Sh}{k:Nat}(h:gu f m x k)(hk:k<=1000):vU x:=h.kR.Qt hk
def fC.ZG{x:Sh}{m:List (D aB)}{k:Nat}(h:fC x m k):vV x.1.2.1:=fun i hi=>by
 obtain⟨r,h1,h2,h3⟩:=h.at;rw[h.list]at hi ⊢;have h:=nn (h3.vT _ (eO (t:=aB) hi));have h1:=h.p6;have h2:=h.FL;exact⟨by omega,by omega⟩
def F6{f:cY}{x:Sh}{k:Nat}(g:ig f)(h:fC x x.1.2.1 k)(hk:k<=1000)(s:aD):(jC f x s).2=(ky f x.1.2.1 s).2/\fC (jC f x s).1 (ky f x.1.2.1 s).1 (k+1):=by
 unfold jC ky;by_cases c:(cJ (aO f) s).2=0
 ·rw[if_pos c,if_pos c];exact ZC h hk _
 ·rw[if_neg c,if_neg c];exact⟨rfl,h.next⟩
def gu.ky{f:cY}{m:RS}{x:Sh}{k:Nat}(h:gu f m x k)(s:aD):ky f x.1.2.1 s=kY (bU m.1) x.1.2.1 s:=by
 unfold Mrl.ky kY;rw[h.rd];have:=OI h.rok s;by_cases c:(cJ (bU m.1) s).2=0
 ·rw[if_pos c,if_neg (by omega)]
 ·rw[if_neg c,if_pos (by omega)]
def gu.build{f:cY}{m:RS}{x:Sh}{k:Nat}(h:gu f m x k)(hk:k<=1000)(s:aD):(jC f x s).2=(kY (bU m.1) x.1.2.1 s).2/\(jC f x s).1.1.2.1=(kY (bU m.1) x.1.2.1 s).1/\gu f m (jC f x s).1 (k+1):=by
 have hb:=F6 h.kept.iV h.kR hk s;have hl:=hb.2.list;rw[h.ky s]at hb hl;exact⟨hb.1,hl,h.files,by rw[hl,<-h.ky s];exact h.kept.build s,hb.2.self⟩
def gu.drop{f:cY}{m:RS}{x:Sh}{k:Nat}(h:gu f m x k)(hk:k<=1000)(s:aD):(ir x s).2=(jo x.1.2.1 s).2/\(ir x s).1.1.2.1=(jo x.1.2.1 s).1/\gu f m (ir x s).1 (k+1):=by
 have hb:=IN h.kR hk s;have hl:=hb.2.list;exact⟨hb.1,hl,h.files,by rw[hl];exact h.kept.drop s,hb.2.self⟩
def JY{rd:Rd}(l:List (D aB))(s:aD):0<=(kY rd l s).2:=by
 unfold kY;split
 ·show 0<=(cJ rd s).2;omega
 ·exact OM _ _
def gu.adh{f:cY}{m:RS}{x:Sh}{k:Nat}(h:gu f m x k)(hk:k<=1000)(s:aD):fJ (aL (jC f x s).2) (kY (bU m.1) x.1.2.1 s).2=true:=by
 rw[(h.build hk s).1];exact pV (JY _ _)
def gu.load{f:cY}{m:RS}{x:Sh}{k:Nat}(h:gu f m x k)(s:aD):(iC f x.1.2.1 s).1=(sq (bU m.1) x.1.2.1 s).1/\(iC f x.1.2.1 s).2.2=(sq (bU m.1) x.1.2.1 s).2.2/\
  (iC f x.1.2.1 s).2.1=((sq (bU m.1) x.1.2.1 s).2.1&&decide ((sq (bU m.1) x.1.2.1 s).2.2=0)):=by
 obtain⟨a,b,c,d⟩:=h.kept.load s;rw[h.rd]at a b c d;refine⟨a,b,?_⟩;show(iC f x.1.2.1 s).2.1=(((dA x.1.2.1 s).2&&eG (bU m.1) (dA x.1.2.1 s).1)&&decide ((cI (bU m.1) s).2=0));rw[<-c];cases e:(iC f x.1.2.1 s).2.1 with
 |false=>rfl
 |true=>rw[decide_eq_true (d e)];rfl
def gu.adT{f:cY}{m:RS}{x:Sh}{k:Nat}(h:gu f m x k)(s:aD):fJ (aL (iC f x.1.2.1 s).2.2) (sq (bU m.1) x.1.2.1 s).2.2=true:=by
 rw[(h.load s).2.1];exact pV (CP h.rok s)
end Go.Mrl

namespace Go.Vg
open Go
def ON{H:Type}{enc:TypeId×Value->H}{a:Assume}{C:Checked}{os:Os}{f:FuncId}{fn:Func}{s:ChangeSpec}{conds:List PathCond}{apart fresh handsOn again:Bool}{X:World->Array Value->Prop}
  (hX:∀(w w':World) (args:Array Value),w.heap=w'.heap->X w args->X w' args)
  (own:ownKnob C.prog.godebug=none)(started:os.Started)(noInit:C.prog.inits.idxOf? f=none)(hfn:C.prog.funcs[f]?=some fn)
  (witness:∃(w:World) (tape:Tape) (i:Input),w.os=os/\(w.forCall tape i).Shaped C.prog/\i.vars=[]/\Input.okWide C.prog (w.forCall tape i) .any w.heap.size f i/\
   ((s.pre enc C.prog fn conds apart (w.forCall tape i).memory i.args/\X (w.forCall tape i).memory i.args)/\sizedMet enc C.prog fn (dh s) apart (w.forCall tape i).memory i.args)/\a.holds C.prog (lone (Frame.enter C.prog f i.args .normal) [] (w.forCall tape i)))
  (contract:∀(W:World) (base:Nat) (args:Array Value) (ds gs:List (DataW H)) (before:List MemPlace),
   (∀(j:Nat) t v,fn.params[j]?=some t->args[j]?=some v->Value.okWide C.prog W .any base t v)->
   DataW.Whole enc C.prog fn.params.toList s.vars apart W args.toList ds gs before->
   X W args->W.ShapedOpen C.prog->
   Calls C.prog f args W fun e W'=>∃v,e=.returned v/\s.post enc C.prog fn apart fresh handsOn again W args v W') :
  ReturnsInHanded a C os f .any (fun w args=>(s.pre enc C.prog fn conds apart w args/\X w args)/\sizedMet enc C.prog fn (dh s) apart w args) (s.post enc C.prog fn apart fresh handsOn again):=by
 refine returnsInHanded_of_calls own started noInit witness ?_;intro w tape i _ hsh _ hok hpre hholds;obtain⟨_,_,_,fn',hfn',_,_,_,_,hval⟩:=hok;have e:fn'=fn:=bg (hfn'.symm.trans hfn);subst e;obtain⟨⟨⟨ds,gs,before,hw,hc⟩,hx⟩,hz⟩:=hpre;have hw':=DataW.Whole.of_heap (w':=w.forCall tape i) (by rfl) hw;refine(contract (w.forCall tape i) w.heap.size i.args ds gs before hval hw' (hX _ _ _ (by rfl) hx) hsh).mono fun e W' ⟨v,he,hp⟩ =>?_
 subst he;exact ChangeSpec.post_blind hp
def MF{P:Program}{w:World}{g:Nat}{t:TypeId}{zero:Array Value}(h:w.ShapedOpen P)(hg:g<P.globals.size)
  (h0:((begin P (fun _ _=>0) default).world.heap[g]?).bind Obj.row?=some (zero,t))(hz:zero.size=1)
  (hb:P.buildable t=true)(hc:P.cellTypes P.depth t=some [t])(hu:P.underlying t=some (.int .i64)):∃m,w.cell? ⟨g,0,none⟩=some (.int .i64 m):=by
 obtain⟨cs,hh,hs,hr⟩:=h.1 g zero t hg h0;obtain⟨ts,hts,_,hall⟩:=hr hb;rw[hc]at hts;cases hts;have h1:0<cs.size:=by omega
 obtain⟨u,hu',hok⟩:=hall 0 cs[0] (by simp[h1]);have:u=t:=by simpa using hu'.symm
 subst this;have hcell:w.cell? ⟨g,0,none⟩=some cs[0]:=by simp[World.cell?,hh,h1]
 rw[hcell];unfold Cell.ok at hok;rw[hu]at hok;cases hv:cs[0] <;> rw[hv]at hok <;> first|exact hok.elim|(obtain⟨rfl,_⟩:=hok;exact⟨_,rfl⟩)|simp at hok
def aa2:Option TypeDesc->Bool
 |some (.interface _)=>true
 |_=>false
def wV{P:Program}{W:World}{name nm:String}{d:DataW Unit}{g:Nat}{t:TypeId}
  (hg:P.globalNamed name=some g)(hty:(P.globals[g]?).map (·.type)=some t)(hi:aa2 (P.underlying t)=true)
  (h:Lib.VarReads P W name (.iface nm d)):∃ev,W.cell? ⟨g,0,none⟩=some ev/\(ev=.nilIface\/∃te pe,ev=.iface te pe):=by
 obtain⟨g',t',cs,fuel,p,hg',ht',hvar,hd⟩:=h;obtain rfl:=bg (hg.symm.trans hg');obtain rfl:=bg (hty.symm.trans ht');have hc:=World.var?_cell hg hvar 0;obtain⟨ms,hu⟩:∃ms,P.underlying t=some (.interface ms):=by
  unfold aa2 at hi;split at hi
  ·rename_i ms hm;exact⟨ms,hm⟩
  ·cases hi
 cases fuel with
 |zero=>simp[cn]at hd
 |succ n=>
  cases hl:cs.toList with
  |nil=>rw[hl]at hd;simp[cn,hu]at hd
  |cons v r=>
   have h0:cs[0]?=some v:=by rw[<-Array.getElem?_toList,hl];rfl
   rw[h0]at hc;refine⟨v,hc,?_⟩;rw[hl]at hd;cases v <;> first|exact .inl rfl|exact .inr ⟨_,_,rfl⟩|(simp[cn,hu]at hd)
def MG{P:Program}{W:World}{name:String}{k:IntKind}{zs:List Int}{g:Nat}{t e:TypeId}{n:Nat}
  (hg:P.globalNamed name=some g)(hty:(P.globals[g]?).map (·.type)=some t)(ht:P.underlying t=some (.array n e))(he:P.underlying e=some (.int k))(hce:P.cellsOf e=1)(hct:P.cellsOf t=n)
  (h:Lib.VarReads P W name (Lib.tabData k zs)):Lib.TabIs P W name k zs:=by
 obtain⟨g',t',cs,fuel,p,hg',ht',hvar,hd⟩:=h;obtain rfl:=bg (hg.symm.trans hg');obtain rfl:=bg (hty.symm.trans ht');unfold Lib.TabIs;rw[hvar,<-Lib.cells_of_tab ht he hce hct hd]
end Go.Vg

namespace Go.Mrl
open Go.Vg
def abJ{l:List (D aB)}{e:D aB}(h:(ln l e).2=0):dA (ln l e).1 e.1=(e,true):=by
 by_cases hf:bE e > 0
 ·rw[yq hf]at h;have h:bE e=0:=h;omega
 ·rcases B7 l e.1 with⟨i,i1,i2,i3,i4⟩|⟨j1,j2⟩
  ·rw[D6 hf i1 i2 i3]
   have hn:nth aB (l.set i e) i=e:=lE (t:=aB) i1;have hl:i<(l.set i e).length:=by rw[ai];exact i1
   have hF:eS (l.set i e) e.1=(i:Int):=rU hl (fun j hj=>by rw[lD (t:=aB) (by omega)];exact i2 j hj) (by rw[hn]);show dA (l.set i e) e.1=_;rw[wT (by omega),hF,aq,hn]
  ·by_cases c:(l.length:Int)=3
   ·rw[Bg hf j1 c]at h;cases h
   ·rw[yr hf j1 c]
    have hl:l.length<(l++[e]).length:=by rw[ad,br];omega
    have hn:nth aB (l++[e]) l.length=e:=by unfold nth;simp[List.getD_eq_getElem?_getD]
    have hF:eS (l++[e]) e.1=(l.length:Int):=rU hl (fun j hj=>by
     have:nth aB (l++[e]) j=nth aB l j:=by unfold nth;simp[List.getD_eq_getElem?_getD,List.getElem?_append_left hj]
     rw[this];exact j1 j hj) (by rw[hn])
    show dA (l++[e]) e.1=_;rw[wT (by omega),hF,aq,hn]
def Wn{f:cY}{l:List (D aB)}{s:aD}(h:(ky f l s).2=0):(cJ (aO f) s).2=0/\dA (ky f l s).1 s=((cJ (aO f) s).1,true):=by
 unfold ky at h ⊢;by_cases c:(cJ (aO f) s).2=0
 ·rw[if_pos c]at h ⊢
  refine⟨c,?_⟩;have:=abJ h;rw[IT c]at this;exact this
 ·rw[if_neg c]at h;exact absurd h c
def S9{f:cY}{l:List (D aB)}{s:aD}(g:ig f)(h:(ky f l s).2=0):iC f (ky f l s).1 s=((cI (aO f) s).1,true,0):=by
 obtain⟨c,e⟩:=Wn h;obtain⟨u1,u2,u3,u4⟩:=vj g (root:=s) (aV.2 c);rw[IV (by rw[e]) (by rw[e];exact u3),e];show((ll (aO f) (cJ (aO f) s).1).1,decide ((ll (aO f) (cJ (aO f) s).1).2=0),(ll (aO f) (cJ (aO f) s).1).2)=_;rw[u2,u1];rfl
def nQ:Sh:=(((dP kD.2).1.1,(dP kD.2).1.2,()),kD.2)
def C5:nQ=kD:=aw gL.again rfl
def ZH:gu oE ([],0,()) kD 0:=⟨dU.new,kQ.new,gL⟩
def qz:ig yY:=by rw[<-aaR];exact ig.new.write _ _
def qh:fC nQ [] 0:=by rw[C5];exact gL
def Qu:(cJ (aO yY) [97]).2=0:=by
 cases h:(aL (cJ (aO yY) [97]).2).isNil with
 |true=>exact aV.1 h
 |false=>rw[(ZE qz.ok h).1,DZ]
def MH:(ky yY [] [97]).2=0:=by
 unfold ky;rw[if_pos Qu];have hf:=(vj qz (root:=[97]) (aV.2 Qu)).2.2.2;rw[yr (by omega) (fun j hj=>absurd hj (cj _)) (by decide)]
def G2:(jC yY nQ [97]).2=0/\fC (jC yY nQ [97]).1 (ky yY [] [97]).1 1:=by
 have:=F6 qz (x:=nQ) (k:=0) (by rw[C5];exact gL) (by decide) [97];rw[show nQ.1.2.1=[]from qh.list]at this;exact⟨this.1.trans MH,this.2⟩
def B9:iC yY (jC yY nQ [97]).1.1.2.1 [97]=([([97],0,[3],())],true,0):=by
 rw[G2.2.list,S9 qz MH,DZ]
def MI:iC yY nQ.1.2.1 [97]=([([97],0,[3],())],false,0):=by
 rw[show nQ.1.2.1=[]from qh.list,Bk (fun z=>by rw[FY (qI _)]at z;exact Bool.noConfusion z.1),DZ]
def gu.adU{f:cY}{m:RS}{x:Sh}{k:Nat}(h:gu f m x k){s:aD}(h1:(dA x.1.2.1 s).2=true/\eG (bU m.1) (dA x.1.2.1 s).1=true):(iC f x.1.2.1 s).2.1=((cI (bU m.1) s).2 == 0):=by
 have:=(h.load s).2.2;unfold sq at this;rw[this];simp only[h1.1,h1.2];rfl
def gu.tj{f:cY}{m:RS}{x:Sh}{k:Nat}(h:gu f m x k){s:aD}(h1:(dA x.1.2.1 s).2=false\/eG (bU m.1) (dA x.1.2.1 s).1=false):(iC f x.1.2.1 s).2.1=false:=by
 have:=(h.load s).2.2;unfold sq at this;rw[this];rcases h1 with h1|h1 <;> simp[h1]
end Go.Mrl

