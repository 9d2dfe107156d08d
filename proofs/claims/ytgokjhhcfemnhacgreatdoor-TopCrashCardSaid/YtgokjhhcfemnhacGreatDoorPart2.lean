/- A part of the proof that the law TopCrashCard holds of the given program: facts that are used there. -/
import Derived.Test.YtgokjhhcfemnhacGreatDoorPart1
import Derived.Deep.Heap
import Derived.Room.AppendFits
import Derived.Lib.UnsafeStr
import Derived.Lib.SplitLaws
import Derived.Lib.ItoaNum
import Derived.Lib.AtoiAll
import Derived.RangeFuncWrites
import Derived.RangeFuncCalls
import Derived.OrdersIn
import Derived.TacticsIn
import Derived.RangeFuncBox
import Derived.Handed
import Derived.Clock
import Derived.Lib.LaidTab
import Derived.Lib.LaidU8
import Derived.Lay
set_option linter.unusedSimpArgs false
set_option linter.unusedVariables false
set_option linter.defProp false
noncomputable section
open True renaming intro->aa
open Go.Lib renaming itoa->ab,trimSuffix->ag,index->ay,splitK->az,decDigits->a7,hasPrefix->bg,parseUint10->bp,trimPrefix->b4,atoiAll->cd,count_one->cq,strCells->c8,strCells_length->ix,count->rz
open List renaming take->ae,drop->af,length_append->aj,length_cons->ao,mem_cons->aq,mem_append->ar,length_set->au,replicate->av,range->ax,map_cons->bd,mem_singleton->bo,length->bq,mem_of_getElem?->bt,flatMap_cons->bz,mem_map->b6,mem_cons_of_mem->b9,length_singleton->cc,take_length->cg,isPrefixOf->cp,cons_append->cr,length_take->cw,length_map->cz,filter_append->c6,append_assoc->dc,map_map->dd,map_append->dp,length_nil->hI,length_range->hR,size_toArray->h8,take_of_length_le->kl,nil_append->ks,mem_of_mem_take->ny,range_succ->oi,all_eq_true->oo,mem_filterMap->pv,filter_cons->sT,mem_append_right->tb,take_left->uv,mem_range->va,any_eq_false->vd,getElem_of_mem->vi,length_replicate->vx,mem_flatMap->yo,length_filter_le->zf,length_drop->zg,filter_eq_self->zh,map_congr_left->zi,ext_getElem?->zk,nodup_append->zl,map_singleton->zm,nodup_cons->zn,nodup_nil->zo
open Int renaming not_lt->ah,toNat_natCast->bb,toNat->bw,le_trans->bx,le_refl->b5,tmod_eq_emod_of_nonneg->b8,not_le->ct,ofNat_inj->hJ,toNat_of_nonneg->vn,fdiv_eq_ediv_of_nonneg->vv,le_sub_one_of_lt->xo
open Bool renaming and_eq_true->ai,not_eq_true'->ck,or_eq_true->hY,not_eq_true->xt
open Nat renaming le_refl->ak,zero_le->a8,min->bc,not_lt->bf,le_trans->bh,lt_of_lt_of_le->br,beq->cf,eq_of_beq_eq_true->cj,lt_or_ge->cm,not_lt_zero->c7,min_eq_left->ez,mod_lt->fs,or_lt_two_pow->hS,mul_le_mul_right->hV,add_zero->k8,strongRecOn->mx,mul_lt_mul_of_pos_right->r0,add_mul->r3,le_of_ble_eq_true->ti,mod_eq_of_lt->vl,min_eq_right->y0,min_le_right->y1,min_le_left->zj
open Classical renaming byContradiction->aw,choose->hC,choose_spec->hG,not_not->hL
open Go.IntKind renaming u64->ba,wrap->b7,i64->cn,signed->dT,bits->et,u8->j8,min->kh,max->kk
open Go.Fence renaming wide->bj
open BitVec renaming ofInt->bm
open Go.Value renaming int->bu,ownBlock->zc
open Option.some renaming inj->ch
open Go.Oper renaming uponIn->cu,semAt_eq->za
open Prod renaming ext->cy
open Option renaming isSome_iff_exists->h9
open UInt8 renaming toNat_ofNat'->kc,ofNat->k9
open Array renaming getD_eq_getD_getElem?->qs,toArray_toList->ze
open Go.DataW renaming trod->s0
open Go.World renaming block_lt_of_cell?->td,putObj_heap_other->zd
open Go.Builtin renaming append_->tk
open Go.Result renaming andThen_ok->u0
open Go.Region renaming Mode->zb
open Go.OpenSpec renaming ofChange->zp
open Go.RowKit.Below renaming refl->zq
namespace Go.Vg
open Go.RowKit
section
variable{X:Ext}{P:Program}{aG:List Ob}{args:List Cl}
def wI{a:CD args}{x:PD aG}{ν:List Nat}{st:St}{K:SV->St->VC}:∀{alts:List (Alt aG args)},(sd a x ν st K alts).holds->∀al∈alts,(AJ al a x ν st K).holds
 |[],_,al,h=>by simp at h
 |[al0],h,al,ha=>by simp at ha;subst ha;exact h
 |al0 :: al1 :: r,h,al,ha=>by
  rcases aq.1 ha with e|ha
  ·subst e;exact h.1
  ·exact wI h.2 al ha
def yU{a:CD args}{x:PD aG}{vs:List bT}{st:St}:∀{alts:List (Alt aG args)},(oP a x vs st alts).holds->∃al∈alts,∃ν,
  nodupB ν=true/\qF 0 aG al.bH ν=true/\(al.cv=false\/(oL aG=true/\eu al.bH=true/\fH al.res=true))/\al.ok a x/\
  iK al.cv (gA al.res st vs).2.aC al.bH ν al.res (gA al.res st vs).1=some (al.ret a x)/\dr al.cv (gA al.res st vs).2.aC al.bH ν al.bH ν=some (al.out a x)/\
  (∀p∈jc al.bH (al.out a x) al.res (gA al.res st vs).1,p)/\(∀p∈fk al.bH (al.out a x) (gA al.res st vs).2.aC al.bH ν,p)
 |[],h=>h.elim
 |al :: r,h=>by
  have rest:(oP a x vs st r).holds->∃al'∈al :: r,∃ν,
    nodupB ν=true/\qF 0 aG al'.bH ν=true/\(al'.cv=false\/(oL aG=true/\eu al'.bH=true/\fH al'.res=true))/\al'.ok a x/\
    iK al'.cv (gA al'.res st vs).2.aC al'.bH ν al'.res (gA al'.res st vs).1=some (al'.ret a x)/\dr al'.cv (gA al'.res st vs).2.aC al'.bH ν al'.bH ν=some (al'.out a x)/\
    (∀p∈jc al'.bH (al'.out a x) al'.res (gA al'.res st vs).1,p)/\(∀p∈fk al'.bH (al'.out a x) (gA al'.res st vs).2.aC al'.bH ν,p):=fun h=>by
   obtain⟨al',h1,h2⟩:=yU h;exact⟨al',by simp[h1],h2⟩
  simp only[oP]at h;split at h
  ·rename_i ν hν
   split at h
   ·rename_i b y hc hb hy
    simp only[ai,hY,ck]at hc;obtain⟨h1,h2,h3⟩:=hc;have hall:=qp h;have k3:al.ok a x/\y=al.out a x/\b=al.ret a x:=hall _ (tb _ (by simp));obtain⟨k4,k5,k6⟩:=k3;subst k5;subst k6;obtain⟨k1,_⟩:=fy.1 hall;obtain⟨k1,k2⟩:=fy.1 k1;exact⟨al,by simp,ν,h1,h2,h3,k4,hb,hy,k1,k2⟩
   ·exact rest h
  ·exact rest h
def yV{B:Cx}{f:FuncId}{pre:CD args->PD aG->Prop}{alts:List (Alt aG args)}
  {O:aD}{st:St}{loc:Nat->Loc}{w:World}{Nj:List bT}{vs:List Value}{K:SV->St->VC}(g:Good B.eT X (aB O st loc w))(hO:dA O w)(ha:bW B.eT (aB O st loc w) Nj vs)
  {ν:List Nat}{a:CD args}{x:PD aG}(hnd:nodupB ν=true)(hga:iK false st.aC aG ν args Nj=some a)(hx:dr false st.aC aG ν aG ν=some x)
  (hp1:∀p∈jc aG x args Nj,p)(hp2:∀p∈fk aG x st.aC aG ν,p)(hpre:pre a x)(hK:(sd a x ν st K alts).holds)
  (hcall:gr args a->∀(O':aD) (loc0:Nat->Loc),Good B.eT X (aB O' (gC aG args a x) loc0 w)->dA O' w->bW B.eT (aB O' (gC aG args a x) loc0 w) (rW (eB aG x (upto 0 aG.length)) args a) vs->vs.length=args.length->
   Calls P f vs.toArray w fun e w'=>∃rs us' st' locE,e=.returned (qD us')/\(oP a x rs st' alts).holds/\bW B.eT (aB O' st' locE w') rs us'/\Good B.eT X (aB O' st' locE w')/\Tr (aB O' (gC aG args a x) loc0 w) (aB O' st' locE w')) :
  Calls P f vs.toArray w fun e w'=>∃v sv st' loc',e=.returned v/\(K sv st').holds/\st'.env=st.env/\Good B.eT X (aB O st' loc' w')/\
   Tr (aB O st loc w) (aB O st' loc' w')/\cR B.eT (aB O st' loc' w') sv v:=by
 have hvals:=yJ g hx hga ha hp1;have hobsl:=kd hx
 let us:=upto 0 aG.length
 have hul:ν.length=us.length:=by rw[qt];exact hobsl.symm
 let O':aD:=fun b off=>O b off\/∃n oc,look st.aC n=some oc/\n∉ν/\b∈(loc n).bs/\oc.lo<=off
 let st0:=gC aG args a x
 have hOin':dA O' w:=by
  rintro b off (h|⟨n,oc,h1,_,h2,_⟩)
  ·exact hO b off h
  ·exact(g.obj n oc h1).2.inside b h2
 have hlo:∀n∈ν,∀oc,look st.aC n=some oc->oL aG=true->oc.lo=0:=by
  intro n hn oc h1 h2;obtain⟨o,oc',y,k1,k2,k3⟩:=fW hx hn;rw[h1]at k2;cases k2;have:=(iA k3 (fun _ =>.any)).2.2.2 (fun t=>yT h2 k1) rfl;cases oc <;> first|rfl|exact(this _ _ rfl).elim
 have hν:∀n∈ν,∃oc,look st.aC n=some oc:=fun n hn=>let⟨_,oc,_,_,k,_⟩:=fW hx hn;⟨oc,k⟩
 let loc0:=dB us (ν.map loc) loc
 have hf0:∀k oc,look st0.aC k=some oc->∃(i n:Nat) (o:Ob) (y:OD o) (oc0:OC),ν[i]?=some n/\us[i]?=some k/\aG[i]?=some o/\look st.aC n=some oc0/\fK false st.aC aG ν o oc0=some y/\oc=mj (eB aG x us) o y/\loc0 k=loc n:=by
  intro k oc hk;obtain⟨i,n,o,y,oc0,k1,k2,k3,k4,k5,k6,_⟩:=lP hx (lO (X:=X) g hx hx hp2) hul hk;exact⟨i,n,o,y,oc0,k1,k2,k3,k4,k5,k6,fV (gQ _ _) k2 (by simp[k1])⟩
 have hA0:∀b o,(aB O' st0 loc0 w).A b o->(aB O st loc w).A b o:=by
  rintro b off ((h|⟨n,oc,h1,_,h2,h3⟩)|⟨k,oc,h1,h2,h3⟩)
  ·exact .inl h
  ·exact .inr ⟨n,oc,h1,h2,h3⟩
  ·obtain⟨i,n,o,y,oc0,_,_,_,k4,k5,k6,k7⟩:=hf0 k oc h1
   refine .inr ⟨n,oc0,k4,by simp only[aB]at h2;rw[k7]at h2;exact h2,?_⟩;rcases tq (f:=eB aG x us) k5 with e|e
   ·rw[<-e,<-k6];exact h3
   ·cases e
 have hown0:∀b,(aB O' st0 loc0 w).owns b->∃n∈ν,b∈(loc n).bs:=by
  rintro b ⟨k,oc,h1,h2⟩;obtain⟨i,n,o,y,oc0,k1,_,_,_,_,_,k7⟩:=hf0 k oc h1;exact⟨n,bt k1,by simp only[aB]at h2;rw[k7]at h2;exact h2⟩
 obtain⟨g0,laid0⟩:=AG (X:=X) g hx hp2 hnd (O2:=O') (ν2:=us) (rest:=[]) (locR:=loc) (st2:=st0) (gQ _ _) hul
  (by simp[st0,gC,us]) (fun n hn=>by have:=qq hn;simp[st0,gC];omega)
  (fun n hn b hb off=>by
   obtain⟨oc,k⟩:=hν n hn;rintro(h|⟨m,oc',h1,h2,h3,_⟩)
   ·exact g.out n oc b off k hb h
   ·exact h2 (by rw[<-g.apart n m oc oc' b k h1 hb h3];exact hn))
  (fun n hn b hb m oc h=>by simp[look]at h) (fun m oc h=>by simp[look]at h) (fun m m' oc oc' b h=>by simp[look]at h) (fun m oc b off h=>by simp[look]at h) (.inr hA0)
  (fun b hb h=>by
   obtain⟨n,hn,hbn⟩:=hown0 b h;obtain⟨oc,k⟩:=hν n hn;exact g.gl.2 b hb ⟨n,oc,k,hbn⟩)
 have hargs:bW B.eT (aB O' st0 loc0 w) (rW (eB aG x us) args a) vs:=BC (S:=aB O st loc w) (S':=aB O' st0 loc0 w) rfl (fun k v hk=>r4 laid0 hk) (.inr hA0) hvals;have hcalls:=hcall (tx hvals) O' loc0 g0 hOin' hargs (qG hvals);refine hcalls.mono ?_;rintro e w' ⟨rs,us',st',locE,he,hk,hr,gE',trE'⟩;obtain⟨al,hal,ν',hnd',hkept,hcv,hokal,hret,hout,hc1,hc2⟩:=yU hk;obtain⟨tF,gE,_,kF⟩:=qH al.res rs gE';generalize hst2:(gA al.res st' rs).2=st2 at*;generalize hrs2:(gA al.res st' rs).1=rs2 at*;have trE:=trE'.trans tF;have hrE:=kF us' hr;have hKal:=wI hK al hal;unfold AJ at hKal;split at hKal
 case h_2=>exact hKal.elim
 rename_i hn1;simp only[ai]at hn1;obtain⟨hnd1,hbel⟩:=hn1;have hKal:=hKal hokal;generalize hν1:jr aG al.bH ν st.next=ν1 at*;have hl1:ν'.length=ν1.length:=by rw[<-hν1,mq];exact(kd hout).symm
 generalize hst1:({env:=st.env,aC:=ib (eB al.bH (al.out a x) ν1) al.bH (al.out a x) ν1++mV st.aC ν,next:=st.next+al.bH.length}:St)=st1 at hKal;have h1env:st1.env=st.env:=by rw[<-hst1]
 have h1objs:st1.aC=ib (eB al.bH (al.out a x) ν1) al.bH (al.out a x) ν1++mV st.aC ν:=by rw[<-hst1]
 have h1next:st1.next=st.next+al.bH.length:=by rw[<-hst1]
 let loc1:=dB ν1 (ν'.map locE) loc
 have hf1:∀m oc,look st1.aC m=some oc->(∃(i n:Nat) (o:Ob) (y:OD o) (oc0:OC),ν'[i]?=some n/\ν1[i]?=some m/\al.bH[i]?=some o/\look st2.aC n=some oc0/\fK al.cv st2.aC al.bH ν' o oc0=some y/\
   oc=mj (eB al.bH (al.out a x) ν1) o y/\loc1 m=locE n)\/(m∉ν1/\m∉ν/\look st.aC m=some oc/\loc1 m=loc m):=by
  intro m oc hm;rw[h1objs,cQ]at hm;split at hm
  ·rename_i oc' hm'
   cases hm;obtain⟨i,n,o,y,oc0,k1,k2,k3,k4,k5,k6,_⟩:=lP hout (lO (X:=X) gE hout hout hc2) hl1 hm';exact .inl ⟨i,n,o,y,oc0,k1,k2,k3,k4,k5,k6,fV hnd1 k2 (by simp[k1])⟩
  ·rename_i hm'
   have hnin:m∉ν1:=fun hmem=>by
    obtain⟨oc1,h2⟩:=lq (f:=eB al.bH (al.out a x) ν1) (x:=al.out a x) (by rw[<-hν1,mq]) hmem;rw[h2]at hm';cases hm'
   rw[jm]at hm;split at hm
   ·cases hm
   ·rename_i hmn
    exact .inr ⟨hnin,hmn,hm,iz hnin⟩
 have hownE:∀n∈ν',∀b∈(locE n).bs,(aB O' st2 locE w').owns b:=by
  intro n hn b hb;obtain⟨_,oc,_,_,k,_⟩:=fW hout hn;exact⟨n,oc,k,hb⟩
 have hblk:∀m oc,look st.aC m=some oc->m∉ν->∀b∈(loc m).bs,¬(aB O' st0 loc0 w).owns b:=by
  intro m oc h1 h2 b hb' ho;obtain⟨n,hn,hbn⟩:=hown0 b ho;obtain⟨oc',k⟩:=hν n hn;have:=g.apart n m oc' oc b k h1 hbn hb';exact h2 (by rw[<-this];exact hn)
 have hA1:al.cv=false->∀b o,(aB O st1 loc1 w').A b o->(aB O' st2 locE w').A b o:=by
  rintro hcv0 b off (h|⟨m,oc,h1,h2,h3⟩)
  ·exact .inl (.inl h)
  ·rcases hf1 m oc h1 with⟨i,n,o,y,oc0,k1,k2,k3,k4,k5,k6,k7⟩|⟨k1,k2,k3,k4⟩
   ·refine .inr ⟨n,oc0,k4,by simp only[aB]at h2;rw[k7]at h2;exact h2,?_⟩
    rcases tq (f:=eB al.bH (al.out a x) ν1) k5 with e|e
    ·rw[<-e,<-k6];exact h3
    ·rw[hcv0]at e;cases e
   ·exact .inl (.inr ⟨m,oc,k3,k2,by simp only[aB]at h2;rw[k4]at h2;exact h2,h3⟩)
 have hkeep:∀(m i:Nat),ν1[i]?=some m->m<st.next->∃o o',aG[i]?=some o/\al.bH[i]?=some o'/\kf o o'=true/\ν[i]?=some m:=by
  intro m i h1 h2;rw[<-hν1]at h1;rcases mW h1 with h3|h3
  ·exact h3
  ·omega
 have hT:Tr (aB O st loc w) (aB O st1 loc1 w'):={
  O:=rfl
  next:=by simp only[aB];omega
  os:=trE.os
  output:=trE.output
  size:=trE.size
  own:=by
   rintro b ⟨m,oc,h1,h2⟩;rcases hf1 m oc h1 with⟨i,n,o,y,oc0,k1,k2,k3,k4,k5,k6,k7⟩|⟨k1,k2,k3,k4⟩
   ·simp only[aB]at h2;rw[k7]at h2
    rcases trE.own b (hownE n (bt k1) b h2)with h3|h3
    ·obtain⟨n',hn',hb'⟩:=hown0 b h3
     obtain⟨oc',k⟩:=hν n' hn';exact .inl ⟨n',oc',k,hb'⟩
    ·exact .inr h3
   ·simp only[aB]at h2;rw[k4]at h2;exact .inl ⟨m,oc,k3,h2⟩
  cell:=by
   intro b off v hna hcell;obtain⟨h1,h2⟩:=trE.cell b off v (fun h=>hna (hA0 b off h)) hcell;refine⟨h1,fun h3 =>?_⟩;rcases hcv with hcv|⟨hnt,_,_⟩
   ·exact h2 (hA1 hcv b off h3)
   ·rcases h3 with h3|⟨m,oc,h3,h4,h5⟩
    ·exact hna (.inl h3)
    ·rcases hf1 m oc h3 with⟨i,n,o,y,oc0,k1,k2,k3,k4,k5,k6,k7⟩|⟨k1,k2,k3,k4⟩
     ·simp only[aB]at h4;rw[k7]at h4
      rcases trE.own b (hownE n (bt k1) b h4)with h6|h6
      ·obtain⟨n',hn',hb'⟩:=hown0 b h6
       obtain⟨oc',k⟩:=hν n' hn';exact hna (.inr ⟨n',oc',k,hb',by rw[hlo n' hn' oc' k hnt];exact a8 _⟩)
      ·have:=td _ _ hcell
       simp only[aB]at this h6;omega
     ·simp only[aB]at h4;rw[k4]at h4;exact hna (.inr ⟨m,oc,k3,h4,h5⟩)
  block:=fun b hb' ho=>trE.block b hb' fun h=>ho (by
   obtain⟨n,hn,hbn⟩:=hown0 b h;obtain⟨oc,k⟩:=hν n hn;exact⟨n,oc,k,hbn⟩)
  loc:=by
   intro m hm hfix;by_cases hin:m∈ν1
   ·obtain⟨i,hi⟩:=List.getElem?_of_mem hin
    obtain⟨o,o',e1,e2,e3,e4⟩:=hkeep m i hi hm;have hiE:i<ν'.length:=by rw[hl1];exact aW hi
    have hn':ν'[i]?=some ν'[i]:=List.getElem?_eq_getElem hiE;have hni:=wH hkept e1 e2 e3 hn';rw[Nat.zero_add]at hni;have e5:loc1 m=locE i:=by
     have:=fV (d:=loc) hnd1 hi (ls:=ν'.map locE) (l:=locE i) (by simp[hn',hni]);exact this
    have hui:us[i]?=some i:=by have:=ve aG.length 0 i (aW e1);simpa using this
    have e6:loc0 i=loc m:=fV (gQ _ _) hui (by simp[e4]);have e7:=trE.loc i (show i<st0.next by simp[st0,gC];exact aW e1) (fun t ys hy=>by
     obtain⟨j,n,o2,y,oc0,k1,k2,k3,k4,k5,k6,k7⟩:=hf0 i _ hy;have hj:j=i:=mS (gQ _ _) k2 hui;subst hj;rw[e1]at k3;cases k3;cases o <;> simp[mj]at k6;cases o' <;> simp[kf]at e3)
    show(loc1 m).v=(loc m).v/\(_->loc1 m=loc m);rw[e5,<-e6];refine⟨e7.1,fun hr=>e7.2 fun t z hy =>?_⟩;obtain⟨j,n,o2,y,oc0,k1,k2,k3,k4,k5,k6,k7⟩:=hf0 i _ hy;have hj:j=i:=mS (gQ _ _) k2 hui;subst hj;rw[e4]at k1;cases k1;cases o2 <;> simp[mj]at k6;obtain⟨rfl,rfl,_⟩:=k6;obtain⟨z',rfl⟩:=(iA k5 (fun _ =>.any)).2.1 _ _ rfl;exact hr _ _ k4
   ·exact kM (iz hin)
  kind:=by
   intro m oc' hm hob;rcases hf1 m oc' hob with⟨i,n,o,y,oc0,k1,k2,k3,k4,k5,k6,k7⟩|⟨k1,k2,k3,k4⟩
   ·obtain⟨o0,o',e1,e2,e3,e4⟩:=hkeep m i k2 hm
    rw[k3]at e2;cases e2;have hui:us[i]?=some i:=by have:=ve aG.length 0 i (aW e1);simpa using this
    obtain⟨oc2,h2⟩:=lq (f:=eB aG x us) (x:=x) (ms:=us) (by rw[qt]) (bt hui);obtain⟨j,n2,o2,y2,oc3,j1,j2,j3,j4,j5,j6,j7⟩:=hf0 i oc2 (by simpa[st0,gC]using h2);have hj:j=i:=mS (gQ _ _) j2 hui;subst hj;rw[e1]at j3;cases j3;rw[e4]at j1;cases j1;refine⟨oc3,j4,?_⟩;cases o0 <;> cases o <;> simp[kf]at e3
    ·subst e3
     obtain⟨cs,rfl⟩:=(iA j5 (fun _ =>.any)).1 _ _ rfl;rw[k6];rfl
    ·rename_i kp t kp' t'
     cases kp <;> cases kp' <;> simp at e3;have e3:=Ty.eq_of_beq e3;subst e3;obtain⟨xs,rfl⟩:=(iA j5 (fun _ =>.any)).2.2.1 _ _ rfl rfl;rw[k6];rfl
    ·obtain⟨e3,e4⟩:=e3
     have e4:=Ty.eq_of_beq e4;subst e3;subst e4;obtain⟨z,rfl⟩:=(iA j5 (fun _ =>.any)).2.1 _ _ rfl;rw[k6];exact⟨rfl,rfl⟩
   ·refine⟨oc',k3,?_⟩
    cases oc' <;> simp[aO,aB,k4]}
 obtain⟨g1,laid1⟩:=AG (X:=X) gE hout hc2 hnd' (O2:=O) (ν2:=ν1) (rest:=mV st.aC ν) (locR:=loc) (st2:=st1) hnd1 hl1 h1objs
  (fun n hn=>by rw[h1next];exact nv hbel hn)
  (fun n hn b hb' off h=>by
   obtain⟨_,oc,_,_,k,_⟩:=fW hout hn;exact gE.out n oc b off k hb' (.inl h))
  (fun n hn b hb' m oc h1 h2 h3=>by
   rw[jm]at h1;split at h1
   ·cases h1
   ·rename_i hmn
    rcases trE.own b (hownE n hn b hb')with h4|h4
    ·exact hblk m oc h1 hmn b h3 h4
    ·have:=(g.obj m oc h1).2.inside b h3
     simp only[aB]at this h4;omega)
  (fun m oc h1 h2=>by
   rw[jm]at h1;split at h1
   ·cases h1
   ·rename_i hmn
    obtain⟨k1,k2⟩:=g.obj m oc h1;refine⟨by rw[h1next];simp only[aB]at k1;omega,k2.tr hT fun b hb' =>?_⟩;exact trE.block b (k2.inside b hb') (hblk m oc h1 hmn b hb'))
  (fun m m' oc oc' b h1 h2 _ _ h3 h4=>by
   rw[jm]at h1 h2;split at h1
   ·cases h1
   ·split at h2
    ·cases h2
    ·exact g.apart m m' oc oc' b h1 h2 h3 h4)
  (fun m oc b off h1 _ h2=>by
   rw[jm]at h1;split at h1
   ·cases h1
   ·exact g.out m oc b off h1 h2)
  (by
   rcases hcv with hcv|⟨_,hcv,_⟩
   ·exact .inr (hA1 hcv)
   ·exact .inl hcv)
  (g.gl.tr hT).2
 have hres:=yJ gE hout hret hrE hc1;refine⟨_,_,st1,loc1,he,hKal,h1env,g1,hT,sb (BC (S:=aB O' st2 locE w') (S':=aB O st1 loc1 w') rfl (fun k v hk=>r4 laid1 hk) ?_ hres)⟩;rcases hcv with hcv|⟨_,_,hcv⟩
 ·exact .inr (hA1 hcv)
 ·exact .inl hcv
def Jv{B:Cx}{Γ:List (FuncId×(Bool×bA))}(hok:bU P B X Γ){f:FuncId}{fn:Func}{c:Code}(hf:P.funcs[f]?=some fn)(hb:fn.body=some c)(hN:args.length<=fn.ntmps){anns:CD args->PD aG->eo}
  {pre:CD args->PD aG->Prop}{alts:List (Alt aG args)}(h:∀a x,gr args a->pre a x->(dW B Γ fn (anns a x) aG args alts a x).holds)
  {O:aD}{st:St}{loc:Nat->Loc}{w:World}{Nj:List bT}{vs:List Value}{K:SV->St->VC}(g:Good B.eT X (aB O st loc w))(hO:dA O w)(ha:bW B.eT (aB O st loc w) Nj vs)
  {ν:List Nat}{a:CD args}{x:PD aG}(hnd:nodupB ν=true)(hga:iK false st.aC aG ν args Nj=some a)(hx:dr false st.aC aG ν aG ν=some x)
  (hp1:∀p∈jc aG x args Nj,p)(hp2:∀p∈fk aG x st.aC aG ν,p)(hpre:pre a x)(hK:(sd a x ν st K alts).holds) :
  Calls P f vs.toArray w fun e w'=>∃v sv st' loc',e=.returned v/\(K sv st').holds/\st'.env=st.env/\Good B.eT X (aB O st' loc' w')/\
   Tr (aB O st loc w) (aB O st' loc' w')/\cR B.eT (aB O st' loc' w') sv v:=by
 refine yV (B:=B) (pre:=pre) g hO ha hnd hga hx hp1 hp2 hpre hK fun hwf O' loc0 g0 hOin' hargs hlen =>?_
 have hcode:codeOf fn=c:=by unfold codeOf;rw[hb];rfl
 have hvc:=h a x hwf hpre;unfold dW at hvc;rw[hcode]at hvc;exact pb (X:=X) (hok fn.ntmps) hf hb (by rfl) (anns a x) (O:=O') (loc:=loc0) (w:=w) (args:=vs.toArray) (st:=gC aG args a x)
  (by rw[h8,hlen];exact hN) g0 hOin'
  (fun t sv ht=>by
   obtain⟨_,v,k1,k2⟩:=pc 0 hargs t sv ht;exact⟨v,by simpa using k1,k2⟩) hvc
def bN{B:Cx}{Γ:List (FuncId×(Bool×bA))}(hok:bU P B X Γ){f:FuncId}{fn:Func}(hf:P.funcs[f]?=some fn)(hg:lS fn args.length=true)(anns:CD args->PD aG->eo)
  {pre:CD args->PD aG->Prop}{alts:List (Alt aG args)}(h:∀a x,gr args a->pre a x->(dW B Γ fn (anns a x) aG args alts a x).holds) :
  cF P B.eT X f false (bF aG args pre alts):=by
 simp only[lS,ai,ck]at hg;obtain⟨⟨h1,h2⟩,h3⟩:=hg;obtain⟨c,hc⟩:=h9.1 h1;refine⟨⟨fn,hf,by rw[hc];rfl,h2⟩,fun O st loc w Nj vs K hK g hO ha =>?_⟩;unfold bF at hK;obtain⟨t1,g1,e1,k1⟩:=qH args Nj g;simp only at hK;split at hK
 case h_2=>exact hK.elim
 rename_i ν hν;split at hK
 case h_2=>exact hK.elim
 rename_i a x hnd hga hx;obtain⟨hp,hpre,hK⟩:=u7 hK;obtain⟨hp1,hp2⟩:=fy.1 hp;refine(Jv hok hf hc (ti h3) h g1 hO (k1 vs ha) hnd hga hx hp1 hp2 hpre hK).mono ?_;rintro e w' ⟨v,sv,st',loc',q1,q2,q3,q4,q5,q6⟩;exact⟨v,sv,st',loc',q1,q2,q3.trans e1,(fun hq=>by cases hq),q4,t1.trans q5,q6⟩
end
end Go.Vg

namespace Go.Vg
@[reducible] def gD:Ty:=.prod .str (.prod (.int .i64) (.prod .bool .unit))
@[reducible] def BK:Ty:=.prod (.int .i64) (.prod (.int .i64) .unit)
@[reducible] def lT:Ty:=.prod (.int .i64) (.prod (.int .i64) (.prod (.int .i64) (.prod .str (.prod .bool .unit))))
@[reducible] def aI:Ty:=.prod (.int .i64) (.prod (.int .i64) (.prod (.int .i64) .unit))
@[reducible] def aE:Ty:=.prod .str (.prod (.int .i64) (.prod (.int .i64) .unit))
@[reducible] def aV:Ty:=.prod (.slice .str) (.prod (.slice (.int .i64)) (.prod (.slice gD) (.prod (.slice lT) .unit)))
@[reducible] def aA:Ty:=.prod .str (.prod (.slice aE) (.prod (.slice aI) .unit))
@[reducible] def eX:Ty:=.prod .str (.prod .str (.prod .str (.prod (.int .i64) (.prod (.int .u64) (.prod aA .unit)))))
@[reducible] def tz:Ty:=.prod .str (.prod (.int .i64) (.prod (.slice (.int .i64)) .unit))
@[reducible] def du:Ty:=.prod (.int .i64) (.prod .str .unit)
@[reducible] def Kz:Ty:=.prod (.slice .str) (.prod (.slice .str) (.prod (.slice du) (.prod (.int .i64) (.prod .bool .unit))))
theorem bl :
  (∀(p:Prop) [Decidable p],(decide p=true)=p)/\(∀(p:Prop) [Decidable p],(decide p=false)=¬p)/\
  (∀(α:Type) [BEq α] [LawfulBEq α] (a b:α),((a == b)=true)=(a=b))/\(∀(α:Type) [BEq α] [LawfulBEq α] (a b:α),((a == b)=false)=¬a=b)/\
  (∀(α:Type) [BEq α] [LawfulBEq α] (a b:α),((a != b)=true)=¬a=b)/\(∀(α:Type) [BEq α] [LawfulBEq α] (a b:α),((a != b)=false)=(a=b))/\
  (∀b:Bool,((!b)=true)=(b=false))/\(∀b:Bool,((!b)=false)=(b=true))/\(∀b:Bool,(¬b=true)=(b=false))/\(∀b:Bool,(¬b=false)=(b=true))/\
  (∀a b:Bool,((a&&b)=true)=(a=true/\b=true))/\(∀a b:Bool,((a || b)=true)=(a=true\/b=true))/\
  (∀a b:Bool,((a&&b)=false)=(a=false\/b=false))/\(∀a b:Bool,((a || b)=false)=(a=false/\b=false))/\
  (∀a b:Int,(¬a<b)=(b<=a))/\(∀a b:Int,(¬a<=b)=(b<a)):=by
 refine⟨?_,?_,?_,?_,?_,?_,?_,?_,?_,?_,?_,?_,?_,?_,?_,?_⟩ <;> intros <;> first|(simp;done)|(rename_i a b;cases a <;> cases b <;> simp)
end Go.Vg

namespace Go.Vg
open Go.RowKit
def Jw{w:World}{b i:Nat}{c:Array Value}{T:TypeId}{v:Value}(hb:w.heap[b]?=some (.cells c T (0,0))):(w.setCell ⟨b,i,none⟩ v).heap[b]?=some (.cells (c.setIfInBounds i v) T (0,0)):=by
 simp[World.setCell,Array.getElem?_modify,hb]
def Lc{P:Program}{w:World}{t u ty e:TypeId}{i:TypeInfo}(ht:P.underlying t=some (.slice e))(hu:P.underlying u=some .string)(hi:P.info? e=some i)(hz:i.zero=some (.int .u8 0))
  (hsize:i.size=1)(hby:i.bytes=1){v:Value}{xs:List Value}(hown:w.ownsRow 0 e 1 v xs.length xs)(hcap:∀a n c,v=.slice (some a) n c->0<c)(s:ByteArray)(hlen:xs.length+s.size<=140737488355328) :
  ∃v' w',(tk #[t,u] ty #[v,.string s]).run P w=.ok v' w'/\w'.ownsRow 0 e 1 v' (xs.length+s.size) (xs++c8 s)/\w.grownBy w' v.ownBlock/\(∀a n c,v'=.slice (some a) n c->0<c)/\
   (∀g,v'.ownBlock=some g->v.ownBlock=some g\/w.heap.size<=g):=by
 rcases hown.2 with⟨rfl,h0⟩|⟨g,cap,cur,rfl,hbg,hg,hnc,hcm,hcs,htake⟩
 ·have hown':w.ownsRow w.heap.size e 1 (.slice none 0 0) xs.length xs:=⟨hown.1,.inl ⟨rfl,h0⟩⟩
  obtain⟨v',w',h1,h2,h3,h4⟩:=Lib.run_append_own_string (P:=P) w w.heap.size t u ty e i ht hu hi hz hsize hby _ _ _ hown' s (by unfold maxLen;omega) hlen (ak _);rcases h2.2 with⟨rfl,h6⟩|⟨g,cap,cur,rfl,k1,k2,k3,k4⟩
  ·exact⟨_,w',h1,⟨h2.1,.inl ⟨rfl,h6⟩⟩,h3,(fun a n c hh=>by cases hh),(fun g hh=>by cases hh)⟩
  ·refine⟨_,w',h1,⟨h2.1,.inr ⟨g,cap,cur,rfl,a8 _,k2,k3,k4⟩⟩,h3,fun a n c hh =>?_,fun g' hh=>by cases hh;exact .inr k1⟩
   cases hh;by_cases hs:s.size=0
   ·have:=h4.2 ⟨rfl,hs⟩;cases this
   ·omega
 ·have hc0:=hcap _ _ _ rfl
  by_cases hroom:xs.length+s.size<=cap
  ·obtain⟨w',h1,h2,h3⟩:=Lib.run_append_fits_string (P:=P) w 0 t u ty e i ht hu hi hsize _ _ _ _ hown s hc0 hroom
   exact⟨_,w',h1,h2,h3,(fun a n c hh=>by cases hh;exact hc0),(fun g' hh =>.inl hh)⟩
  ·have holds:∀j u,xs[j]?=some u->w.cell? ((⟨g,0,none⟩:Addr).add j)=some u:=hown.cells (g:=g) rfl
   have hr:=Lib.run_append_grow_string (P:=P) w t u ty e i (.int .u8 0) ht hu hi hz ⟨g,0,none⟩ xs.length cap xs (by rw[hsize];simp) holds s (by omega) (by omega) (by rw[hby];exact growslice_fits (by omega) (by omega));have hge:=grownCap_ge w (xs.length+s.size) cap e;have hcm':grownCap w (xs.length+s.size) cap e<=maxLen:=grownCap_le_maxLen w (xs.length+s.size) cap e (by unfold maxLen;omega);refine⟨_,_,hr,⟨by simp[ix],.inr ⟨w.heap.size,_,_,rfl,a8 _,heap_alloc_new w.drew _,hge,hcm',?_,?_⟩⟩,⟨rfl,rfl,rfl,by simp,fun k hk _=>Go.Deep.blk_alloc_lt w.drew _ k hk⟩,(fun a n c hh=>by cases hh;omega),(fun g' hh=>by cases hh;exact .inr (ak _))⟩
   ·have hz1:(bu j8 0).cells.size=1:=rfl
    simp only[Array.size_append,h8,size_zeroCells,hz1,ix];omega
   ·simp only[Array.toList_append,dc]
    rw[<-dc];have:(xs++c8 s).length=(xs.length+s.size)*1:=by simp[ix]
    rw[<-this];exact uv
def tM{P:Program}{w w':World}{ops:Array Oper}{rest:List Oper}{o:Oper}{a:Act}{Q:Exit->Act->World->Prop}(hgd:o.guard=none)(sl x:Operand)(t u:TypeId)
  (ho:o.op=.call {callee:=.builtin .append,args:=#[sl,x],argTypes:=#[t,u]}){v v' y:Value}(hs:a.eval sl=v)(hx:a.eval x=y)
  (hr:(tk #[t,u] o.type #[v,y]).run P w=.ok v' w')(h:wpList P ops Q rest (a.put o.dst v') w'):wpList P ops Q (o :: rest) a w:=by
 refine wpList_plain hgd fun K hK =>?_
 unfold Oper.wp execOp;simp only[ho,resolve,invoke,builtin,Sem.run_bind,Sem.run_pure,u0,List.map_toArray,bd,List.map_nil,hs,hx,hr];exact hK _ _ h
structure Kept (b:Nat) (v:Value) (w w':World):Prop where
 os:w'.os=w.os
 output:w'.output=w.output
 size:w.heap.size<=w'.heap.size
 block:∀k,k<w.heap.size->k≠b->v.ownBlock≠some k->w'.heap[k]?=w.heap[k]?
structure FA (v:Value) (w w':World):Prop where
 os:w'.os=w.os
 output:w'.output=w.output
 size:w'.heap.size=w.heap.size
 block:∀k,v.ownBlock≠some k->w'.heap[k]?=w.heap[k]?
def Dw{w:World}{g n c:Nat}{m:Nat}:FA (.slice (some ⟨g,0,none⟩) n c) w (w.drew.freeze ⟨g,0,none⟩ m):=by
 unfold World.freeze;split
 ·exact⟨rfl,rfl,rfl,fun _ _=>rfl⟩
 ·refine⟨rfl,rfl,by simp,fun k hk =>?_⟩
  have:k≠g:=fun e=>hk (by rw[e];rfl)
  simp only[Array.getElem?_modify];rw[if_neg (fun e=>this e.symm)];rfl
def qI(T e:Nat):bA:=fun args st K=>
 match args with
 |[.one (.eL n),.one (.d .str s)]=>match look st.aC n with
  |some (.ext 2 t x)=>match h:Ty.beq t ky with
   |true =>.and ((bR h x).2.1=(T:Int)/\(bR h x).2.2.1=(e:Int)/\(bR h x).1.length+s.length<=140737488355328)
     (K (.jy [.one (.d (.int .i64) (s.length:Int)),.one (.d .err .nil)]) (setObj st n (.ext 2 ky ((bR h x).1++aZ s,(T:Int),(e:Int),()))))
   |false =>.ff
  |_ =>.ff
 |_ =>.ff
def oQ(T e:Nat):bA:=fun args st K=>
 match args with
 |[.one (.eL n)]=>match look st.aC n with
  |some (.ext 2 t x)=>match h:Ty.beq t ky with
   |true =>.and ((bR h x).2.1=(T:Int)/\(bR h x).2.2.1=(e:Int)) (K (.s (.one (.d .str (bytesOf (bR h x).1)))) (aS st n))
   |false =>.ff
  |_ =>.ff
 |_ =>.ff
def wJ(T e:Nat):bA:=fun args st K=>
 match args with
 |[.one (.eL n)]=>match look st.aC n with
  |some (.ext 2 t x)=>match h:Ty.beq t ky with
   |true =>.and ((bR h x).2.1=(T:Int)/\(bR h x).2.2.1=(e:Int)) (K (.s (.one (.d (.int .i64) ((bR h x).1.length:Int)))) st)
   |false =>.ff
  |_ =>.ff
 |_ =>.ff
section
variable{P:Program}{eT:TypeId}{X:Ext}{f:FuncId}
def BL{O:aD}{st:St}{loc:Nat->Loc}{w:World}(g:Good eT X (aB O st loc w)){n:Nat}{x:D ky}(hob:look st.aC n=some (.ext 2 ky x)){v:Value}(hv:CR eT (aB O st loc w) (.eL n) v) :
  ∃b p u,v=.pointer (some ⟨b,0,none⟩)/\LR x (loc n) w b p u:=by
 obtain⟨h0,b,p,u,hD⟩:=X.GJ.1 (g.obj n _ hob).2;exact⟨b,p,u,(hv.2 _ hob rfl).trans hD.lv,hD⟩
def wK(s:List UInt8):bytesOf (aZ s)=s:=by
 induction s with
 |nil=>rfl
 |cons c r ih=>
  simp only[bytesOf,aZ,bd,dd]at ih ⊢;rw[ih];simp
def FB{xs:List Int}(h:∀y∈xs,0<=(y:Int)/\(y:Int)<=255):aZ (bytesOf xs)=xs:=by
 induction xs with
 |nil=>rfl
 |cons y r ih=>
  have h1:=h y (by simp);have h2:=ih fun z hz=>h z (by simp[hz])
  simp only[aZ,bytesOf,dd,bd]at h2 ⊢;rw[h2];congr 1;simp only[kc];omega
def FC(s:List UInt8):∀y∈aZ s,0<=(y:Int)/\(y:Int)<=255:=by
 intro y hy;simp only[aZ,b6]at hy;obtain⟨c,_,rfl⟩:=hy;have:=c.toNat_lt;omega
def Jy{xs:List Int}(h:∀y∈xs,0<=(y:Int)/\(y:Int)<=255):xs.map (bu .u8)=(bytesOf xs).map fun c=>bu .u8 c.toNat:=by
 conv=>lhs;rw[<-FB h]
 simp[aZ]
def wL{T e:Nat}(hfn:∃fn,P.funcs[f]?=some fn/\fn.body.isNone=false/\(fn.name == "runtime.NumGoroutine")=false)
  (H:∀(b:Nat) (p v:Value) (xs:List Value) (s:ByteArray) (w:World),w.heap[b]?=some (.cells #[p,v] T (0,0))->(p=.pointer none\/p=.pointer (some ⟨b,0,none⟩))->w.ownsRow 0 e 1 v xs.length xs->v.ownBlock≠some b->
   (∀a n c,v=.slice (some a) n c->0<c)->xs.length+s.size<=140737488355328->
   Calls P f #[.pointer (some ⟨b,0,none⟩),.string s] w fun r w'=>r=.returned (.tuple #[.int .i64 s.size,.nilIface])/\
    ∃v',w'.heap[b]?=some (.cells #[.pointer (some ⟨b,0,none⟩),v'] T (0,0))/\w'.ownsRow 0 e 1 v' (xs.length+s.size) (xs++c8 s)/\v'.ownBlock≠some b/\Kept b v w w'/\
     (∀a n c,v'=.slice (some a) n c->0<c)/\(∀g,v'.ownBlock=some g->v.ownBlock=some g\/w.heap.size<=g)) :
  cF P eT X f false (qI T e):=by
 refine⟨hfn,fun O st loc w args vs K hs g hO ha =>?_⟩;unfold qI at hs;split at hs
 case h_2=>exact hs.elim
 rename_i n s;split at hs
 case h_2=>exact hs.elim
 rename_i t x hob;split at hs
 case h_2=>exact hs.elim
 rename_i ht;have ht':=Ty.eq_of_beq ht;subst ht';rw[fQ]at hs;obtain⟨⟨hT,he,hlen⟩,hs⟩:=hs
 match vs,ha with
 |[v0,v1],.cons h0 (.cons h1 .nil)=>
 obtain⟨b,p,u,rfl,hD⟩:=BL g hob h0;obtain⟨rfl,hsl⟩:=fG.1 (show CR eT _ (.d .str s) v1 from h1);have hsz:(⟨s.toArray⟩:ByteArray).size=s.length:=by simp[ByteArray.size]
 have hT':x.2.1.toNat=T:=by rw[hT];rfl
 have he':x.2.2.1.toNat=e:=by rw[he];rfl
 have hheap:=hD.heap;have hrow:=hD.row;rw[hT']at hheap;rw[he']at hrow;refine(H b p u (x.1.map (bu .u8)) ⟨s.toArray⟩ w hheap hD.ptr (by simpa using hrow) hD.ne hD.cap (by simpa[hsz]using hlen)).mono ?_;rintro r w' ⟨rfl,v',k1,k2,k3,k4,k5,k6⟩;have hlt:b<w.heap.size:=(Array.getElem?_eq_some_iff.1 hheap).1;obtain⟨tr1,g1⟩:=mc (S:=aB O st loc w) (S':=aB O (setObj st n (.ext 2 ky (x.1++aZ s,(T:Int),(e:Int),()))) (bI loc n ⟨.pointer (some ⟨b,0,none⟩),b :: v'.ownBlock.toList⟩) w') (n:=n)
  (oc:=.ext 2 ky x) (oc':=.ext 2 ky (x.1++aZ s,(T:Int),(e:Int),())) (l':=⟨.pointer (some ⟨b,0,none⟩),b :: v'.ownBlock.toList⟩) g rfl hO hob
  (fun m=>lf st n m _) (fun _=>rfl) rfl (fun _=>⟨hD.lv.symm,fun h=>(h _ _ rfl).elim⟩) ⟨rfl,rfl⟩ k4.os k4.output k4.size
  (fun b' h1 h2=>k4.block b' h1 (fun e=>h2 (by simp only[aB];rw[hD.bs,e];simp)) (fun e=>h2 (by simp only[aB];rw[hD.bs,e];simp)))
  (fun b' o v _ ho=>by simp[OC.lo]at ho)
  (fun b' hb'=>by
   rcases aq.1 hb' with rfl|hb'
   ·exact .inl ⟨by simp only[aB];rw[hD.bs];simp,ak _⟩
   ·have hb':v'.ownBlock=some b':=by simpa using hb'
    rcases k6 b' hb' with h|h
    ·exact .inl ⟨by simp only[aB];rw[hD.bs,h];simp,ak _⟩
    ·exact .inr h)
 have g1:=g1 (X.GJ.2 ⟨rfl,b,.pointer (some ⟨b,0,none⟩),v',rfl,.inr rfl,k1,by
  have e1:x.1.map (bu .u8)++c8 ⟨s.toArray⟩=(x.1++aZ s).map (bu .u8):=by rw[tT,dp]
  have e2:(x.1.map (bu .u8)).length+(⟨s.toArray⟩:ByteArray).size=(x.1++aZ s).length:=by simp[hsz,aZ]
  rw[e1,e2]at k2;exact k2,rfl,k3,(fun y hy=>by
   rcases ar.1 hy with h|h
   ·exact hD.u8 y h
   ·exact FC s y h),k5⟩)
 refine⟨_,_,_,_,rfl,hs,rfl,(fun hh=>by cases hh),g1,tr1,⟨[.int .i64 (⟨s.toArray⟩:ByteArray).size,.nilIface],rfl,.cons ?_ (.cons ?_ .nil)⟩⟩
 ·refine bZ.2 ⟨by rw[hsz],?_⟩
  simp only[kh,kk,dT,et];unfold aN at hsl;constructor <;> simp <;> omega
 ·exact jW.2 rfl
def FD{O:aD}{st:St}{loc:Nat->Loc}{w w':World}(g:Good eT X (aB O st loc w)){n:Nat}{oc0:OC}(hn:look st.aC n=some oc0)(h0:oc0.lo=0)
  (hos:w'.os=w.os)(hout:w'.output=w.output)(hsz:w.heap.size<=w'.heap.size)(hb:∀b,b<w.heap.size->b∉(loc n).bs->w'.heap[b]?=w.heap[b]?) :
  Tr (aB O st loc w) (aB O (aS st n) loc w')/\Good eT X (aB O (aS st n) loc w'):=by
 have hob:∀m oc,look (aS st n).aC m=some oc->m≠n/\look st.aC m=some oc:=by
  intro m oc h;simp only[aS]at h;rw[iJ]at h;split at h
  ·cases h
  ·rename_i hne;exact⟨fun e=>hne e.symm,h⟩
 have hA:∀b o,(aB O (aS st n) loc w').A b o->(aB O st loc w).A b o:=by
  rintro b o (h|⟨m,oc,h1,h2⟩)
  ·exact .inl h
  ·exact .inr ⟨m,oc,(hob _ _ h1).2,h2⟩
 have ht:Tr (aB O st loc w) (aB O (aS st n) loc w'):={
  O:=rfl
  next:=ak _
  os:=hos
  output:=hout
  size:=hsz
  own:=fun b h=>by obtain⟨m,oc,h1,h2⟩:=h;exact .inl ⟨m,oc,(hob _ _ h1).2,h2⟩
  cell:=fun b o v h1 h2=>by
   have hlt:=td w _ h2;refine⟨?_,fun h=>h1 (hA b o h)⟩;show w'.cell? _=_;rw[World.cell?_of_block (w:=w) (w':=w') (a:=⟨b,o,none⟩) (hb b hlt fun hm=>h1 (.inr ⟨n,oc0,hn,hm,by rw[h0];exact a8 _⟩))];exact h2
  block:=fun b h1 h2=>hb b h1 fun hm=>h2 ⟨n,oc0,hn,hm⟩
  loc:=fun _ _ _=>kM rfl
  kind:=fun m oc _ h=>⟨oc,(hob _ _ h).2,by cases oc <;> simp[aO,aB]⟩}
 refine⟨ht,⟨fun m oc h =>?_,fun m1 m2 oc1 oc2 b h1 h2 h3 h4 =>?_,fun m oc b off h1 h2 =>?_,g.gl.tr ht⟩⟩
 ·obtain⟨hne,h⟩:=hob _ _ h
  obtain⟨h1,h2⟩:=g.obj m oc h;exact⟨h1,h2.tr ht fun b hbm=>hb b (h2.inside b hbm) fun hbn=>hne (g.apart m n oc oc0 b h hn hbm hbn)⟩
 ·exact g.apart m1 m2 oc1 oc2 b (hob _ _ h1).2 (hob _ _ h2).2 h3 h4
 ·exact g.out m oc b off (hob _ _ h1).2 h2
def vg{T e:Nat}(hfn:∃fn,P.funcs[f]?=some fn/\fn.body.isNone=false/\(fn.name == "runtime.NumGoroutine")=false)
  (H:∀(b:Nat) (p v:Value) (l:List UInt8) (w:World),w.heap[b]?=some (.cells #[p,v] T (0,0))->w.ownsRow 0 e 1 v l.length (l.map fun c=>bu .u8 c.toNat)->(∀a n c,v=.slice (some a) n c->0<c)->
   Calls P f #[.pointer (some ⟨b,0,none⟩)] w fun r w'=>r=.returned (.string ⟨l.toArray⟩)/\FA v w w') :
  cF P eT X f false (oQ T e):=by
 refine⟨hfn,fun O st loc w args vs K hs g hO ha =>?_⟩;unfold oQ at hs;split at hs
 case h_2=>exact hs.elim
 rename_i n;split at hs
 case h_2=>exact hs.elim
 rename_i t x hob;split at hs
 case h_2=>exact hs.elim
 rename_i ht;have ht':=Ty.eq_of_beq ht;subst ht';rw[fQ]at hs;obtain⟨⟨hT,he⟩,hs⟩:=hs
 match vs,ha with
 |[v0],.cons h0 .nil=>
 obtain⟨b,p,u,rfl,hD⟩:=BL g hob h0;have hT':x.2.1.toNat=T:=by rw[hT];rfl
 have he':x.2.2.1.toNat=e:=by rw[he];rfl
 have hheap:=hD.heap;have hrow:=hD.row;rw[hT']at hheap;rw[he',Jy hD.u8,show x.1.length=(bytesOf x.1).length by simp[bytesOf]]at hrow;refine(H b p u (bytesOf x.1) w hheap hrow hD.cap).mono ?_;rintro r w' ⟨rfl,k⟩;obtain⟨tr1,g1⟩:=FD (w':=w') g hob rfl k.os k.output (by rw[k.size];exact ak _) (fun b' _ h2=>k.block b' fun e=>h2 (by rw[hD.bs,e];simp));refine⟨_,_,_,_,rfl,hs,rfl,(fun hh=>by cases hh),g1,tr1,?_⟩;refine(fG (eT:=eT) (S:=aB O (aS st n) loc w')).2 ⟨rfl,?_⟩;rcases hrow.2 with⟨_,h⟩|⟨_,cap,_,_,_,_,h1,h2,_⟩
 ·rw[h];exact a8 _
 ·unfold maxLen at h2;unfold aN;omega
def Aq{T e:Nat}(hfn:∃fn,P.funcs[f]?=some fn/\fn.body.isNone=false/\(fn.name == "runtime.NumGoroutine")=false)
  (H:∀(b:Nat) (p q:Value) (a:Option Addr) (n c:Nat) (w:World),w.heap[b]?=some (.cells #[p,.slice a n c] T (0,0))->
   Calls P f #[.pointer (some ⟨b,0,none⟩)] w fun r w'=>r=.returned (.int .i64 n)/\w'=w) :
  cF P eT X f true (wJ T e):=by
 refine⟨hfn,fun O st loc w args vs K hs g hO ha =>?_⟩;unfold wJ at hs;split at hs
 case h_2=>exact hs.elim
 rename_i n;split at hs
 case h_2=>exact hs.elim
 rename_i t x hob;split at hs
 case h_2=>exact hs.elim
 rename_i ht;have ht':=Ty.eq_of_beq ht;subst ht';rw[fQ]at hs;obtain⟨⟨hT,he⟩,hs⟩:=hs
 match vs,ha with
 |[v0],.cons h0 .nil=>
 obtain⟨b,p,u,rfl,hD⟩:=BL g hob h0;have hT':x.2.1.toNat=T:=by rw[hT];rfl
 have hheap:=hD.heap;rw[hT']at hheap;obtain⟨a,c,rfl,hl⟩:∃a c,u=.slice a x.1.length c/\x.1.length<=aN:=by
  rcases hD.row.2 with⟨rfl,h⟩|⟨g',cap,cur,h,_,_,h1,h2,_⟩
  ·exact⟨none,0,by rw[h],by rw[h];exact a8 _⟩
  ·exact⟨_,_,h,by unfold maxLen at h2;unfold aN;omega⟩
 refine(H b p p a x.1.length c w hheap).mono ?_;rintro r w' ⟨rfl,rfl⟩;refine⟨_,_,_,loc,rfl,hs,rfl,fun _=>Below.refl _ _,g,Tr.refl _,?_⟩;refine(bZ (eT:=eT) (S:=aB O st loc w')).2 ⟨rfl,?_⟩;unfold aN at hl;simp only[kh,kk,dT,et];constructor <;> simp <;> omega
end
end Go.Vg

namespace Go.Mrl
open Go.Vg
def small(c:UInt8):Bool:=decide ((97:Int)<=c.toNat)&&decide ((c.toNat:Int)<=122)
def other(c:UInt8):Bool:=(decide ((48:Int)<=c.toNat)&&decide ((c.toNat:Int)<=57)) || ((c.toNat:Int) == 95)
def fv(i:Nat)(c:UInt8):Bool:=!small c&&((i:Int) == 0 || !other c)
def pL(s:List UInt8):Bool:=(ax s.length).any fun i=>fv i (cM s i)
def aH(s:List UInt8):Int:=if s.length<1\/8<s.length then 1 else if pL s=true then 3 else 0
def aJ(n:Int):aQ:=if n=0 then .nil else .no n
def mr:aQ->Int
 |.nil=>0
 |.no m=>m
 |.other =>-1
def eY(s:List UInt8):0<=aH s:=by
 unfold aH;split
 ·decide
 ·split <;> decide
def Dx{s:List UInt8}{i:Nat}(h:i<s.length)(hb:fv i (cM s i)=true):pL s=true:=by
 simp only[pL,List.any_eq_true,va];exact⟨i,h,hb⟩
def BM{s:List UInt8}(h:∀i,i<s.length->fv i (cM s i)=false):pL s=false:=by
 simp only[pL,vd,va];intro i hi;rw[h i hi];simp
def rh{s:List UInt8}(h:s.length<1\/8<s.length):aH s=1:=by unfold aH;rw[if_pos h]
def fe{s:List UInt8}{i:Nat}(h:¬(s.length<1\/8<s.length))(hi:i<s.length)(hb:fv i (cM s i)=true):aH s=3:=by
 unfold aH;rw[if_neg h,if_pos (Dx hi hb)]
def pM{s:List UInt8}(h:¬(s.length<1\/8<s.length))(hb:∀i,i<s.length->fv i (cM s i)=false):aH s=0:=by
 unfold aH;rw[if_neg h,if_neg (by rw[BM hb];decide)]
def iC{i:Nat}{c:UInt8}:fv i c=true↔¬(97<=c.toNat/\c.toNat<=122)/\(i=0\/¬((48<=c.toNat/\c.toNat<=57)\/c.toNat=95)):=by
 simp only[fv,small,other,ai,ck,Bool.and_eq_false_iff,hY,Bool.or_eq_false_iff,decide_eq_false_iff_not,beq_iff_eq,beq_eq_false_iff_ne];omega
def gY{i:Nat}{c:UInt8}:fv i c=false↔¬(¬(97<=c.toNat/\c.toNat<=122)/\(i=0\/¬((48<=c.toNat/\c.toNat<=57)\/c.toNat=95))):=by
 rw[<-iC];simp
def lj{s:List UInt8}{i:Nat}(h:∀j,j<i->fv j (cM s j)=false)(hb:fv i (cM s i)=false):∀j,j<i+1->fv j (cM s j)=false:=by
 intro j hj;rcases cm j i with hlt|hge
 ·exact h j hlt
 ·obtain rfl:j=i:=by omega
  exact hb
def kg{p:Nat->Prop}{n:Nat}(h:∀j,j<n->p j)(hn:p n):∀j,j<n+1->p j:=by
 intro j hj;by_cases e:j=n
 ·rw[e];exact hn
 ·exact h j (by omega)
end Go.Mrl
namespace Go.Mrl
open Go.Vg
end Go.Mrl
namespace Go.Mrl
open Go.Vg
end Go.Mrl

namespace Go.Mrl
open Go.Vg
end Go.Mrl
namespace Go.Mrl
open Go.Vg
end Go.Mrl
namespace Go.Mrl
open Go.Vg
end Go.Mrl
namespace Go.Mrl
open Go.Vg
end Go.Mrl
namespace Go.Mrl
open Go.Vg
end Go.Mrl
namespace Go.Mrl
open Go.Vg
end Go.Mrl

namespace Go.Mrl
open Go.Vg
def lU{t:Ty}{xs:List (D t)}{i:Nat}(h:i<xs.length):xs[i]?=some (nth t xs i):=by
 rw[List.getElem?_eq_getElem h,<-gn (List.getElem?_eq_getElem h)]
def gF{t:Ty}{xs:List (D t)}{i:Nat}(h:i<xs.length):nth t xs i∈xs:=by
 have:=lU (t:=t) h;exact bt this
def iq{t:Ty}{xs:List (D t)}{x:D t}(h:x∈xs):∃i,i<xs.length/\nth t xs i=x:=by
 obtain⟨i,hi,e⟩:=vi h;exact⟨i,hi,by rw[<-e];exact gn (List.getElem?_eq_getElem hi)⟩
end Go.Mrl
namespace Go.Mrl
open Go.Vg
end Go.Mrl
namespace Go.Mrl
open Go.Vg
end Go.Mrl
namespace Go.Mrl
open Go.Vg
end Go.Mrl
namespace Go.Mrl
open Go.Vg
end Go.Mrl

namespace Go.Mrl
open Go.Vg
def ug{t:Ty}{a b:List (D t)}(hl:a.length=b.length)(h:∀i,i<a.length->nth t a i=nth t b i):a=b:=by
 apply List.ext_getElem hl;intro i h1 h2;have:=h i h1
 rwa [show nth t a i=a[i]from gn (List.getElem?_eq_getElem h1),show nth t b i=b[i]from gn (List.getElem?_eq_getElem h2)]at this
def kV(a b:List (D aI)):Bool:=decide (a=b)
def M1{α:Type}{p:Nat->α->Prop}{f:Nat->α}{k:Nat}(h:∀j,j<k->p j (f j))(hk:p k (f k)):∀j,j<k+1->p j (f j):=by
 intro j hj;by_cases e:j=k
 ·subst e;exact hk
 ·exact h j (by omega)
def Hn{p:Nat->Prop}{k:Nat}(h:∀j,j<k->p j)(hk:p k):∀j,j<k+1->p j:=by
 intro j hj;by_cases e:j=k
 ·subst e;exact hk
 ·exact h j (by omega)
def qJ{t:Ty}{a b:List (D t)}{i:Nat}:nth t (a++b) i=if i<a.length then nth t a i else nth t b (i-a.length):=by
 unfold nth;simp only[List.getD_eq_getElem?_getD,List.getElem?_append];split <;> rfl
def Jz{t:Ty}{a:List (D t)}{n i:Nat}(h:i<n):nth t (a.take n) i=nth t a i:=by
 unfold nth;simp only[List.getD_eq_getElem?_getD,List.getElem?_take,if_pos h]
abbrev Pt:=Int×Int×Int×Unit
def iS{t:Ty}{l:List (D t)}{i j:Nat}{x:D t}(h:¬i=j):nth t (l.set i x) j=nth t l j:=by
 unfold nth;simp only[List.getD_eq_getElem?_getD];rw[List.getElem?_set_ne h]
def ki{t:Ty}{l:List (D t)}{i:Nat}{x:D t}(h:i<l.length):nth t (l.set i x) i=x:=by
 unfold nth;simp only[List.getD_eq_getElem?_getD];rw[List.getElem?_set_self h];rfl
def FF{a b:List Pt}(hl:(a.length:Int)=b.length)(h:∀i,i<a.length->nth aI a i=nth aI b i):true=kV a b:=by
 have:a=b:=ug (t:=aI) (by omega) h;simp[kV,this]
def JA{a b:List Pt}{i:Nat}(h:¬nth aI a i=nth aI b i):false=kV a b:=by
 have:¬a=b:=fun e=>h (by rw[e])
 simp[kV,this]
def Ho{a b:List Pt}(h:¬(a.length:Int)=b.length):false=kV a b:=by
 have:¬a=b:=fun e=>h (by rw[e])
 simp[kV,this]
def fg(n:Int):Bool:=decide (-2147483648<=n)&&decide (n<=2147483647)
def se:List (List UInt8)->List (List UInt8)->Int
 |_,[]=>0
 |p,s :: r=>if aH s > 0 then aH s else if p.any (· == s)=true then 3 else se (p++[s]) r
def sf:List Int->Int
 |[]=>0
 |n :: r=>if fg n=true then sf r else 1
def wM(n:Nat):List (D gD)->List (D gD)->Int
 |_,[]=>0
 |p,s :: r=>if aH s.1 > 0 then aH s.1 else if s.2.1<0\/s.2.1>=(n:Int)then 1 else if p.any (fun x=>x.1 == s.1)=true then 3 else wM n (p++[s]) r
def Mg(a:Int):Option Int->Bool
 |some b=>decide (a<=b)
 |none=>false
def BN(n:Nat)(prev:Option Int)(t:D lT):Int:=
 if t.1<0\/t.1>=(n:Int)\/fg t.2.2.1=false then 1
 else if t.2.1<1\/t.2.1 > 3\/Mg t.1 prev=true then 3
 else if t.2.1=1 then(if t.2.2.2.1≠[]\/t.2.2.2.2.1=true then 3 else 0)
 else aH t.2.2.2.1
def AK(n:Nat):Option Int->List (D lT)->Int
 |_,[]=>0
 |prev,t :: r=>if BN n prev t≠0 then BN n prev t else AK n (some t.1) r
def AL(o:D aV):Prop:=o.1.length > 4\/o.2.1.length<1\/o.2.1.length > 40\/o.2.2.1.length > 8\/o.2.2.2.1.length > 6
instance(o:D aV):Decidable (AL o):=by unfold AL;infer_instance
def jM(o:D aV):Int:=
 if AL o then 2 else if se [] o.1≠0 then se [] o.1 else if sf o.2.1≠0 then sf o.2.1
 else if wM o.2.1.length [] o.2.2.1≠0 then wM o.2.1.length [] o.2.2.1 else AK o.2.1.length none o.2.2.2.1
def gZ{t:Ty}{l:List (D t)}{i:Nat}(h:i<l.length):l.take (i+1)=l.take i++[nth t l i]:=by
 rw[List.take_add_one];congr 1;unfold nth;simp[h]
abbrev aF:=List UInt8
abbrev Dk:=(Int×Bool×Unit)×(List (List UInt8)×(List (List UInt8)×(List (Int×List UInt8×Unit)×Unit)))
def sg(x:Int×Int):Int×Int:=(0,x.1*x.2)
def cB(s:List UInt8):List UInt8:=s++av (64-s.length) 0
def stepOf(d:Dk):Dk×Int:=
 if d.1.2.1=true then(d,9)else if d.1.1=0 then(((-1,true,()),d.2),9)else(((if 0<d.1.1 then d.1.1-1 else d.1.1,false,()),d.2),0)
def bB(d:Dk)(at_:Int)(s:List UInt8):Dk×Int:=
 if at_<0\/(d.2.2.1.length:Int)<=at_\/64<s.length then(d,1)
 else if(stepOf d).2=0 then(((stepOf d).1.1,d.2.1,d.2.2.1.set at_.toNat (cB s),d.2.2.2.1++[(at_,cB s,())],()),0)else stepOf d
def mK(d:Dk)(at_:Int):List UInt8×Int:=
 if d.1.2.1=true then([],9)else if at_<0\/(d.2.2.1.length:Int)<=at_ then([],1)else(nth .str d.2.2.1 at_.toNat,0)
def bC(d:Dk):Dk×Int:=
 if(stepOf d).2=0 then(((stepOf d).1.1,d.2.2.1,d.2.2.1,[],()),0)else stepOf d
def xU(d:Dk)(n:Int):Dk:=((xL n (-1),d.1.2.1,()),d.2)
def AM(k:Int)(i:Nat):Prop:=(b7 .u64 ((bm ba.bits (k.fdiv (2^(i % 64)))&&&bm ba.bits 1).toNat:Int))=1
open Classical in
def ei(k:Int)(wait:List (Int×List UInt8×Unit))(kept:List (List UInt8)):Nat->List (List UInt8)
 |0=>kept
 |n+1=>if AM k n then(ei k wait kept n).set (nth du wait n).1.toNat (nth du wait n).2.1 else ei k wait kept n
def eM(d:Dk)(k:Int):Dk:=
 ((-1,false,()),ei k d.2.2.2.1 d.2.1 d.2.2.2.1.length,ei k d.2.2.2.1 d.2.1 d.2.2.2.1.length,[],())
def nw(n:Int):Dk:=((-1,false,()),av n.toNat (cB []),av n.toNat (cB []),[],())
def ly(k:Int)(wait:List (Int×List UInt8×Unit))(kept:List (List UInt8)):∀n,(ei k wait kept n).length=kept.length
 |0=>rfl
 |n+1=>by unfold ei;split <;> simp[ly k wait kept n]
def dF(d:Dk):(stepOf d).1.2=d.2:=by
 unfold stepOf;split
 ·rfl
 ·split <;> rfl
def FG(n:Nat):bytesOf (av n 0)=av n 0:=by
 unfold bytesOf;rw[List.map_replicate];rfl
def ir{a:Int}(h0:0<=a)(h:a<18446744073709551616):ba.wrap a=a:=
 sZ (by simp[kh,kk,dT,et];omega)
def BO{a:Int}(h0:0<=a)(h:a<18446744073709551616):(bm ba.bits a).toNat=a.toNat:=by
 rw[BitVec.toNat_ofInt];show(a % (2^64:Nat)).toNat=a.toNat;rw[Int.emod_eq_of_lt h0 (by simpa using h)]
def JB{a x:Int}(hx:x=b7 .u64 ((bm ba.bits a&&&bm ba.bits 4294967295).toNat:Int))(h0:0<=a)(h:a<4294967296):x=a:=by
 rw[BitVec.toNat_and,BO h0 (by omega),BO (by omega) (by omega)]at hx;rw[show(4294967295:Int).toNat=2^32-1 from rfl,Nat.and_two_pow_sub_one_eq_mod,vl (by omega),vn h0,ir h0 (by omega)]at hx;exact hx
def BP{a x:Int}{n:Nat}(hx:x=a.fdiv (2^(min n ba.bits)))(hn:n=32)(h0:0<=a)(h:a<4294967296):x=0:=by
 subst hn;rw[show min 32 ba.bits=32 from rfl,vv _ (by decide),Int.ediv_eq_zero_of_lt h0 (by simpa using h)]at hx;exact hx
def iT(s:List UInt8)(n k:Nat):List (List UInt8):=av k s++av (n-k) []
def BQ{s:List UInt8}{n k:Nat}(h:k<=n):(iT s n k).length=n:=by simp[iT];omega
def FH{s:List UInt8}{n:Nat}(hn:0<n){k:Nat}(hk:k=1)(x:List (List UInt8))(hx:x=[s]):(av n ([]:List UInt8)).take 0++x.take k++(av n []).drop (0+k)=iT s n 1:=by
 subst hk;subst hx;simp[iT]
def Hp{s:List UInt8}{n k m:Nat}(hk:k+m<=n)(hm:m<=k):(iT s n k).take k++((iT s n k).take k).take m++(iT s n k).drop (k+m)=iT s n (k+m):=by
 have h1:(iT s n k).take k=av k s:=by
  unfold iT;rw[List.take_append_of_le_length (by simp),kl (by simp)]
 rw[h1,List.take_replicate,ez hm];unfold iT;rw[List.drop_append,List.drop_of_length_le (by simp),ks,List.drop_replicate,vx,<-List.replicate_append_replicate];rw[show n-k-(k+m-k)=n-(k+m) by omega]
def Hq{s:List UInt8}{n:Nat}:iT s n n=av n s:=by simp[iT]
def bK{n:Int}:(aJ n).isNil=true↔n=0:=by
 unfold aJ;split
 ·rename_i h;simp[h,aQ.isNil]
 ·rename_i h;simp[h,aQ.isNil]
def FI{d:Dk}{at_:Int}{s:List UInt8}(h:at_<0\/(d.2.2.1.length:Int)<=at_\/64<s.length):bB d at_ s=(d,1):=by unfold bB;rw[if_pos h]
def Dy{d:Dk}{at_:Int}{s:List UInt8}(h:¬(at_<0\/(d.2.2.1.length:Int)<=at_\/64<s.length))(h2:¬(stepOf d).2=0):bB d at_ s=stepOf d:=by unfold bB;rw[if_neg h,if_neg h2]
def Hr{d:Dk}{at_:Int}{s:List UInt8}(h:¬(at_<0\/(d.2.2.1.length:Int)<=at_\/64<s.length))(h2:(stepOf d).2=0) :
  bB d at_ s=(((stepOf d).1.1,d.2.1,d.2.2.1.set at_.toNat (cB s),d.2.2.2.1++[(at_,cB s,())],()),0):=by unfold bB;rw[if_neg h,if_pos h2]
def Ld{t:Ty}{l:List (D t)}{i:Nat}{x:D t}(h:i<l.length):nth t (l.set i x) i=x:=by
 unfold nth;simp[List.getD_eq_getElem?_getD,h]
def BR{a b:List (List UInt8)}(h:a.length=b.length):a.take 0++b.take (min b.length a.length)++a.drop (0+min b.length a.length)=b:=by
 rw[h,Nat.min_self];simp[h]
def JC{k:Int}{i n:Nat}{x y:Int}(hx:x=k.fdiv (2^(min n ba.bits)))(hn:n=i % 64)(hy:y=b7 .u64 ((bm ba.bits x&&&bm ba.bits 1).toNat:Int)):y=1↔AM k i:=by
 subst hn;have:min (i % 64) ba.bits=i % 64:=ez (by show i % 64<=64;omega);rw[this]at hx;subst hx;subst hy;exact Iff.rfl
def JD{k:Int}{wait:List (Int×List UInt8×Unit)}{kept:List (List UInt8)}{n:Nat}(h:AM k n):(ei k wait kept n).set (nth du wait n).1.toNat (nth du wait n).2.1=ei k wait kept (n+1):=by
 rw[ei,if_pos h]
def Hs{k:Int}{wait:List (Int×List UInt8×Unit)}{kept:List (List UInt8)}{n:Nat}(h:¬AM k n):ei k wait kept n=ei k wait kept (n+1):=by
 rw[ei,if_neg h]
def Dz{d:Dk}(h:d.1.2.1=true):stepOf d=(d,9):=by unfold stepOf;rw[if_pos h]
def uh{d:Dk}(h:d.1.2.1=false)(h0:d.1.1=0):stepOf d=(((-1,true,()),d.2),9):=by unfold stepOf;rw[if_neg (by rw[h];decide),if_pos h0]
def yW{d:Dk}(h:d.1.2.1=false)(h0:¬d.1.1=0)(hf : -1<=d.1.1):stepOf d=(((if(-1:Int) > d.1.1-1 then(-1:Int)else d.1.1-1,d.1.2.1,()),d.2),0):=by
 unfold stepOf;rw[if_neg (by rw[h];decide),if_neg h0,h];by_cases c:0<d.1.1
 ·rw[if_pos c,if_neg (by omega)]
 ·rw[if_neg c,if_pos (by omega),show d.1.1= -1 by omega]
def FJ{d:Dk}{a:Int}(h:d.1.2.1=true):mK d a=([],9):=by unfold mK;rw[if_pos h]
def Ht{d:Dk}{a:Int}(h:d.1.2.1=false)(h2:a<0\/(d.2.2.1.length:Int)<=a):mK d a=([],1):=by unfold mK;rw[if_neg (by rw[h];decide),if_pos h2]
def JE{d:Dk}{a:Int}(h:d.1.2.1=false)(h2:¬(a<0\/(d.2.2.1.length:Int)<=a)):mK d a=(nth .str d.2.2.1 a.toNat,0):=by unfold mK;rw[if_neg (by rw[h];decide),if_neg h2]
def yX{d:Dk}(h:(stepOf d).2=0):bC d=(((stepOf d).1.1,d.2.2.1,d.2.2.1,[],()),0):=by unfold bC;rw[if_pos h]
def ui{d:Dk}(h:¬(stepOf d).2=0):bC d=stepOf d:=by unfold bC;rw[if_neg h]
def KA(i:Nat):bw ((i:Int).tmod 64)=i % 64:=by rw[b8 (by omega)];omega
def iu{a:Int}(h0 : -9223372036854775808<=a)(h:a<9223372036854775808):cn.wrap a=a:=
 sZ (by rw[nL];unfold aR;omega)
end Go.Mrl
namespace Go.Mrl
open Go.Vg
def oh(e:D aA):Prop:=e.1.length<=20/\e.2.1.length<=8/\e.2.2.1.length<=40/\∀i,i<e.2.1.length->(nth aE e.2.1 i).1.length<=20
def sh(a:D eX):Prop:=a.2.1.length<=100/\a.2.2.1.length<=1300/\oh a.2.2.2.2.2.1
def nN(l:List (D eX))(m:Int):Prop:=(l.length:Int)<=m/\∀i,i<l.length->sh (nth eX l i)
end Go.Mrl

namespace Go.Mrl
open Go.Vg
def _root_.Go.Vg.BS:List UInt8->UInt8
 |c :: _=>c
 |[]=>0
def kj(c:UInt8):List aF->aF
 |[]=>[]
 |[x]=>x
 |x :: y :: r=>x++c :: kj c (y :: r)
def parts(c:UInt8):aF->List aF
 |[]=>[[]]
 |b :: r=>if b=c then[] :: parts c r else match parts c r with
  |h :: t=>(b :: h) :: t
  |[]=>[[b]]
def JF(c:UInt8):∀s:aF,parts c s≠[]
 |[]=>by simp[parts]
 |b :: r=>by
  unfold parts;split
  ·simp
  ·split <;> simp
def jf{c b:UInt8}{r:aF}(h:b≠c):∃x t,parts c r=x :: t/\parts c (b :: r)=(b :: x) :: t:=by
 cases hp:parts c r with
 |nil=>exact absurd hp (JF c r)
 |cons x t=>
  refine⟨x,t,rfl,?_⟩
  conv=>lhs;unfold parts
  rw[if_neg h,hp]
def kW{c:UInt8}{r:aF}:parts c (c :: r)=[] :: parts c r:=by
 conv=>lhs;unfold parts
 rw[if_pos rfl]
def iF{c:UInt8}:∀{x:aF},c∉x->parts c x=[x]
 |[],_=>rfl
 |b :: r,h=>by
  obtain⟨x,t,h1,h2⟩:=jf (c:=c) (b:=b) (r:=r) (fun e=>h (by simp[e]));rw[iF (x:=r) (fun e=>h (by simp[e]))]at h1;cases h1;exact h2
def eQ{c:UInt8}:∀{x:aF} {s:aF},c∉x->parts c (x++c :: s)=x :: parts c s
 |[],s,_=>kW
 |b :: r,s,h=>by
  obtain⟨x,t,h1,h2⟩:=jf (c:=c) (b:=b) (r:=r++c :: s) (fun e=>h (by simp[e]));rw[eQ (x:=r) (fun e=>h (by simp[e]))]at h1;cases h1;exact h2
def pf{c:UInt8}:∀{L:List aF},L≠[]->(∀y∈L,c∉y)->parts c (kj c L)=L
 |[],h,_=>absurd rfl h
 |[x],_,h=>iF (h x (by simp))
 |x :: y :: r,_,h=>by
  show parts c (x++c :: kj c (y :: r))=_;rw[eQ (h x (by simp)),pf (by simp) fun z hz=>h z (b9 _ hz)]
def si(c:UInt8):∀(s:aF),(parts c s).length<=s.length+1
 |[]=>by simp[parts]
 |b :: r=>by
  by_cases h:b=c
  ·subst h;rw[kW];have:=si b r;simp;omega
  ·obtain⟨x,t,h1,h2⟩:=jf (c:=c) (b:=b) (r:=r) h
   have:=si c r;rw[h1]at this;rw[h2];simp at this ⊢;omega
def om(c:UInt8):∀(s:aF),∀y∈parts c s,y.length<=s.length
 |[],y,h=>by simp[parts]at h;simp[h]
 |b :: r,y,h=>by
  by_cases hb:b=c
  ·subst hb;rw[kW]at h
   rcases aq.1 h with rfl|h
   ·simp
   ·have:=om b r y h;simp;omega
  ·obtain⟨x,t,h1,h2⟩:=jf (c:=c) (b:=b) (r:=r) hb
   rw[h2]at h;rcases aq.1 h with rfl|h
   ·have:=om c r x (by rw[h1];simp);simp;omega
   ·have:=om c r y (by rw[h1];simp[h]);simp;omega
def sj{b c:UInt8}{l:aF}(h:b≠c):ay (b :: l) [c]=if ay l [c] == -1 then -1 else ay l [c]+1:=by
 rw[ay];simp[cp,Ne.symm h]
def sk{c:UInt8}{l:aF}:ay (c :: l) [c]=0:=by
 rw[ay];simp[cp]
def oq(c:UInt8):∀s:aF,az [c] 0 (s.count c) s=parts c s
 |[]=>rfl
 |b :: l=>by
  by_cases h:b=c
  ·subst h
   rw[kW,List.count_cons_self,az,sk,if_neg (by decide),<-oq b l];simp
  ·obtain⟨x,t,h1,h2⟩:=jf (c:=c) (b:=b) (r:=l) h
   rw[h2,List.count_cons_of_ne h];rw[<-oq c l]at h1;cases hk:l.count c with
   |zero=>
    rw[hk]at h1;simp only[az]at h1 ⊢;cases h1;rfl
   |succ k=>
    rw[hk]at h1;have hi:ay l [c]≠-1:=by
     intro e;have:=Lib.count_miss (s:=l) (sub:=[c]) e;rw[cq]at this;omega
    have hge:=Lib.index_ge l [c];rw[az,if_neg (by simpa using hi)]at h1;obtain⟨i,e⟩:∃i:Nat,ay l [c]=i:=⟨(ay l [c]).toNat,by omega⟩
    have e2:ay (b :: l) [c]=((i+1:Nat):Int):=by rw[sj h,if_neg (by simpa using hi),e];rfl
    rw[az,e2,if_neg (by simp;omega)];rw[e]at h1;simp only[bb,k8,cc,List.take_succ_cons,List.drop_succ_cons,List.cons.injEq]at h1 ⊢;exact⟨⟨aa,h1.1⟩,h1.2⟩
def nx(c:UInt8)(L:List aF):aF:=L.flatMap (· ++ [c])
def yY(c:UInt8)(x:aF)(L:List aF):nx c (x :: L)=x++c :: nx c L:=by simp[nx]
def yZ{c:UInt8}:∀{L:List aF},L≠[]->nx c L=kj c L++[c]
 |[],h=>absurd rfl h
 |[x],_=>by simp[nx,kj]
 |x :: y :: r,_=>by
  rw[yY,yZ (L:=y :: r) (by simp)];simp[kj]
def pN(x:aF)(c:UInt8):ag (x++[c]) [c]=x:=by
 have h:Lib.hasSuffix (x++[c]) [c]=true:=by unfold Lib.hasSuffix;simp[List.isSuffixOf_iff_suffix]
 unfold ag;rw[if_pos h];simp
def FK{c:UInt8}{L:List aF}(h:L≠[])(hf:∀y∈L,c∉y):parts c (ag (nx c L) [c])=L:=by
 rw[yZ h,pN,pf h hf]
def sq{k:Nat}(h:k<10):(k9 (48+k)).toNat=48+k:=by
 rw[kc];omega
def lV:∀(u:Nat),∀c∈a7 u,48<=c.toNat/\c.toNat<=57:=by
 intro u;induction u using mx with
 |_ u ih=>
  intro c hc;by_cases h:u<10
  ·rw[a7,dif_pos h]at hc
   simp only[bo]at hc;rw[hc,sq h];omega
  ·rw[a7,dif_neg h]at hc
   rcases ar.1 hc with hc|hc
   ·exact ih _ (by omega) c hc
   ·simp only[bo]at hc
    rw[hc,sq (fs _ (by decide))];omega
def sr(u:Nat):a7 u≠[]:=by
 rw[a7];split <;> simp
def kX:∀(k u:Nat),u<10^(k+1)->(a7 u).length<=k+1
 |0,u,h=>by rw[a7,dif_pos (by simpa using h)];simp
 |k+1,u,h=>by
  rw[a7];split
  ·simp
  ·have:=kX k (u / 10) (by rw[Nat.pow_succ]at h;omega)
   simp;exact this
def y5:∀(l:aF) (c:UInt8) (a v:Nat),bp a l=.ok v->bp a (l++[c])=bp v [c]
 |[],c,a,v,h=>by simp[bp]at h;rw[h];rfl
 |b :: l,c,a,v,h=>by
  rw[cr,bp];rw[bp]at h;split at h
  ·rename_i hb
   rw[if_pos hb];split at h
   ·cases h
   ·rename_i h1
    rw[if_neg h1];split at h
    ·cases h
    ·rename_i h2
     rw[if_neg h2];exact y5 l c _ v h
  ·cases h
def BT{v d:Nat}(hd:d<10)(h:10*v+d<18446744073709551616):bp v [k9 (48+d)]=.ok (10*v+d):=by
 unfold bp;rw[sq hd,if_pos (by omega),if_neg (by omega),if_neg (by omega)];unfold bp;congr 1;omega
def JG:∀u:Nat,u<18446744073709551616->bp 0 (a7 u)=.ok u:=by
 intro u;induction u using mx with
 |_ u ih=>
  intro hu;by_cases h:u<10
  ·rw[a7,dif_pos h]
   have:=BT (v:=0) (d:=u) h (by omega);simpa using this
  ·rw[a7,dif_neg h,y5 _ _ _ _ (ih _ (by omega) (by omega)),BT (fs _ (by decide)) (by omega)]
   congr 1;omega
def Ey{u:Nat}(hu:u<18446744073709551616):Lib.parseMag (a7 u)=.ok u:=by
 unfold Lib.parseMag;rw[if_neg (sr u),JG u hu]
def Hu{n:Int}(h0 : -9223372036854775808<=n)(h1:n<=9223372036854775807):cd (ab n)=.ok n:=by
 by_cases hn:n<0
 ·have hm:=Ey (u:=n.natAbs) (by omega)
  simp only[ab,if_pos hn,cd];rw[if_pos (Or.inr (by decide)),hm];simp only;rw[if_neg (by simp),if_neg (by simp;omega)];simp;omega
 ·have hm:=Ey (u:=n.toNat) (by omega)
  simp only[ab,if_neg hn,cd];cases hd:a7 n.toNat with
  |nil=>exact absurd hd (sr _)
  |cons c r=>
   have hc:=lV n.toNat c (by rw[hd];simp);rw[hd]at hm;simp only;rw[if_neg (by omega),hm];simp only;rw[if_neg (by omega),if_neg (by omega),if_neg (by omega)];congr 1;omega
def gx(s:List UInt8):Int×aQ:=match cd s with
 |.ok n=>(n,.nil)
 |Lib.NumEnd.syntax=>(0,.other)
 |.range=>(Lib.atoiSat s,.other)
def dX(s:aF):Option Int:=match cd s with
 |.ok n=>if ab n=s then some n else none
 |_=>none
def Hv{n:Int}(h0 : -9223372036854775808<=n)(h1:n<=9223372036854775807):dX (ab n)=some n:=by
 unfold dX;rw[Hu h0 h1];simp
def ss{s:aF}:(dX s).isNone=(!(gx s).2.isNil || !decide (ab (gx s).1=s)):=by
 unfold dX gx;cases cd s with
 |ok v=>simp only[aQ.isNil];by_cases h:ab v=s <;> simp[h]
 |range=>rfl
 |_=>rfl
def y7{n:Int}{c:UInt8}(h:c.toNat<=44):c∉ab n:=by
 intro hc;have h45:(45:UInt8).toNat=45:=rfl;unfold ab at hc;split at hc
 ·rcases aq.1 hc with rfl|hc
  ·omega
  ·have:=lV _ c hc;omega
 ·have:=lV _ c hc;omega
def mD(n:Int):Nat:=2*n.natAbs+(if n<0 then 1 else 0)
def M9{n:Int}(h:n<0):mD (-n)<mD n:=by unfold mD;rw[if_neg (by omega),if_pos h];omega
def Hw{n:Int}(h:n<0):ab n=[45]++ab (-n):=by
 unfold ab;rw[if_pos h,if_neg (by omega)];congr 2;omega
def y8{f:Int}(h0:0<=f)(h:(aJ f).isNil=false):f > 0:=by
 have:¬f=0:=fun e=>by rw[bK.2 e]at h;cases h
 omega
def dy{f:Int}(h:(aJ f).isNil=true):f<=0:=by
 have:=bK.1 h;omega
def mL(b:Bool):List UInt8:=if b=true then[119,101,97,107,32]else[]
def KB(s:aF):aF:=[110,101,101,100,32]++s++[10]
def KC(n:Int):aF:=[119,111,114,100,32]++ab n++[10]
def Mh(y:D gD):aF:=mL y.2.2.1++[115,121,109,98,111,108,32]++y.1++[32]++ab y.2.1++[10]
def Mi(t:D lT):aF:=
 if t.2.1=1 then[98,97,115,101,32]++ab t.1++[32]++ab t.2.2.1++[10]
 else if t.2.1=2 then mL t.2.2.2.2.1++[119,104,111,108,101,32]++ab t.1++[32]++ab t.2.2.1++[32]++t.2.2.2.1++[10]
 else mL t.2.2.2.2.1++[110,101,97,114,32]++ab t.1++[32]++ab t.2.2.1++[32]++t.2.2.2.1++[10]
def Mj(o:D aV)(i:Nat):aF:=(o.1.take i).flatMap KB
def Mk(o:D aV)(i:Nat):aF:=Mj o o.1.length++(o.2.1.take i).flatMap KC
def Ml(o:D aV)(i:Nat):aF:=Mk o o.2.1.length++(o.2.2.1.take i).flatMap Mh
def Mm(o:D aV)(i:Nat):aF:=Ml o o.2.2.1.length++(o.2.2.2.1.take i).flatMap Mi
def lW(o:D aV):aF:=Mm o o.2.2.2.1.length
def Nm(s:aF):Prop:=s≠[]/\s.length<=8/\∀c∈s,c≠10/\c≠32
def fF(a b x:Int):Prop:=a<=x/\x<=b
structure FL (t:D lT):Prop where
 a:fF 0 39 t.1
 w:fF (-2147483648) 2147483647 t.2.2.1
 k:t.2.1=1\/t.2.1=2\/t.2.1=3
 base:t.2.1=1->t.2.2.2.1=[]/\t.2.2.2.2.1=false
 nm:t.2.1≠1->Nm t.2.2.2.1
structure KD (o:D aV):Prop where
 n4:o.1.length<=4
 w1:1<=o.2.1.length
 Ni:o.2.1.length<=40
 s8:o.2.2.1.length<=8
 t6:o.2.2.2.1.length<=6
 KE:∀s∈o.1,Nm s
 words:∀n∈o.2.1,fF (-2147483648) 2147483647 n
 syms:∀y∈o.2.2.1,Nm y.1/\fF 0 39 y.2.1
 Mn:∀t∈o.2.2.2.1,FL t
def uj:∀(l p:List aF),se p l=0->∀s∈l,aH s=0
 |[],_,_,s,h=>absurd h (by simp)
 |x :: r,p,h,s,hs=>by
  have hx:=eY x;unfold se at h;split at h
  ·omega
  ·split at h
   ·cases h
   ·rcases aq.1 hs with rfl|hs
    ·omega
    ·exact uj r _ h s hs
def uk:∀(l:List Int),sf l=0->∀n∈l,fg n=true
 |[],_,s,h=>absurd h (by simp)
 |x :: r,h,s,hs=>by
  unfold sf at h;split at h
  ·rename_i hx
   rcases aq.1 hs with rfl|hs
   ·exact hx
   ·exact uk r h s hs
  ·cases h
def wN(n:Nat):∀(l p:List (D gD)),wM n p l=0->∀y∈l,aH y.1=0/\fF 0 (n-1) y.2.1
 |[],_,_,s,h=>absurd h (by simp)
 |x :: r,p,h,s,hs=>by
  have hx:=eY x.1;unfold wM at h;split at h
  ·omega
  ·split at h
   ·cases h
   ·rename_i h2
    split at h
    ·cases h
    ·rcases aq.1 hs with rfl|hs
     ·exact⟨by omega,ah.1 fun e=>h2 (.inl e),xo (ct.1 fun e=>h2 (.inr e))⟩
     ·exact wN n r _ h s hs
def Hx{n:Nat}{p:Option Int}{t:D lT}(h:BN n p t=0) :
  fF 0 (n-1) t.1/\fg t.2.2.1=true/\fF 1 3 t.2.1/\(t.2.1=1->t.2.2.2.1=[]/\t.2.2.2.2.1=false)/\(t.2.1≠1->aH t.2.2.2.1=0):=by
 unfold BN at h;split at h
 ·cases h
 ·rename_i h1
  split at h
  ·cases h
  ·rename_i h2
   refine⟨⟨ah.1 fun e=>h1 (.inl e),xo (ct.1 fun e=>h1 (.inr (.inl e)))⟩,?_,⟨ah.1 fun e=>h2 (.inl e),ah.1 fun e=>h2 (.inr (.inl e))⟩,?_,?_⟩
   ·cases hw:fg t.2.2.1 with
    |true=>rfl
    |false=>exact absurd (.inr (.inr hw)) h1
   ·intro e
    rw[if_pos e]at h;split at h
    ·cases h
    ·rename_i h3
     refine⟨aw fun e=>h3 (.inl e),?_⟩;cases hb:t.2.2.2.2.1 with
     |false=>rfl
     |true=>exact absurd (.inr hb) h3
   ·intro e
    rw[if_neg e]at h;exact h
def wO(n:Nat):∀(l:List (D lT)) (p:Option Int),AK n p l=0->∀t∈l,∃p,BN n p t=0
 |[],_,_,s,h=>absurd h (by simp)
 |x :: r,p,h,s,hs=>by
  unfold AK at h;split at h
  ·rename_i h0;exact absurd h h0
  ·rename_i h0
   rcases aq.1 hs with rfl|hs
   ·exact⟨p,aw h0⟩
   ·exact wO n r _ h s hs
def wP{s:aF}(h:aH s=0):Nm s:=by
 unfold aH at h;split at h
 ·cases h
 ·rename_i hl
  split at h
  ·cases h
  ·rename_i hb
   refine⟨by rintro rfl;simp at hl,by omega,fun c hc =>?_⟩;obtain⟨i,hi,rfl⟩:=vi hc;have hn:fv i (cM s i)=false:=by
    unfold pL at hb;rw[xt,vd]at hb;have:=hb i (by simpa using hi);simpa using this
   have he:cM s i=s[i]:=by unfold cM;simp[hi]
   rw[he]at hn;constructor
   ·intro e;rw[e]at hn;unfold fv small other at hn;simp at hn
   ·intro e;rw[e]at hn;unfold fv small other at hn;simp at hn
def three{x:Int}(h:1<=x)(h':x<=3):x=1\/x=2\/x=3:=by omega
def Mo{o:D aV}(h:jM o=0):KD o:=by
 unfold jM at h;split at h
 ·cases h
 ·rename_i hm
  split at h
  ·rename_i h1;exact absurd h h1
  ·rename_i h1
   split at h
   ·rename_i h2;exact absurd h h2
   ·rename_i h2
    split at h
    ·rename_i h3;exact absurd h h3
    ·rename_i h3
     have h1:=aw h1;have h2:=aw h2;have h3:=aw h3;unfold AL at hm;have hw:o.2.1.length<=40:=bf.1 fun e=>hm (.inr (.inr (.inl e)))
     refine⟨bf.1 fun e=>hm (.inl e),bf.1 fun e=>hm (.inr (.inl e)),hw,bf.1 fun e=>hm (.inr (.inr (.inr (.inl e)))),bf.1 fun e=>hm (.inr (.inr (.inr (.inr e)))),
      fun s hs=>wP (uj _ _ h1 s hs),fun n hn =>?_,fun y hy =>?_,fun t ht =>?_⟩
     ·have:=uk _ h2 n hn
      unfold fg at this;simp only[ai,decide_eq_true_eq]at this;exact this
     ·obtain⟨a,b,c⟩:=wN _ _ _ h3 y hy
      exact⟨wP a,b,bx c (by omega)⟩
     ·obtain⟨p,hp⟩:=wO _ _ _ h t ht
      obtain⟨⟨a,b⟩,c,⟨d,e⟩,f,g⟩:=Hx hp;unfold fg at c;simp only[ai,decide_eq_true_eq]at c;exact⟨⟨a,bx b (by omega)⟩,c,three d e,f,fun e=>wP (g e)⟩
def ej{a b n:Int}(h:fF a b n)(ha : -999999999999999999<=a)(hb:b<=999999999999999999):(ab n).length<=19:=by
 obtain⟨h0,h1⟩:=h;unfold ab;split
 ·rw[ao]
  have:=kX 17 n.natAbs (by omega);omega
 ·have:=kX 17 n.toNat (by omega)
  omega
def vh{α:Type}{f:α->aF}:∀{l:List α},(∀x∈l,(f x).length<=64)->(l.flatMap f).length<=64*l.length
 |[],_=>by simp
 |x :: r,h=>by
  have h1:=h x (by simp);have h2:=vh (f:=f) (l:=r) fun y hy=>h y (b9 _ hy)
  rw[bz,aj,ao];omega
def DA(a b:aF):aZ a++aZ b=aZ (a++b):=by simp[aZ]
def pg(a:aF):(aZ a).length=a.length:=by simp[aZ]
def JH{p p' q:aF}{a b:Int}(h:p'=p++q):(((aZ p++aZ q,a,b,()):D ky))=((aZ p',a,b,()):D ky):=by rw[h,DA]
@[reducible] def eW:aF:=[119,101,97,107,32]
@[reducible] def AN:aF:=[110,101,101,100]
@[reducible] def tA:aF:=[119,111,114,100]
@[reducible] def xV:aF:=[115,121,109,98,111,108]
@[reducible] def FM:aF:=[98,97,115,101]
@[reducible] def BU:aF:=[119,104,111,108,101]
@[reducible] def AO:aF:=[110,101,97,114]
def pO(o:D aV)(s:aF):D aV:=(o.1++[s],o.2)
def pP(o:D aV)(n:Int):D aV:=(o.1,o.2.1++[n],o.2.2)
def wQ(o:D aV)(y:D gD):D aV:=(o.1,o.2.1,o.2.2.1++[y],o.2.2.2)
def su(o:D aV)(t:D lT):D aV:=(o.1,o.2.1,o.2.2.1,o.2.2.2.1++[t],())
def BV(x y:aF)(k:Int->Int->D aV):Option (D aV):=
 match dX x,dX y with
 |some m,some n=>some (k m n)
 |_,_=>none
def mX(o:D aV)(b:Bool):List aF->Option (D aV)
 |[a,x]=>if a=AN then some (pO o x)else if a=tA then(dX x).map (pP o)else none
 |[a,x,y]=>if a=xV then(dX y).map fun n=>wQ o (x,n,b,())else if a=FM then BV x y fun m n=>su o (m,1,n,[],false,())else none
 |[a,x,y,z]=>if a=BU\/a=AO then BV x y fun m n=>su o (m,if a=AO then 3 else 2,n,z,b,())else none
 |_=>none
def AP(o:D aV)(s:aF):Option (D aV):=mX o (bg s eW) (parts 32 (b4 s eW))
def run(f:D aV->aF->Option (D aV)):D aV->List aF->Option (D aV)
 |o,[]=>some o
 |o,s :: r=>match f o s with
  |some p=>run f p r
  |none=>none
def tB{f:D aV->aF->Option (D aV)}:∀{l m:List aF} {o p:D aV},run f o l=some p->run f o (l++m)=run f p m
 |[],m,o,p,h=>by simp only[run,Option.some.injEq]at h;rw[h];rfl
 |x :: r,m,o,p,h=>by
  simp only[run]at h;simp only[cr,run];cases hx:f o x with
  |none=>rw[hx]at h;cases h
  |some q=>rw[hx]at h;exact tB h
def lX(s:aF):aF:=[110,101,101,100,32]++s
def lY(n:Int):aF:=[119,111,114,100,32]++ab n
def vj(y:D gD):aF:=mL y.2.2.1++([115,121,109,98,111,108,32]++(y.1++32 :: ab y.2.1))
def sw(t:D lT):aF:=
 if t.2.1=1 then[98,97,115,101,32]++(ab t.1++32 :: ab t.2.2.1)
 else if t.2.1=2 then mL t.2.2.2.2.1++([119,104,111,108,101,32]++(ab t.1++32 :: (ab t.2.2.1++32 :: t.2.2.2.1)))
 else mL t.2.2.2.2.1++([110,101,97,114,32]++(ab t.1++32 :: (ab t.2.2.1++32 :: t.2.2.2.1)))
def mY(o:D aV):List aF:=o.1.map lX++(o.2.1.map lY++(o.2.2.1.map vj++o.2.2.2.1.map sw))
def ot{α:Type}{f g:α->aF}(h:∀x,f x=g x++[10]):∀l:List α,l.flatMap f=nx 10 (l.map g)
 |[]=>rfl
 |x :: r=>by rw[bz,ot h r,bd,yY,h];simp
def vk(c:UInt8)(l m:List aF):nx c (l++m)=nx c l++nx c m:=by simp[nx]
def DB(o:D aV):lW o=nx 10 (mY o):=by
 unfold lW Mm Ml Mk Mj mY;rw[cg,cg,cg,cg,vk,vk,vk,
  ot (g:=lX) (fun s=>by simp[KB,lX]) o.1,ot (g:=lY) (fun s=>by simp[KC,lY]) o.2.1,
  ot (g:=vj) (fun s=>by simp[Mh,vj]) o.2.2.1,
  ot (g:=sw) (fun s=>by unfold Mi sw;split <;> (try split) <;> simp) o.2.2.2.1]
 simp
structure Reads (f:D aV->aF->Option (D aV)):Prop where
 Mp:∀(o:D aV) (s:aF),Nm s->f o (lX s)=some (pO o s)
 word:∀(o:D aV) (n:Int),fF (-2147483648) 2147483647 n->f o (lY n)=some (pP o n)
 sym:∀(o:D aV) (y:D gD),Nm y.1->fF 0 39 y.2.1->f o (vj y)=some (wQ o y)
 tie:∀(o:D aV) (t:D lT),FL t->f o (sw t)=some (su o t)
section
variable{f:D aV->aF->Option (D aV)}(h:Reads f)
include h
def y9:∀(l:List aF) (o:D aV),(∀s∈l,Nm s)->run f o (l.map lX)=some (o.1++l,o.2)
 |[],o,_=>by simp[run]
 |s :: r,o,hl=>by
  rw[bd,run,h.Mp o s (hl s (by simp))];show run f (pO o s) (r.map lX)=_;rw[y9 r _ fun x hx=>hl x (b9 _ hx)];simp[pO]
def zA:∀(l:List Int) (o:D aV),(∀n∈l,fF (-2147483648) 2147483647 n)->run f o (l.map lY)=some (o.1,o.2.1++l,o.2.2)
 |[],o,_=>by simp[run]
 |s :: r,o,hl=>by
  rw[bd,run,h.word o s (hl s (by simp))];show run f (pP o s) (r.map lY)=_;rw[zA r _ fun x hx=>hl x (b9 _ hx)];simp[pP]
def BW:∀(l:List (D gD)) (o:D aV),(∀y∈l,Nm y.1/\fF 0 39 y.2.1)->run f o (l.map vj)=some (o.1,o.2.1,o.2.2.1++l,o.2.2.2)
 |[],o,_=>by simp[run]
 |s :: r,o,hl=>by
  rw[bd,run,h.sym o s (hl s (by simp)).1 (hl s (by simp)).2];show run f (wQ o s) (r.map vj)=_;rw[BW r _ fun x hx=>hl x (b9 _ hx)];simp[wQ]
def BX:∀(l:List (D lT)) (o:D aV),(∀t∈l,FL t)->run f o (l.map sw)=some (o.1,o.2.1,o.2.2.1,o.2.2.2.1++l,())
 |[],o,_=>by simp[run]
 |s :: r,o,hl=>by
  rw[bd,run,h.tie o s (hl s (by simp))];show run f (su o s) (r.map sw)=_;rw[BX r _ fun x hx=>hl x (b9 _ hx)];simp[su]
def Hy{o:D aV}(ok:KD o):run f (cE aV) (mY o)=some o:=by
 unfold mY;rw[tB (y9 h o.1 _ ok.KE),tB (zA h o.2.1 _ ok.words),tB (BW h o.2.2.1 _ ok.syms),BX h o.2.2.2.1 _ ok.Mn];rfl
end
def wR{a:UInt8}{s:aF}(h:a≠119):bg (a :: s) eW=false:=by
 unfold bg eW;simp[cp];intro e;exact absurd e.symm h
def Le{s:aF}(h:bg s eW=false):b4 s eW=s:=by unfold b4;rw[if_neg (by rw[h];decide)]
def Ez(s:aF):bg (eW++s) eW=true:=by unfold bg eW;simp[cp]
def JI(s:aF):b4 (eW++s) eW=s:=by unfold b4;rw[if_pos (Ez s)];rfl
def EA{a b:UInt8}{s:aF}(h:b≠101):bg (a :: b :: s) eW=false:=by
 unfold bg eW;simp[cp];intro _ e;exact absurd e.symm h
def km(o:D aV)(b:Bool)(s:aF)(h:bg s eW=false):AP o (mL b++s)=mX o b (parts 32 s):=by
 unfold AP;cases b with
 |false=>show mX o (bg s eW) (parts 32 (b4 s eW))=_;rw[h,Le h]
 |true=>show mX o (bg (eW++s) eW) (parts 32 (b4 (eW++s) eW))=_;rw[Ez,JI]
def kn{s:aF}(h:Nm s):(32:UInt8)∉s/\(10:UInt8)∉s:=⟨fun hc=>(h.2.2 _ hc).2 rfl,fun hc=>(h.2.2 _ hc).1 rfl⟩
def fM(n:Int):(32:UInt8)∉ab n:=y7 (by decide)
def jN(n:Int):(10:UInt8)∉ab n:=y7 (by decide)
def FN{s:aF}(h:Nm s):parts 32 (lX s)=[AN,s]:=by
 show parts 32 (AN++32 :: s)=_;rw[eQ (by decide),iF (kn h).1]
def FO(n:Int):parts 32 (lY n)=[tA,ab n]:=by
 show parts 32 (tA++32 :: ab n)=_;rw[eQ (by decide),iF (fM n)]
def Hz{s:aF}{n:Int}(h:Nm s):parts 32 ([115,121,109,98,111,108,32]++(s++32 :: ab n))=[xV,s,ab n]:=by
 show parts 32 (xV++32 :: (s++32 :: ab n))=_;rw[eQ (by decide),eQ (kn h).1,iF (fM n)]
def FP(m n:Int):parts 32 ([98,97,115,101,32]++(ab m++32 :: ab n))=[FM,ab m,ab n]:=by
 show parts 32 (FM++32 :: (ab m++32 :: ab n))=_;rw[eQ (by decide),eQ (fM m),iF (fM n)]
def DC{s:aF}(m n:Int)(h:Nm s):parts 32 ([119,104,111,108,101,32]++(ab m++32 :: (ab n++32 :: s)))=[BU,ab m,ab n,s]:=by
 show parts 32 (BU++32 :: (ab m++32 :: (ab n++32 :: s)))=_;rw[eQ (by decide),eQ (fM m),eQ (fM n),iF (kn h).1]
def FQ{s:aF}(m n:Int)(h:Nm s):parts 32 ([110,101,97,114,32]++(ab m++32 :: (ab n++32 :: s)))=[AO,ab m,ab n,s]:=by
 show parts 32 (AO++32 :: (ab m++32 :: (ab n++32 :: s)))=_;rw[eQ (by decide),eQ (fM m),eQ (fM n),iF (kn h).1]
def nO{a b n:Int}(h:fF a b n)(ha : -9223372036854775808<=a)(hb:b<=9223372036854775807):dX (ab n)=some n:=Hv (bx ha h.1) (bx h.2 hb)
def Mq:Reads AP where
 Mp o s h:=by
  have:=km o false (lX s) (wR (by decide));rw[show mL false++lX s=lX s from rfl,FN h]at this;exact this
 word o n h:=by
  have:=km o false (lY n) (EA (by decide));rw[show mL false++lY n=lY n from rfl,FO]at this;rw[this];show(if tA=AN then some (pO o (ab n))else if tA=tA then(dX (ab n)).map (pP o)else none)=_;rw[if_neg (by decide),if_pos rfl,nO h (by decide) (by decide)];rfl
 sym o y h h':=by
  have:=km o y.2.2.1 ([115,121,109,98,111,108,32]++(y.1++32 :: ab y.2.1)) (wR (by decide));rw[Hz h]at this;refine Eq.trans this ?_;dsimp only[mX];rw[if_pos rfl,nO h' (by decide) (by decide)];rfl
 tie o t h:=by
  obtain⟨at',k,ad,nm,b,_⟩:=t;have ha:=nO h.a (by decide) (by decide);have hw:=nO h.w (by decide) (by decide);simp only at ha hw;unfold sw;rcases h.k with e|e|e
  ·have hb:=h.base e
   simp only at e hb;obtain⟨rfl,rfl⟩:=hb;subst e;rw[if_pos rfl];have:=km o false ([98,97,115,101,32]++(ab at'++32 :: ab ad)) (wR (by decide));rw[FP]at this;refine this.trans ?_;dsimp only[mX];rw[if_neg (by decide),if_pos rfl];unfold BV;rw[ha,hw]
  ·have hn:=h.nm (by rw[show _=_ from e];decide)
   simp only at e hn;subst e;rw[if_neg (by simp),if_pos rfl];have:=km o b ([119,104,111,108,101,32]++(ab at'++32 :: (ab ad++32 :: nm))) (EA (by decide));rw[DC _ _ hn]at this;refine this.trans ?_;dsimp only[mX];rw[if_pos (.inl rfl),if_neg (by decide)];unfold BV;rw[ha,hw]
  ·have hn:=h.nm (by rw[show _=_ from e];decide)
   simp only at e hn;subst e;rw[if_neg (by simp),if_neg (by simp)];have:=km o b ([110,101,97,114,32]++(ab at'++32 :: (ab ad++32 :: nm))) (wR (by decide));rw[FQ _ _ hn]at this;refine this.trans ?_;dsimp only[mX];rw[if_pos (.inr rfl),if_pos rfl];unfold BV;rw[ha,hw]
def FR{o:D aV}(h:KD o):∀l∈mY o,(10:UInt8)∉l:=by
 intro l hl;unfold mY at hl;simp only[ar,b6]at hl;have hw:∀b,(10:UInt8)∉mL b:=by intro b;cases b <;> decide
 rcases hl with⟨s,hs,rfl⟩|⟨n,hn,rfl⟩|⟨y,hy,rfl⟩|⟨t,ht,rfl⟩
 ·have:=(kn (h.KE s hs)).2
  unfold lX;simp[this]
 ·have:=jN n
  unfold lY;simp[this]
 ·have h1:=(kn (h.syms y hy).1).2
  have h2:=jN y.2.1;have h3:=hw y.2.2.1;unfold vj;simp[h1,h2,h3]
 ·have h1:=jN t.1
  have h2:=jN t.2.2.1;have h3:=hw t.2.2.2.2.1;unfold sw;split
  ·simp[h1,h2]
  ·rename_i hk
   have h4:=(kn ((h.Mn t ht).nm hk)).2;split <;> simp[h1,h2,h3,h4]
def JJ{o:D aV}(h:KD o):mY o≠[]:=by
 have h1:=h.w1;unfold mY;intro e;simp only[List.append_eq_nil_iff,List.map_eq_nil_iff]at e;rw[e.2.1]at h1;simp at h1
def Mr(s:aF):Option (D aV):=run AP (cE aV) (parts 10 (ag s [10]))
def zB{o:D aV}(h:jM o=0):Mr (lW o)=some o:=by
 have ok:=Mo h;unfold Mr;rw[DB,FK (JJ ok) (FR ok),Hy Mq ok]
def HA{o p:D aV}(h:jM o=0)(h':jM p=0)(e:lW o=lW p):o=p:=by
 have a:=zB h;rw[e,zB h']at a;exact(ch a).symm
open Classical in
def iU(s:aF):D aV×Int:=
 if s.length > 1200 then(cE aV,2)
 else if h:∃o:D aV,jM o=0/\lW o=s then(hC h,0)else(cE aV,4)
def HB{s:aF}(h:s.length > 1200):iU s=(cE aV,2):=by unfold iU;rw[if_pos h]
def Lf{s:aF}{o:D aV}(h:¬s.length > 1200)(hf:jM o=0)(ht:lW o=s):iU s=(o,0):=by
 have hx:∃o:D aV,jM o=0/\lW o=s:=⟨o,hf,ht⟩
 have hc:=hG hx;unfold iU;rw[if_neg h,dif_pos hx,HA hc.1 hf (hc.2.trans ht.symm)]
def JK{s:aF}(h:¬s.length > 1200)(hn:∀o:D aV,jM o=0->lW o≠s):iU s=(cE aV,4):=by
 unfold iU;rw[if_neg h,dif_neg fun⟨o,h1,h2⟩=>hn o h1 h2]
def HC{s:aF}{n:Int}(h:dX s=some n):(gx s).1=n:=by
 unfold dX at h;unfold gx;cases ha:cd s with
 |ok v=>rw[ha]at h;simp only at h ⊢;split at h <;> simp_all
 |range=>rw[ha]at h;cases h
 |_=>rw[ha]at h;cases h
abbrev Rd:=aF->aF×Int×Int
def FT(s:aF):((iU s).2=0/\jM (iU s).1=0/\lW (iU s).1=s)\/iU s=(cE aV,2)\/iU s=(cE aV,4):=by
 by_cases h:s.length > 1200
 ·exact .inr (.inl (HB h))
 ·by_cases h2:∃o:D aV,jM o=0/\lW o=s
  ·obtain⟨o,h3,h4⟩:=h2
   rw[Lf h h3 h4];exact .inl ⟨rfl,h3,h4⟩
  ·exact .inr (.inr (JK h fun o h3 h4=>h2 ⟨o,h3,h4⟩))
def DD(s:aF):0<=(iU s).2:=by
 rcases FT s with⟨h,_⟩|h|h <;> rw[h] <;> decide
def zC{t:Ty}{a b:List (D t)}{i:Nat}(h:i<a.length):nth t (a++b) i=nth t a i:=by rw[qJ,if_pos h]
end Go.Mrl
namespace Go.Mrl
open Go.Vg
end Go.Mrl

namespace Go.Mrl
open Go.Vg
def MW(p:D tz)(a:Int):Prop:=(p.2.1:Int)<=a/\a<(p.2.1:Int)+(p.2.2.1.length:Int)
instance(p:D tz)(a:Int):Decidable (MW p a):=inferInstanceAs (Decidable (_/\_))
def KF:List (D tz)->Int->Int×Bool
 |[],_=>(0,false)
 |p :: l,a=>if MW p a then(nth (.int .i64) p.2.2.1 (a-p.2.1).toNat,true)else KF l a
def cJ{f:Int}(h:(aJ f).isNil=false):¬f=0:=fun e=>by rw[bK.2 e]at h;cases h
section
variable{o:D aV}{b:Bool}{s:aF}{w:List aF}(hw:w=parts 32 (b4 s eW))
include hw
end
def xW(s p:aF):(ag s p).length<=s.length:=by unfold ag;split <;> simp
section
variable{o:D aV}{b:Bool}{w:List aF}{k:Nat}
end
def eT{k n:Nat}(h:(k:Int)<(n:Int)):(decide ((k:Int)<3))=true↔((k:Int)<(n:Int)/\(k:Int)<3):=by
 rw[decide_eq_true_eq];omega
def tC(rd:Rd):List (D aE)->Int
 |[]=>0
 |p :: r=>if(iU (rd p.1).1).2=0 then tC rd r else(iU (rd p.1).1).2
def JL{rd:Rd}:∀{l:List (D aE)} {i:Nat},(∀j,j<i->(iU (rd (nth aE l j).1).1).2=0)->i<l.length->¬(iU (rd (nth aE l i).1).1).2=0->tC rd l=(iU (rd (nth aE l i).1).1).2
 |[],i,_,h,_=>by simp at h
 |p :: r,0,_,_,h=>by unfold tC;rw[if_neg (show ¬(iU (rd p.1).1).2=0 from h)];rfl
 |p :: r,i+1,h,h1,h2=>by
  unfold tC;rw[if_pos (show(iU (rd p.1).1).2=0 from h 0 (by omega))];exact JL (l:=r) (i:=i) (fun j hj=>h (j+1) (by omega)) (by simpa using h1) h2
def BY(rd:Rd):∀l:List (D aE),0<=tC rd l
 |[]=>b5 _
 |p :: r=>by
  unfold tC;split
  ·exact BY rd r
  ·exact DD _
def ou{t:Ty}{a b:List (D t)}(hl:a.length=b.length)(h:∀i,i<a.length->nth t a i=nth t b i):a=b:=ug (t:=t) hl h
def cP(p:D aE):Int:=if aH p.1 > 0 then aH p.1 else if p.2.1<1\/p.2.1 > 1000000\/p.2.2.1<0\/p.2.2.1 > 255\/p.2.2.1 % 16 > 0 then 1 else 0
def gG:List (D aE)->Int
 |[]=>0
 |p :: r=>if cP p=0 then gG r else cP p
def cK(n:Nat)(p:Pt):Int:=if p.1<0\/p.1>=(n:Int)\/p.2.1<0\/p.2.1 > 39\/fg p.2.2.1=false then 1 else 0
def gu(n:Nat):List Pt->Int
 |[]=>0
 |p :: r=>if cK n p=0 then gu n r else cK n p
def nG(e:D aA):Prop:=e.2.1.length<1\/e.2.1.length > 6\/e.2.2.1.length > 36
instance(e:D aA):Decidable (nG e):=by unfold nG;infer_instance
def aL(e:D aA):Int:=
 if aH e.1 > 0 then aH e.1 else if nG e then 2 else if ¬gG e.2.1=0 then gG e.2.1 else gu e.2.1.length e.2.2.1
def Ar(p:D aE):0<=cP p:=by
 unfold cP;split
 ·omega
 ·split <;> decide
def As(n:Nat)(p:Pt):0<=cK n p:=by unfold cK;split <;> decide
def pQ:∀l:List (D aE),0<=gG l
 |[]=>b5 _
 |p :: r=>by
  unfold gG;split
  ·exact pQ r
  ·exact Ar p
def oR(n:Nat):∀l:List Pt,0<=gu n l
 |[]=>b5 _
 |p :: r=>by
  unfold gu;split
  ·exact oR n r
  ·exact As n p
def ri(e:D aA):0<=aL e:=by
 unfold aL;split
 ·omega
 ·split
  ·decide
  ·split
   ·exact pQ _
   ·exact oR _ _
def wS:∀{l:List (D aE)} {i:Nat},(∀j,j<i->cP (nth aE l j)=0)->i<l.length->¬cP (nth aE l i)=0->gG l=cP (nth aE l i)
 |[],i,_,h,_=>by simp at h
 |p :: r,0,_,_,h=>by unfold gG;rw[if_neg (show ¬cP p=0 from h)];rfl
 |p :: r,i+1,h,h1,h2=>by
  unfold gG;rw[if_pos (show cP p=0 from h 0 (by omega))];exact wS (l:=r) (i:=i) (fun j hj=>h (j+1) (by omega)) (by simpa using h1) h2
def ov:∀{l:List (D aE)},(∀j,j<l.length->cP (nth aE l j)=0)->gG l=0
 |[],_=>rfl
 |p :: r,h=>by
  unfold gG;rw[if_pos (show cP p=0 from h 0 (by simp))];exact ov (l:=r) fun j hj=>h (j+1) (by simpa using hj)
def um{n:Nat}:∀{l:List Pt} {i:Nat},(∀j,j<i->cK n (nth aI l j)=0)->i<l.length->¬cK n (nth aI l i)=0->gu n l=cK n (nth aI l i)
 |[],i,_,h,_=>by simp at h
 |p :: r,0,_,_,h=>by unfold gu;rw[if_neg (show ¬cK n p=0 from h)];rfl
 |p :: r,i+1,h,h1,h2=>by
  unfold gu;rw[if_pos (show cK n p=0 from h 0 (by omega))];exact um (l:=r) (i:=i) (fun j hj=>h (j+1) (by omega)) (by simpa using h1) h2
def rj{n:Nat}:∀{l:List Pt},(∀j,j<l.length->cK n (nth aI l j)=0)->gu n l=0
 |[],_=>rfl
 |p :: r,h=>by
  unfold gu;rw[if_pos (show cK n p=0 from h 0 (by simp))];exact rj (l:=r) fun j hj=>h (j+1) (by simpa using hj)
def ph{e:D aA}(h:aH e.1 > 0):aL e=aH e.1:=by unfold aL;rw[if_pos h]
def hH{e:D aA}(h:aH e.1<=0)(h1:nG e):aL e=2:=by unfold aL;rw[if_neg (by omega),if_pos h1]
def dC{e:D aA}(h:aH e.1<=0)(h1:¬nG e){i:Nat}(hs:∀j,j<i->cP (nth aE e.2.1 j)=0)(hi:i<e.2.1.length){f:Int}(hf:cP (nth aE e.2.1 i)=f)(h0:f≠0):aL e=f:=by
 have:=wS hs hi (by rw[hf];exact h0);unfold aL;rw[if_neg (by omega),if_neg h1,if_pos (by rw[this,hf];exact h0),this,hf]
def dM{e:D aA}(h:aH e.1<=0)(h1:¬nG e)(h2:∀j,j<e.2.1.length->cP (nth aE e.2.1 j)=0){i:Nat}(hs:∀j,j<i->cK e.2.1.length (nth aI e.2.2.1 j)=0)(hi:i<e.2.2.1.length)
  (hf:cK e.2.1.length (nth aI e.2.2.1 i)=1):aL e=1:=by
 unfold aL;rw[if_neg (by omega),if_neg h1,if_neg (not_not_intro (ov h2)),um hs hi (by rw[hf];decide),hf]
def zD{e:D aA}(h:aH e.1<=0)(h1:¬nG e)(h2:∀j,j<e.2.1.length->cP (nth aE e.2.1 j)=0)(h3:∀j,j<e.2.2.1.length->cK e.2.1.length (nth aI e.2.2.1 j)=0):aL e=0:=by
 unfold aL;rw[if_neg (by omega),if_neg h1,if_neg (not_not_intro (ov h2)),rj h3]
section
variable{rd:Rd}{root:aF}{i:Nat}{ns:List aF}{os:List (D aV)}
end
def wT{p:D aE}(h:aH p.1 > 0):cP p=aH p.1:=by unfold cP;rw[if_pos h]
def fZ{p:D aE}(h:aH p.1<=0)(h2:p.2.1<(1:Int)\/p.2.1 > (1000000:Int)\/p.2.2.1<(0:Int)\/p.2.2.1 > (255:Int)\/p.2.2.1 % (16:Int) > 0):cP p=1:=by
 unfold cP;rw[if_neg (by omega),if_pos h2]
def BZ{p:D aE}(h:aH p.1<=0)(h1:(1:Int)<=p.2.1)(h2:p.2.1<=(1000000:Int))(h3:(0:Int)<=p.2.2.1)(h4:p.2.2.1<=(255:Int))(h5:p.2.2.1 % (16:Int)=0):cP p=0:=by
 unfold cP;rw[if_neg (by omega),if_neg];rintro(e|e|e|e|e)
 ·exact absurd e (ah.2 h1)
 ·exact absurd e (ah.2 h2)
 ·exact absurd e (ah.2 h3)
 ·exact absurd e (ah.2 h4)
 ·exact absurd (show(0:Int)<0 from h5▸e) (by decide)
def qK{b x:Int}(h:0<=b)(e:x=Int.tmod b 16):x=b % 16:=by rw[e,b8 h]
def ga{n:Nat}{p:Pt}(h:p.1<(0:Int)\/p.1>=(n:Int)\/p.2.1<(0:Int)\/p.2.1 > (39:Int)\/p.2.2.1<(-2147483648:Int)\/p.2.2.1 > (2147483647:Int)):cK n p=1:=by
 unfold cK;rw[if_pos];rcases h with h|h|h|h|h|h
 ·exact .inl h
 ·exact .inr (.inl h)
 ·exact .inr (.inr (.inl h))
 ·exact .inr (.inr (.inr (.inl h)))
 ·refine .inr (.inr (.inr (.inr ?_)));unfold fg;rw[decide_eq_false (ct.2 h)];rfl
 ·refine .inr (.inr (.inr (.inr ?_)));unfold fg;rw[decide_eq_false (ct.2 h),Bool.and_false]
def FU{n:Nat}{p:Pt}(h1:(0:Int)<=p.1)(h2:p.1<(n:Int))(h3:(0:Int)<=p.2.1)(h4:p.2.1<=(39:Int))(h5:(-2147483648:Int)<=p.2.2.1)(h6:p.2.2.1<=(2147483647:Int)):cK n p=0:=by
 unfold cK;rw[if_neg];rintro(e|e|e|e|e)
 ·exact absurd e (ah.2 h1)
 ·exact absurd h2 (ah.2 e)
 ·exact absurd e (ah.2 h3)
 ·exact absurd e (ah.2 h4)
 ·unfold fg at e;rw[decide_eq_true h5,decide_eq_true h6]at e;cases e
def cZ{e:D aA}(h1:(1:Int)<=(e.2.1.length:Int))(h2:(e.2.1.length:Int)<=6)(h3:(e.2.2.1.length:Int)<=36):¬nG e:=by
 rintro(k|k|k)
 ·have k:e.2.1.length<1:=k;omega
 ·have k:e.2.1.length > 6:=k;omega
 ·have k:e.2.2.1.length > 36:=k;omega
def jO(p:D aE):aF:=[32]++p.1++[32]++ab p.2.1++[32]++ab p.2.2.1
def jP(p:D aI):aF:=[32]++ab p.1++[32]++ab p.2.1++[32]++ab p.2.2.1
def qL(e:D aA):aF:=e.1++[32]++ab (e.2.1.length:Int)++[32]++ab (e.2.2.1.length:Int)
def fI(e:D aA)(i:Nat):aF:=qL e++(e.2.1.take i).flatMap jO
def fC(e:D aA)(i:Nat):aF:=fI e e.2.1.length++(e.2.2.1.take i).flatMap jP
def nH(e:D aA):aF:=fC e e.2.2.1.length
def dS(e:D aA):aF:=nH e++[10]
def cO(e:D aA):aF×aQ:=if aL e≠0 then([],aJ (aL e))else(dS e,.nil)
def FV(e:D aA):fI e 0=qL e:=by unfold fI;simp
def FW(e:D aA):fC e 0=fI e e.2.1.length:=by unfold fC;simp
def FX{e:D aA}{i:Nat}(h:i<e.2.1.length):fI e (i+1)=fI e i++jO (nth aE e.2.1 i):=by
 unfold fI;rw[gZ (t:=aE) h];simp
def FY{e:D aA}{i:Nat}(h:i<e.2.2.1.length):fC e (i+1)=fC e i++jP (nth aI e.2.2.1 i):=by
 unfold fC;rw[gZ (t:=aI) h];simp
structure hZ (e:D aA):Prop where
 nm:Nm e.1
 p1:1<=e.2.1.length
 p6:e.2.1.length<=6
 zE:e.2.2.1.length<=36
 parts:∀i,i<e.2.1.length->Nm (nth aE e.2.1 i).1/\fF 1 1000000 (nth aE e.2.1 i).2.1/\fF 0 255 (nth aE e.2.1 i).2.2.1
 B0:∀i,i<e.2.2.1.length->fF 0 5 (nth aI e.2.2.1 i).1/\fF 0 39 (nth aI e.2.2.1 i).2.1/\fF (-2147483648) 2147483647 (nth aI e.2.2.1 i).2.2.1
def wU{n:Nat}{p:Pt}(h:¬cK n p=0):cK n p=1:=by
 unfold cK at h ⊢;split
 ·rfl
 ·rename_i hh;rw[if_neg hh]at h;exact absurd rfl h
def jg{e:D aA}(h:aL e=0):hZ e:=by
 have h0:aH e.1=0:=by
  apply aw;intro hn;have:=eY e.1;rw[ph (by omega)]at h;exact hn h
 have h1:¬nG e:=by
  intro hm;rw[hH (by omega) hm]at h;cases h
 have h2:∀i,(∀j,j<i->j<e.2.1.length->cP (nth aE e.2.1 j)=0)/\(i<e.2.1.length->cP (nth aE e.2.1 i)=0):=by
  intro i;induction i with
  |zero=>
   refine⟨fun j hj=>by omega,fun hi =>?_⟩;apply aw;intro hn;rw[dC (i:=0) (by omega) h1 (fun j hj=>by omega) hi rfl hn]at h;exact hn h
  |succ i ih=>
   have hs:∀j,j<i+1->j<e.2.1.length->cP (nth aE e.2.1 j)=0:=fun j hj hl=>by
    rcases cm j i with hh|hh
    ·exact ih.1 j hh hl
    ·obtain rfl:j=i:=by omega
     exact ih.2 hl
   refine⟨hs,fun hi =>?_⟩;apply aw;intro hn;rw[dC (i:=i+1) (by omega) h1 (fun j hj=>hs j hj (by omega)) hi rfl hn]at h;exact hn h
 have h2':∀i,i<e.2.1.length->cP (nth aE e.2.1 i)=0:=fun i=>(h2 i).2
 have h3:∀i,(∀j,j<i->j<e.2.2.1.length->cK e.2.1.length (nth aI e.2.2.1 j)=0)/\(i<e.2.2.1.length->cK e.2.1.length (nth aI e.2.2.1 i)=0):=by
  intro i;induction i with
  |zero=>
   refine⟨fun j hj=>by omega,fun hi =>?_⟩;apply aw;intro hn;rw[dM (i:=0) (by omega) h1 h2' (fun j hj=>by omega) hi (wU hn)]at h;cases h
  |succ i ih=>
   have hs:∀j,j<i+1->j<e.2.2.1.length->cK e.2.1.length (nth aI e.2.2.1 j)=0:=fun j hj hl=>by
    rcases cm j i with hh|hh
    ·exact ih.1 j hh hl
    ·obtain rfl:j=i:=by omega
     exact ih.2 hl
   refine⟨hs,fun hi =>?_⟩;apply aw;intro hn;rw[dM (i:=i+1) (by omega) h1 h2' (fun j hj=>hs j hj (by omega)) hi (wU hn)]at h;cases h
 have p1:1<=e.2.1.length:=bf.1 fun k=>h1 (.inl k)
 have p6:e.2.1.length<=6:=bf.1 fun k=>h1 (.inr (.inl k))
 refine⟨wP h0,p1,p6,bf.1 fun k=>h1 (.inr (.inr k)),fun i hi =>?_,fun i hi =>?_⟩
 ·have k:=h2' i hi
  unfold cP at k;split at k
  ·rename_i hn;omega
  ·rename_i hn
   split at k
   ·cases k
   ·rename_i hb
    have:=eY (nth aE e.2.1 i).1;exact⟨wP (by omega),⟨ah.1 fun k=>hb (.inl k),ah.1 fun k=>hb (.inr (.inl k))⟩,⟨ah.1 fun k=>hb (.inr (.inr (.inl k))),ah.1 fun k=>hb (.inr (.inr (.inr (.inl k))))⟩⟩
 ·have k:=(h3 i).2 hi
  unfold cK at k;split at k
  ·cases k
  ·rename_i hb
   have hw:fg (nth aI e.2.2.1 i).2.2.1=true:=by
    apply Bool.not_eq_false _ |>.mp
    intro k;exact hb (.inr (.inr (.inr (.inr k))))
   unfold fg at hw;simp only[ai,decide_eq_true_eq]at hw;have hl:(nth aI e.2.2.1 i).1<(e.2.1.length:Int):=ct.1 fun k=>hb (.inr (.inl k))
   exact⟨⟨ah.1 fun k=>hb (.inl k),by omega⟩,⟨ah.1 fun k=>hb (.inr (.inr (.inl k))),ah.1 fun k=>hb (.inr (.inr (.inr (.inl k))))⟩,hw⟩
def FZ{p:D aE}(h1:Nm p.1)(h2:fF 1 1000000 p.2.1)(h3:fF 0 255 p.2.2.1):(jO p).length<=64:=by
 have a:=h1.2.1;have b:=ej h2 (by decide) (by decide);have c:=ej h3 (by decide) (by decide);simp[jO];omega
def F0{p:D aI}(h1:fF 0 5 p.1)(h2:fF 0 39 p.2.1)(h3:fF (-2147483648) 2147483647 p.2.2.1):(jP p).length<=64:=by
 have a:=ej h1 (by decide) (by decide);have b:=ej h2 (by decide) (by decide);have c:=ej h3 (by decide) (by decide);simp[jP];omega
def hZ.head{e:D aA}(h:hZ e):(qL e).length<=64:=by
 have a:=h.nm.2.1;have b:=ej (n:=(e.2.1.length:Int)) (a:=0) (b:=6) ⟨by omega,by have:=h.p6;omega⟩ (by decide) (by decide);have c:=ej (n:=(e.2.2.1.length:Int)) (a:=0) (b:=36) ⟨by omega,by have:=h.zE;omega⟩ (by decide) (by decide);simp[qL];omega
def hZ.Ms{e:D aA}(h:hZ e)(i:Nat):(fI e i).length<=448:=by
 have a:=h.head;have b:=vh (f:=jO) (l:=e.2.1.take i) fun x hx=>by
  obtain⟨j,hj,rfl⟩:=iq (t:=aE) (ny hx);obtain⟨k1,k2,k3⟩:=h.parts j hj;exact FZ k1 k2 k3
 have c:=h.p6;have d:(e.2.1.take i).length<=e.2.1.length:=by simp;omega
 unfold fI;rw[aj];omega
def hZ.F1{e:D aA}(h:hZ e)(i:Nat):(fC e i).length<=2752:=by
 have a:=h.Ms e.2.1.length;have b:=vh (f:=jP) (l:=e.2.2.1.take i) fun x hx=>by
  obtain⟨j,hj,rfl⟩:=iq (t:=aI) (ny hx);obtain⟨k1,k2,k3⟩:=h.B0 j hj;exact F0 k1 k2 k3
 have c:=h.zE;have d:(e.2.2.1.take i).length<=e.2.2.1.length:=by simp;omega
 unfold fC;rw[aj];omega
def hZ.lens{e:D aA}(h:hZ e):e.1.length<=8/\(ab (e.2.1.length:Int)).length<=19/\(ab (e.2.2.1.length:Int)).length<=19:=
 ⟨h.nm.2.1,ej (a:=0) (b:=6) ⟨by omega,by have:=h.p6;omega⟩ (by decide) (by decide),ej (a:=0) (b:=36) ⟨by omega,by have:=h.zE;omega⟩ (by decide) (by decide)⟩
def hZ.ML{e:D aA}(h:hZ e){i:Nat}(hi:i<e.2.1.length):(nth aE e.2.1 i).1.length<=8/\(ab (nth aE e.2.1 i).2.1).length<=19/\(ab (nth aE e.2.1 i).2.2.1).length<=19/\(fI e i).length<=448:=by
 obtain⟨k1,k2,k3⟩:=h.parts i hi;exact⟨k1.2.1,ej k2 (by decide) (by decide),ej k3 (by decide) (by decide),h.Ms i⟩
def hZ.MM{e:D aA}(h:hZ e){i:Nat}(hi:i<e.2.2.1.length):(ab (nth aI e.2.2.1 i).1).length<=19/\(ab (nth aI e.2.2.1 i).2.1).length<=19/\(ab (nth aI e.2.2.1 i).2.2.1).length<=19/\(fC e i).length<=2752:=by
 obtain⟨k1,k2,k3⟩:=h.B0 i hi;exact⟨ej k1 (by decide) (by decide),ej k2 (by decide) (by decide),ej k3 (by decide) (by decide),h.F1 i⟩
def F2{e:D aA}{i:Nat}(h:i<e.2.1.length):fI e i++jO (nth aE e.2.1 i)=fI e (i+1):=(FX h).symm
def F3{e:D aA}{i:Nat}(h:i<e.2.2.1.length):fC e i++jP (nth aI e.2.2.1 i)=fC e (i+1):=(FY h).symm
def F4{e:D aA}(h:aL e≠0):([],aJ (aL e))=cO e:=by unfold cO;rw[if_pos h]
def HD{e:D aA}(h:aL e=0){i:Nat}(hi:i=e.2.2.1.length):(fC e i++[10],aQ.nil)=cO e:=by unfold cO;rw[if_neg (not_not_intro h),hi];rfl
def rk(L:List aF):aF:=L.flatMap fun x=>32 :: x
def xX(L M:List aF):rk (L++M)=rk L++rk M:=by simp[rk]
def B1:∀(a:aF) (L:List aF),kj 32 (a :: L)=a++rk L
 |a,[]=>by simp[kj,rk]
 |a,b :: r=>by rw[kj,B1 b r];simp[rk]
def pR(p:D aE):List aF:=[p.1,ab p.2.1,ab p.2.2.1]
def pS(p:D aI):List aF:=[ab p.1,ab p.2.1,ab p.2.2.1]
def gS(e:D aA):List aF:=e.1 :: ([ab (e.2.1.length:Int),ab (e.2.2.1.length:Int)]++(e.2.1.flatMap pR++e.2.2.1.flatMap pS))
def vm{α:Type}{f:α->List aF}{g:α->aF}(h:∀x,rk (f x)=g x):∀l:List α,rk (l.flatMap f)=l.flatMap g
 |[]=>rfl
 |x :: l=>by rw[bz,xX,h,vm h l,bz]
def uo(e:D aA):nH e=kj 32 (gS e):=by
 unfold gS;rw[B1,xX,xX,vm (g:=jO) (by intro x;simp[pR,jO,rk]),vm (g:=jP) (by intro x;simp[pS,jP,rk])];unfold nH fC fI qL;simp[rk]
def uq{e:D aA}(h:hZ e):∀y∈gS e,(32:UInt8)∉y/\(10:UInt8)∉y:=by
 intro y hy;unfold gS at hy;rcases aq.1 hy with rfl|hy
 ·exact kn h.nm
 ·rcases ar.1 hy with hy|hy
  ·simp at hy
   rcases hy with rfl|rfl <;> exact⟨fM _,jN _⟩
  ·rcases ar.1 hy with hy|hy
   ·obtain⟨p,hp,hy⟩:=yo.1 hy
    obtain⟨j,hj,rfl⟩:=iq (t:=aE) hp;simp[pR]at hy;rcases hy with rfl|rfl|rfl
    ·exact kn (h.parts j hj).1
    ·exact⟨fM _,jN _⟩
    ·exact⟨fM _,jN _⟩
   ·obtain⟨p,hp,hy⟩:=yo.1 hy
    simp[pS]at hy;rcases hy with rfl|rfl|rfl <;> exact⟨fM _,jN _⟩
def wV{c:UInt8}(hc:c≠32):∀{L:List aF},(∀y∈L,c∉y)->c∉kj 32 L
 |[],_=>by simp[kj]
 |[x],h=>h x (by simp)
 |x :: y :: r,h=>by
  rw[kj];intro hm;rcases ar.1 hm with hm|hm
  ·exact h x (by simp) hm
  ·rcases aq.1 hm with e|hm
   ·exact hc e
   ·exact wV hc (fun z hz=>h z (by simp[hz])) hm
def F5{e:D aA}(h:hZ e):(10:UInt8)∉nH e:=by
 rw[uo];exact wV (by decide) fun y hy=>(uq h y hy).2
def DE{e:D aA}(h:hZ e):parts 32 (nH e)=gS e:=by
 rw[uo];exact pf (by unfold gS;simp) fun y hy=>(uq h y hy).1
def pj{e:D aA}(h:hZ e):parts 32 (ag (dS e) [10])=gS e:=by
 unfold dS;rw[pN,DE h]
theorem sx{α:Type}{f:α->List aF}(hf:∀x,(f x).length=3):∀l:List α,(l.flatMap f).length=3*l.length
 |[]=>rfl
 |x :: l=>by rw[bz,aj,hf,sx hf l,ao];omega
theorem sy{α:Type}[Inhabited α]{f:α->List aF}(hf:∀x,(f x).length=3):∀(l:List α) (i k:Nat),i<l.length->k<3->nth .str (l.flatMap f) (3*i+k)=nth .str (f (l.getD i default)) k
 |[],i,k,h,_=>by simp at h
 |x :: l,0,k,_,hk=>by
  rw[bz,zC (t:=.str) (by rw[hf];omega)];simp
 |x :: l,i+1,k,h,hk=>by
  rw[bz,qJ,if_neg (by rw[hf];omega),hf,show 3*(i+1)+k-3=3*i+k by omega,sy hf l i k (by simpa using h) hk];simp
structure jh (w:List aF) (e:D aA):Prop where
 len:w.length=3+3*(e.2.1.length+e.2.2.1.length)
 root:nth .str w 0=e.1
 a:nth .str w 1=ab (e.2.1.length:Int)
 b:nth .str w 2=ab (e.2.2.1.length:Int)
 p0:∀i,i<e.2.1.length->nth .str w (3+3*i)=(nth aE e.2.1 i).1
 p1:∀i,i<e.2.1.length->nth .str w (4+3*i)=ab (nth aE e.2.1 i).2.1
 p2:∀i,i<e.2.1.length->nth .str w (5+3*i)=ab (nth aE e.2.1 i).2.2.1
 q0:∀i,i<e.2.2.1.length->nth .str w (3+3*(e.2.1.length+i))=ab (nth aI e.2.2.1 i).1
 q1:∀i,i<e.2.2.1.length->nth .str w (4+3*(e.2.1.length+i))=ab (nth aI e.2.2.1 i).2.1
 q2:∀i,i<e.2.2.1.length->nth .str w (5+3*(e.2.1.length+i))=ab (nth aI e.2.2.1 i).2.2.1
def ur{t:Ty}{l:List (D t)}{i:Nat}(d:D t)(h:i<l.length):nth t l i=l.getD i d:=by
 unfold nth;rw[List.getD_eq_getElem?_getD,List.getD_eq_getElem?_getD,List.getElem?_eq_getElem h];rfl
def B2(e:D aA):jh (gS e) e:=by
 have hs:∀x,(pR x).length=3:=fun _=>rfl
 have hp:∀x,(pS x).length=3:=fun _=>rfl
 have ls:=sx hs e.2.1;have lp:=sx hp e.2.2.1;have at3:∀k,nth .str (gS e) (3+k)=nth .str (e.2.1.flatMap pR++e.2.2.1.flatMap pS) k:=fun k=>by
  rw[show 3+k=k+1+1+1 by omega];rfl
 letI:Inhabited (D aE):=⟨cE aE⟩
 letI:Inhabited (D aI):=⟨cE aI⟩
 have hP:∀i k,i<e.2.1.length->k<3->nth .str (gS e) (3+(3*i+k))=nth .str (pR (nth aE e.2.1 i)) k:=fun i k hi hk=>by
  rw[at3,zC (t:=.str) (by omega),sy hs _ i k hi hk,ur default hi]
 have hQ:∀i k,i<e.2.2.1.length->k<3->nth .str (gS e) (3+(3*(e.2.1.length+i)+k))=nth .str (pS (nth aI e.2.2.1 i)) k:=fun i k hi hk=>by
  rw[at3,qJ,if_neg (by omega),ls,show 3*(e.2.1.length+i)+k-3*e.2.1.length=3*i+k by omega,sy hp _ i k hi hk,ur default hi]
 refine⟨?_,rfl,rfl,rfl,fun i hi =>?_,fun i hi =>?_,fun i hi =>?_,fun i hi =>?_,fun i hi =>?_,fun i hi =>?_⟩
 ·unfold gS;simp only[ao,aj,hI,ls,lp];omega
 ·exact hP i 0 hi (by omega)
 ·rw[show 4+3*i=3+(3*i+1) by omega];exact hP i 1 hi (by omega)
 ·rw[show 5+3*i=3+(3*i+2) by omega];exact hP i 2 hi (by omega)
 ·exact hQ i 0 hi (by omega)
 ·rw[show 4+3*(e.2.1.length+i)=3+(3*(e.2.1.length+i)+1) by omega];exact hQ i 1 hi (by omega)
 ·rw[show 5+3*(e.2.1.length+i)=3+(3*(e.2.1.length+i)+2) by omega];exact hQ i 2 hi (by omega)
def partAt(A:aF->Int)(w:List aF)(i:Nat):D aE:=(nth .str w (3+3*i),A (nth .str w (4+3*i)),A (nth .str w (5+3*i)),())
def pT(A:aF->Int)(w:List aF)(i:Nat):D aI:=(A (nth .str w (3+3*i)),A (nth .str w (4+3*i)),A (nth .str w (5+3*i)),())
def dh(A:aF->Int)(w:List aF)(n:Nat):List (D aE):=(ax n).map (partAt A w)
def cA(A:aF->Int)(w:List aF)(a n:Nat):List (D aI):=(ax n).map fun i=>pT A w (a+i)
def uu(A:aF->Int)(w:List aF)(n:Nat):(dh A w n).length=n:=by simp[dh]
def rl(A:aF->Int)(w:List aF)(a n:Nat):(cA A w a n).length=n:=by simp[cA]
def DF{A:aF->Int}{w:List aF}{n i:Nat}(h:i<n):nth aE (dh A w n) i=partAt A w i:=by
 unfold nth dh;rw[List.getD_eq_getElem?_getD,List.getElem?_map,List.getElem?_range h];rfl
def At{A:aF->Int}{w:List aF}{a n i:Nat}(h:i<n):nth aI (cA A w a n) i=pT A w (a+i):=by
 unfold nth cA;rw[List.getD_eq_getElem?_getD,List.getElem?_map,List.getElem?_range h];rfl
def B3(A:aF->Int)(w:List aF)(n:Nat):dh A w (n+1)=dh A w n++[partAt A w n]:=by simp[dh,oi]
def xY(A:aF->Int)(w:List aF)(a n:Nat):cA A w a (n+1)=cA A w a n++[pT A w (a+n)]:=by simp[cA,oi]
def KG(A:aF->Int):Prop:=∀n:Int,fF (-2147483648) 2147483647 n->A (ab n)=n
def eN{a b n:Int}(h:fF a b n)(ha : -2147483648<=a)(hb:b<=2147483647):fF (-2147483648) 2147483647 n:=⟨bx ha h.1,bx h.2 hb⟩
def hZ.na{e:D aA}(h:hZ e):fF 0 6 (e.2.1.length:Int):=⟨by omega,by have:=h.p6;omega⟩
def hZ.nb{e:D aA}(h:hZ e):fF 0 36 (e.2.2.1.length:Int):=⟨by omega,by have:=h.zE;omega⟩
def jh.eq{A:aF->Int}(hA:KG A){w:List aF}{e:D aA}(r:jh w e)(h:hZ e):e=(nth .str w 0,dh A w e.2.1.length,cA A w e.2.1.length e.2.2.1.length,()):=by
 obtain⟨s,p,q,_⟩:=e;have e1:p=dh A w p.length:=ou (t:=aE) (by rw[uu]) fun i hi=>by
  rw[DF hi];obtain⟨k1,k2,k3⟩:=h.parts i hi;unfold partAt;rw[r.p0 i hi,r.p1 i hi,r.p2 i hi,hA _ (eN k2 (by decide) (by decide)),hA _ (eN k3 (by decide) (by decide))]
 have e2:q=cA A w p.length q.length:=ou (t:=aI) (by rw[rl]) fun i hi=>by
  rw[At hi];obtain⟨k1,k2,k3⟩:=h.B0 i hi;unfold pT;rw[r.q0 i hi,r.q1 i hi,r.q2 i hi,hA _ (eN k1 (by decide) (by decide)),hA _ (eN k2 (by decide) (by decide)),hA _ k3]
 have e0:nth .str w 0=s:=r.root;rw[e0];exact congrArg (fun z=>(s,z)) (show(p,q,())=(dh A w p.length,cA A w p.length q.length,()) by rw[<-e1,<-e2])
def cH(s:aF):Int:=(gx s).1
def fh:KG cH:=fun n h=>by
 have:=nO h (by decide) (by decide);exact HC this
def HE{e e':D aA}(h:aL e=0)(h':aL e'=0)(ht:dS e=dS e'):e=e':=by
 have k:=jg h;have k':=jg h';have hw:gS e=gS e':=by rw[<-pj k,<-pj k',ht]
 have r:=B2 e;have r':=B2 e';rw[hw]at r;have ha:(e.2.1.length:Int)=(e'.2.1.length:Int):=by
  rw[<-fh _ (eN k.na (by decide) (by decide)),<-fh _ (eN k'.na (by decide) (by decide)),<-r.a,<-r'.a]
 have hb:(e.2.2.1.length:Int)=(e'.2.2.1.length:Int):=by
  rw[<-fh _ (eN k.nb (by decide) (by decide)),<-fh _ (eN k'.nb (by decide) (by decide)),<-r.b,<-r'.b]
 refine(r.eq fh k).trans (Eq.trans ?_ (r'.eq fh k').symm);rw[hJ.1 ha,hJ.1 hb]
open Classical in
def lk(s:aF):D aA×Int:=if h:∃e:D aA,aL e=0/\dS e=s then(hC h,0)else(cE aA,4)
def EB{s:aF}{e:D aA}(hf:aL e=0)(ht:dS e=s):lk s=(e,0):=by
 have hx:∃e:D aA,aL e=0/\dS e=s:=⟨e,hf,ht⟩
 have hc:=hG hx;unfold lk;rw[dif_pos hx,HE hc.1 hf (hc.2.trans ht.symm)]
def JM{s:aF}(hn:∀e:D aA,aL e=0->dS e=s->False):lk s=(cE aA,4):=by
 unfold lk;rw[dif_neg fun⟨e,h1,h2⟩=>hn e h1 h2]
def eK(s:aF):D aA×aQ:=((lk s).1,aJ (lk s).2)
def lZ{s:aF}(hn:∀e:D aA,aL e=0->dS e=s->False):(cE aA,aQ.no 4)=eK s:=by unfold eK;rw[JM hn];rfl
def HF{s:aF}{e:D aA}(h:(cO e).2.isNil=true)(ht:(cO e).1=s):(e,aQ.nil)=eK s:=by
 have hf:aL e=0:=by
  apply aw;intro hf;unfold cO at h;rw[if_pos hf]at h;exact hf (bK.1 h)
 unfold cO at ht;rw[if_neg (not_not_intro hf)]at ht;unfold eK;rw[EB hf ht];rfl
def iV(l:List aF):List Int:=l.map cH
def qM(l:List aF):Bool:=l.all fun s=>(dX s).isSome
def bG(l:List aF):List Int×Bool:=if qM l=true then(iV l,true)else([],false)
def JN{l:List aF}{i:Nat}(hi:i<l.length)(h:dX (nth .str l i)=none):qM l=false:=by
 unfold qM;rw[List.all_eq_false];exact⟨nth .str l i,gF (t:=.str) hi,by rw[h];decide⟩
def uw{l:List aF}{i:Nat}(hi:i<l.length)(h:(dX (nth .str l i)).isNone=true):([],false)=bG l:=by
 unfold bG;rw[JN hi (Option.isNone_iff_eq_none.1 h)];rfl
def qN{l:List aF}(h:∀j,j<l.length->(dX (nth .str l j)).isNone=false):qM l=true:=by
 unfold qM;rw[oo];intro s hs;obtain⟨j,hj,rfl⟩:=iq (t:=.str) hs;have:=h j hj;cases hh:dX (nth .str l j)with
 |none=>rw[hh]at this;cases this
 |some n=>rfl
def F6{l:List aF}{i:Nat}(hi:¬i<l.length)(h:∀j,j<i->j<l.length->(dX (nth .str l j)).isNone=false):(iV (l.take i),true)=bG l:=by
 unfold bG;rw[qN fun j hj=>h j (by omega) hj,if_pos rfl,kl (by omega)]
def wW{l:List aF}{i:Nat}(h:i<l.length):iV (l.take (i+1))=iV (l.take i)++[(gx (nth .str l i)).1]:=by
 rw[gZ (t:=.str) h];simp[iV,cH]
def jQ{l:List aF}:(bG l).2=qM l:=by
 unfold bG;split
 ·rename_i h;rw[h]
 ·rename_i h;rw[xt _ |>.mp h]
def ux{l:List aF}(h:(bG l).2=true){i:Nat}(hi:i<l.length):nth (.int .i64) (bG l).1 i=cH (nth .str l i)/\(dX (nth .str l i)).isNone=false:=by
 have hk:=h;rw[jQ]at hk;constructor
 ·unfold bG;rw[if_pos hk]
  unfold nth iV;rw[List.getD_eq_getElem?_getD,List.getD_eq_getElem?_getD,List.getElem?_map,List.getElem?_eq_getElem hi];rfl
 ·unfold qM at hk
  rw[oo]at hk;have:=hk _ (gF (t:=.str) hi);cases hh:dX (nth .str l i)with
  |none=>rw[hh]at this;cases this
  |some n=>rfl
def DG{l:List aF}(h:(bG l).2=true):(bG l).1.length=l.length:=by
 rw[jQ]at h;unfold bG;rw[if_pos h];simp[iV]
structure mu (w:List aF):Prop where
 ka:(dX (nth .str w 1)).isNone=false
 kb:(dX (nth .str w 2)).isNone=false
 a0:(0:Int)<=cH (nth .str w 1)
 a6:cH (nth .str w 1)<=(6:Int)
 b0:(0:Int)<=cH (nth .str w 2)
 dN:cH (nth .str w 2)<=(36:Int)
 len:(w.length:Int)=3+3*(cH (nth .str w 1)+cH (nth .str w 2))
def wX{t:Ty}{l:List (D t)}{i j k:Nat}(h:i+k<j):nth t (af i (ae j l)) k=nth t l (i+k):=by
 unfold nth;rw[List.getD_eq_getElem?_getD,List.getD_eq_getElem?_getD,List.getElem?_drop,List.getElem?_take,if_pos h]
def B4{α:Type}{l:List α}{i j:Nat}(h:j<=l.length):(af i (ae j l)).length=j-i:=by simp;omega
def HG(s:aF)(c:UInt8)(h:s.length<=100000):(parts c (ag s [10])).length<=100001:=by
 have a:=si c (ag s [10]);have b:=xW s [10];omega
def mZ{l:List aF}{n:Nat}(h:∀y∈l,y.length<=n)(i:Nat):(nth .str l i).length<=n:=by
 by_cases hi:i<l.length
 ·exact h _ (gF (t:=.str) hi)
 ·unfold nth;rw[List.getD_eq_getElem?_getD,List.getElem?_eq_none (by omega)];exact a8 _
def pk{s:aF}{c:UInt8}(h:s.length<=100000):∀y∈parts c (ag s [10]),y.length<=1000000:=fun y hy=>by
 have a:=om c _ y hy;have b:=xW s [10];omega
def B5{l:List aF}{n:Nat}(h:∀y∈l,y.length<=n)(i j:Nat):∀y∈af i (ae j l),y.length<=n:=fun y hy=>h y (ny (List.mem_of_mem_drop hy))
def Lg{s:aF}{c:UInt8}(h:s.length<=100000)(i j:Nat):(af i (ae j (parts c (ag s [10])))).length<=1000000/\∀k,(nth .str (af i (ae j (parts c (ag s [10])))) k).length<=1000000:=
 ⟨by have:=HG s c h;simp;omega,mZ (B5 (pk h) i j)⟩
def Lh{w:List aF}(h:3<=w.length)(hk:(bG (af 1 (ae 3 w))).2=true) :
  (bG (af 1 (ae 3 w))).1=[cH (nth .str w 1),cH (nth .str w 2)]/\(dX (nth .str w 1)).isNone=false/\(dX (nth .str w 2)).isNone=false:=by
 have hl:(af 1 (ae 3 w)).length=2:=B4 h;obtain⟨a1,a2⟩:=ux hk (i:=0) (by omega);obtain⟨b1,b2⟩:=ux hk (i:=1) (by omega);have hn:=DG hk;rw[wX (t:=.str) (by omega)]at a1 a2 b1 b2;refine⟨ou (t:=.int .i64) (by rw[hn,hl];rfl) fun i hi =>?_,a2,b2⟩;rw[hn,hl]at hi;rcases(show i=0\/i=1 by omega)with rfl|rfl
 ·rw[a1];rfl
 ·rw[b1];rfl
def DH{w:List aF}(h:3<=w.length)(hk:(bG (af 1 (ae 3 w))).2=false):¬mu w:=by
 intro hd;have hl:(af 1 (ae 3 w)).length=2:=B4 h;rw[jQ,qN fun j hj =>?_]at hk
 ·cases hk
 ·rw[hl]at hj
  rcases(show j=0\/j=1 by omega)with rfl|rfl
  ·rw[wX (t:=.str) (by omega)];exact hd.ka
  ·rw[wX (t:=.str) (by omega)];exact hd.kb
def B6{w:List aF}(h:¬mu w):(true=false↔mu w):=⟨fun e=>Bool.noConfusion e,fun e=>absurd e h⟩
def Mt{w:List aF}(ka:(dX (nth .str w 1)).isNone=false)(kb:(dX (nth .str w 2)).isNone=false){a b x:Int}(ha:a=cH (nth .str w 1))(hb:b=cH (nth .str w 2))
  (a0:0<=a)(a6:a<=6)(b0:0<=b)(dN:b<=36)(hx:x=3*(a+b)):(((w.length:Int) != 3+x)=false↔mu w):=by
 subst ha;subst hb;subst hx;constructor
 ·intro h;exact⟨ka,kb,a0,a6,b0,dN,by simpa using h⟩
 ·intro h;simpa using h.len
def mv{s:aF}{e:D aA}(hf:aL e=0)(ht:dS e=s):jh (parts 32 (ag s [10])) e/\hZ e:=by
 have k:=jg hf;rw[<-ht,pj k];exact⟨B2 e,k⟩
def jh.na{A:aF->Int}(hA:KG A){w:List aF}{e:D aA}(r:jh w e)(k:hZ e):A (nth .str w 1)=(e.2.1.length:Int):=by rw[r.a,hA _ (eN k.na (by decide) (by decide))]
def jh.nb{A:aF->Int}(hA:KG A){w:List aF}{e:D aA}(r:jh w e)(k:hZ e):A (nth .str w 2)=(e.2.2.1.length:Int):=by rw[r.b,hA _ (eN k.nb (by decide) (by decide))]
def jR{n:Int}(h:fF (-2147483648) 2147483647 n):(dX (ab n)).isNone=false:=by rw[nO h (by decide) (by decide)];rfl
def jh.hd{w:List aF}{e:D aA}(r:jh w e)(k:hZ e):mu w:=by
 have a:=r.na fh k;have b:=r.nb fh k;have c:=k.p6;have d:=k.zE;have l:=r.len;refine⟨by rw[r.a];exact jR (eN k.na (by decide) (by decide)),by rw[r.b];exact jR (eN k.nb (by decide) (by decide)),?_,?_,?_,?_,?_⟩ <;> (try rw[a]) <;> (try rw[b]) <;> omega
section
variable{s:aF}
def B7(h:(parts 32 (ag s [10])).length<3):(cE aA,aQ.no 4)=eK s:=lZ fun e hf ht=>by
 have:=(mv hf ht).1.len;omega
def DI(h:¬mu (parts 32 (ag s [10]))):(cE aA,aQ.no 4)=eK s:=lZ fun e hf ht=>h ((mv hf ht).1.hd (mv hf ht).2)
def JO{w:List aF}{e:D aA}(r:jh w e)(k:hZ e){i:Nat}(hi:i<e.2.1.length):(dX (nth .str w (4+3*i))).isNone=false/\(dX (nth .str w (5+3*i))).isNone=false:=by
 obtain⟨_,k2,k3⟩:=k.parts i hi;rw[r.p1 i hi,r.p2 i hi];exact⟨jR (eN k2 (by decide) (by decide)),jR (eN k3 (by decide) (by decide))⟩
def HH{w:List aF}{e:D aA}(r:jh w e)(k:hZ e){i:Nat}(hi:e.2.1.length<=i)(hi2:i<e.2.1.length+e.2.2.1.length) :
  (dX (nth .str w (3+3*i))).isNone=false/\(dX (nth .str w (4+3*i))).isNone=false/\(dX (nth .str w (5+3*i))).isNone=false:=by
 obtain⟨j,rfl⟩:∃j,i=e.2.1.length+j:=⟨i-e.2.1.length,by omega⟩
 obtain⟨k1,k2,k3⟩:=k.B0 j (by omega);rw[r.q0 j (by omega),r.q1 j (by omega),r.q2 j (by omega)];exact⟨jR (eN k1 (by decide) (by decide)),jR (eN k2 (by decide) (by decide)),jR k3⟩
structure ic (w x:List aF) (i:Nat):Prop where
 len:x.length=3
 a:nth .str x 0=nth .str w (3+3*i)
 b:nth .str x 1=nth .str w (4+3*i)
 c:nth .str x 2=nth .str w (5+3*i)
def HI{w:List aF}{i:Nat}{p q:Int}(hp:p=3*(i:Int))(hq:q=3*(i:Int))(h:3+3*(i+1)<=w.length):ic w (af (bw (3+p)) (ae (bw (6+q)) w)) i:=by
 subst hp;subst hq;rw[show bw (3+3*(i:Int))=3+3*i by omega,show bw (6+3*(i:Int))=6+3*i by omega];refine⟨by rw[B4 (by omega)];omega,?_,?_,?_⟩ <;> rw[wX (t:=.str) (by omega)] <;> congr 1 <;> omega
def uy{n:Nat}{w x:List aF}{i:Nat}(h:ic w x i)(hw:∀y∈w,y.length<=n)(k:Nat):(nth .str x k).length<=n:=by
 rcases cm k 3 with hk|hk
 ·rcases(show k=0\/k=1\/k=2 by omega)with rfl|rfl|rfl
  ·rw[h.a];exact mZ hw _
  ·rw[h.b];exact mZ hw _
  ·rw[h.c];exact mZ hw _
 ·unfold nth;rw[List.getD_eq_getElem?_getD,List.getElem?_eq_none (by rw[h.len];omega)];exact a8 _
def wY{w x:List aF}{i:Nat}(h:ic w x i):af 1 (ae (bq x) x)=[nth .str w (4+3*i),nth .str w (5+3*i)]:=by
 match x,h with
 |[p,q,r],h=>rw[<-h.b,<-h.c];rfl
def B8{w x:List aF}{i:Nat}(h:ic w x i):x=[nth .str w (3+3*i),nth .str w (4+3*i),nth .str w (5+3*i)]:=by
 match x,h with
 |[p,q,r],h=>rw[<-h.a,<-h.b,<-h.c];rfl
def zF{w x:List aF}{i:Nat}(h:ic w x i)(hk:(bG (af 1 (ae (bq x) x))).2=true) :
  (bG (af 1 (ae (bq x) x))).1=[cH (nth .str w (4+3*i)),cH (nth .str w (5+3*i))]:=by
 rw[jQ]at hk;unfold bG;rw[if_pos hk,wY h];rfl
def B9{w x:List aF}{i:Nat}(h:ic w x i)(hk:(bG x).2=true):(bG x).1=[cH (nth .str w (3+3*i)),cH (nth .str w (4+3*i)),cH (nth .str w (5+3*i))]:=by
 rw[jQ]at hk;unfold bG;rw[if_pos hk];conv=>lhs;rw[B8 h]
 rfl
def DJ{x:List aF}{i:Nat}(h:ic (parts 32 (ag s [10])) x i)(hi:(i:Int)<cH (nth .str (parts 32 (ag s [10])) 1))(hk:(bG (af 1 (ae (bq x) x))).2=false):(cE aA,aQ.no 4)=eK s:=
 lZ fun e hf ht=>by
  obtain⟨r,k⟩:=mv hf ht;rw[r.na fh k]at hi;obtain⟨a,b⟩:=JO r k (i:=i) (by omega);rw[jQ,wY h,qN fun j hj =>?_]at hk
  ·cases hk
  ·rcases(show j=0\/j=1 by simp at hj;omega)with rfl|rfl
   ·exact a
   ·exact b
def Ca{x:List aF}{i:Nat}(h:ic (parts 32 (ag s [10])) x i)(hi:cH (nth .str (parts 32 (ag s [10])) 1)<=(i:Int))(hi2:(i:Int)<cH (nth .str (parts 32 (ag s [10])) 1)+cH (nth .str (parts 32 (ag s [10])) 2))(hk:(bG x).2=false):(cE aA,aQ.no 4)=eK s:=
 lZ fun e hf ht=>by
  obtain⟨r,k⟩:=mv hf ht;rw[r.na fh k]at hi hi2;rw[r.nb fh k]at hi2;obtain⟨a,b,c⟩:=HH r k (i:=i) (by omega) (by omega);rw[B8 h]at hk;rw[jQ,qN fun j hj =>?_]at hk
  ·cases hk
  ·rcases(show j=0\/j=1\/j=2 by simp at hj;omega)with rfl|rfl|rfl
   ·exact a
   ·exact b
   ·exact c
def AQ(A:aF->Int)(w:List aF)(a b:Nat):D aA:=(nth .str w 0,dh A w a,cA A w a b,())
def uz{a b:Nat}(ha:cH (nth .str (parts 32 (ag s [10])) 1)=(a:Int))(hb:cH (nth .str (parts 32 (ag s [10])) 2)=(b:Int))
  (h:(cO (AQ cH (parts 32 (ag s [10])) a b)).2.isNil=false\/¬(cO (AQ cH (parts 32 (ag s [10])) a b)).1=s):(cE aA,aQ.no 4)=eK s:=
 lZ fun e hf ht=>by
  obtain⟨r,k⟩:=mv hf ht;rw[r.na fh k]at ha;rw[r.nb fh k]at hb;have he:AQ cH (parts 32 (ag s [10])) a b=e:=by
   rw[<-hJ.1 ha,<-hJ.1 hb];exact(r.eq fh k).symm
  rw[he]at h;unfold cO at h;rw[if_neg (not_not_intro hf)]at h;rcases h with h|h
  ·cases h
  ·exact h ht
end
def nB(w:List aF)(y:List Int×Bool):Prop:=(y.2=true->y.1=[cH (nth .str w 1),cH (nth .str w 2)]/\(dX (nth .str w 1)).isNone=false/\(dX (nth .str w 2)).isNone=false)/\(y.2=false->¬mu w)
def Li{w:List aF}(h:3<=w.length):nB w (bG (af 1 (ae 3 w))):=⟨fun hk=>Lh h hk,fun hk=>DH h hk⟩
def nB.ok{w:List aF}{y:List Int×Bool}(h:nB w y)(hd:mu w):y.2=true:=by
 cases hy:y.2 with
 |true=>rfl
 |false=>exact absurd hd (h.2 hy)
def nB.get{w:List aF}{y:List Int×Bool}(h:nB w y)(hd:mu w):y.1=[cH (nth .str w 1),cH (nth .str w 2)]:=(h.1 (h.ok hd)).1
def nB.l0{w:List aF}{y:List Int×Bool}(h:nB w y)(hy:y.2=true):@Eq Int (nth (.int .i64) y.1 0) (cH (nth .str w 1)):=by rw[(h.1 hy).1];rfl
def nB.l1{w:List aF}{y:List Int×Bool}(h:nB w y)(hy:y.2=true):@Eq Int (nth (.int .i64) y.1 1) (cH (nth .str w 2)):=by rw[(h.1 hy).1];rfl
def nB.k0{w:List aF}{y:List Int×Bool}(h:nB w y)(hd:mu w):@Eq Int (nth (.int .i64) y.1 0) (cH (nth .str w 1)):=h.l0 (h.ok hd)
def nB.k1{w:List aF}{y:List Int×Bool}(h:nB w y)(hd:mu w):@Eq Int (nth (.int .i64) y.1 1) (cH (nth .str w 2)):=h.l1 (h.ok hd)
def HJ{w x:List aF}{i:Nat}(h:ic w x i)(hw:∀y∈w,y.length<=1000000):x.length<=1000000/\∀k,(nth .str x k).length<=1000000:=⟨by rw[h.len];decide,uy h hw⟩
def HK{w x:List aF}{i:Nat}(h:ic w x i){n:Nat}(hw:∀y∈w,y.length<=n):∀y∈x,y.length<=n:=fun y hy=>by
 obtain⟨k,hk,rfl⟩:=iq (t:=.str) hy;exact uy h hw k
def F7{w x:List aF}{i:Nat}(h:ic w x i)(hw:∀y∈w,y.length<=1000000):(af 1 (ae (bq x) x)).length<=1000000/\∀k,(nth .str (af 1 (ae (bq x) x)) k).length<=1000000:=
 ⟨by have:=h.len;simp;omega,mZ (B5 (HK h hw) _ _)⟩
def HM(A:aF->Int)(w:List aF)(k:Nat):([]:List (D aE))=dh A w (bc 0 k):=by rw[show bc 0 k=0 from Nat.zero_min k];rfl
def KH(A:aF->Int)(w:List aF)(k:Nat):([]:List (D aI))=cA A w k (0-k):=by rw[Nat.zero_sub];rfl
def HN{i k:Nat}(h:i<k):bc i k=i/\bc (i+1) k=i+1:=⟨ez (by omega),ez h⟩
def Cb{i k:Nat}(h:k<=i):bc i k=k/\bc (i+1) k=k:=⟨y0 h,y0 (by omega)⟩
def zG{w x:List aF}{i k:Nat}(h:ic w x i)(hk:(bG (af 1 (ae (bq x) x))).2=true)(hi:i<k) :
  dh cH w (bc i k)++[(nth .str x 0,nth (.int .i64) (bG (af 1 (ae (bq x) x))).1 0,nth (.int .i64) (bG (af 1 (ae (bq x) x))).1 1,())]=dh cH w (bc (i+1) k):=by
 rw[(HN hi).1,(HN hi).2,B3,zF h hk,h.a];rfl
def zH{A:aF->Int}{w:List aF}{i k:Nat}(hi:i<k):cA A w k (i-k)=cA A w k (i+1-k):=by congr 1;omega
def wZ{A:aF->Int}{w:List aF}{i k:Nat}(hi:k<=i):dh A w (bc i k)=dh A w (bc (i+1) k):=by rw[(Cb hi).1,(Cb hi).2]
def Cc{w x:List aF}{i k:Nat}(h:ic w x i)(hk:(bG x).2=true)(hi:k<=i) :
  cA cH w k (i-k)++[(nth (.int .i64) (bG x).1 0,nth (.int .i64) (bG x).1 1,nth (.int .i64) (bG x).1 2,())]=cA cH w k (i+1-k):=by
 rw[show i+1-k=(i-k)+1 by omega,xY,B9 h hk];unfold pT;rw[show k+(i-k)=i by omega];rfl
def Cd{A:aF->Int}{w:List aF}{i a b:Nat}(h:i=a+b):(((nth .str w 0,dh A w (bc i a),cA A w a (i-a),())):D aA)=AQ A w a b:=by
 rw[(Cb (i:=i) (k:=a) (by omega)).1,show i-a=b by omega];rfl
def F8{A:aF->Int}{w:List aF}{n:Nat}{x:D aE}(h:n<=100):(dh A w n).length+ [x].length<=1000000000:=by rw[uu,cc];omega
def HO{A:aF->Int}{w:List aF}{k n:Nat}{x:D aI}(h:n<=100):(cA A w k n).length+ [x].length<=1000000000:=by rw[rl,cc];omega
def DK{A:aF->Int}{w:List aF}{i k:Nat}{x:D aE}(h:k<=100):(dh A w (bc i k)).length+ [x].length<=1000000000:=F8 (bh (y1 i k) h)
def qO{e:D aA}(h:(cO e).2.isNil=true):aL e=0/\(cO e).1=dS e:=by
 have hf:aL e=0:=by
  apply aw;intro hf;unfold cO at h;rw[if_pos hf]at h;exact hf (bK.1 h)
 exact⟨hf,by unfold cO;rw[if_neg (not_not_intro hf)]⟩
def F9{e:D aA}(h:(cO e).2.isNil=true):(cO e).1.length<=2753:=by
 obtain⟨hf,ht⟩:=qO h;rw[ht];unfold dS;have:=(jg hf).F1 e.2.2.1.length;rw[aj];unfold nH;simp;omega
abbrev vo:D aA:=([97],[([97],1,0,())],[],())
def Ga{n:Nat}{p:Pt}(h:fg p.2.2.1=false):cK n p=1:=by unfold cK;rw[if_pos];exact .inr (.inr (.inr (.inr h)))
def DL{n:Nat}{p:Pt}(h1:(0:Int)<=p.1)(h2:p.1<(n:Int))(h3:(0:Int)<=p.2.1)(h4:p.2.1<=(39:Int))(h5:fg p.2.2.1=true):cK n p=0:=by
 unfold cK;rw[if_neg];rintro(e|e|e|e|e)
 ·exact absurd e (ah.2 h1)
 ·exact absurd h2 (ah.2 e)
 ·exact absurd e (ah.2 h3)
 ·exact absurd e (ah.2 h4)
 ·rw[h5]at e;cases e
section
variable{s:aF}
end
def Ce(e:D aA):(cO e).2=aJ (aL e):=by
 unfold cO;split
 ·rfl
 ·next h=>rw[hL.1 h];rfl
end Go.Mrl

namespace Go.Vg
open Go.RowKit
def jv(F:Fence):Prop:=F=bj\/∃l,F=bj.inRound l
def ji(ds:List Deferred)(a:Act):Act:={a with defers:=ds}
def nP(ds:List Deferred)(a:Act)(d:Option Tmp)(v:Value):(ji ds a).put d v=ji ds (a.put d v):=by cases d <;> rfl
def Cf(ds:List Deferred)(a:Act):(ji ds a).eval=a.eval:=by funext x;cases x <;> rfl
def Cg(ds:List Deferred)(a:Act):(ji ds a).tmps=a.tmps:=rfl
def put_defers(a:Act)(d:Option Tmp)(v:Value):(a.put d v).defers=a.defers:=by cases d <;> rfl
section
variable{P:Program}{F:Fence}{n:Nat}
def jv.fn(h:jv F)(f:FuncId):F.fn f:=by rcases h with rfl|⟨l,rfl⟩ <;> trivial
def jv.deep(h:jv F):¬F.depth.isSome=true:=by rcases h with rfl|⟨l,rfl⟩ <;> simp[bj,Fence.inRound]
def jv.calls(h:jv F){f:FuncId}{args:Array Value}{w:World}{R:Ending->World->Prop}(hc:Calls P f args w R):CallsIn F n P f args w R:=by
 rcases h with rfl|⟨l,rfl⟩
 ·exact callsIn_wide.2 hc
 ·exact CallsIn.inRound l (callsIn_wide.2 hc)
def jv.rows(h:jv F){row:String}{args:Array Value}{w:World}{R:Value->World->Prop}(hc:Rows P row args w R):RowsIn F n P row args w R:=by
 have hs:∀{m m':Machine},Steps P m m'->StepsIn (Machine.fenced P F) P m m':=by
  rcases h with rfl|⟨l,rfl⟩
  ·exact stepsIn_wide.2
  ·exact fun hh=>stepsIn_wide.2 hh
 intro c cs _;obtain⟨v,w',r,s⟩:=hc c cs;exact⟨v,w',r,hs s⟩
structure qP (Q:Exit->Act->World->Prop):Prop where
 bare:∀e a w,Q e a w->a.defers=[]
 HP:∀c a w,¬Q (.panic c) a w
 out:¬LetsOut Q
variable{Q Q':Exit->Act->World->Prop}
def xZ(hQ:qP Q){o:Oper}{K:Act->World->Prop}(hK:∀a w,K a w->a.defers=[]){a:Act}{w:World}(h:o.wp P a w K Q):a.defers=[]:=by
 unfold Oper.wp at h;generalize (execOp a.eval o).run P w=r at h;cases r with
 |ok x w'=>
  cases x with
  |value v=>have:=hK _ _ h;rwa [put_defers]at this
  |skip=>have:=hK _ _ h;rwa [put_defers]at this
  |defer d=>have:=hK _ _ h;rw[put_defers]at this;cases this
  |enter f args=>
   obtain⟨e,w2,fr,hr,_⟩:=h [];cases e with
   |returned v=>have:=hK _ _ hr;rwa [put_defers]at this
   |panicked c=>exact absurd hr (hQ.HP _ _ _)
   |outgrown=>exact absurd hr hQ.out
  |row row args=>
   obtain⟨v,w2,hr,_⟩:=h default [];have:=hK _ _ hr;rwa [put_defers]at this
  |_=>exact h.elim
 |halt x w'=>
  cases x with
  |panic v=>exact absurd h (hQ.HP _ _ _)
  |_=>exact h.elim
def ko(o:Oper):Bool:=match o.op with
 |.defer _=>false
 |_=>true
def Gb{o:Oper}(h:ko o=true):∀c,o.op≠.defer c:=by
 intro c e;unfold ko at h;rw[e]at h;cases h
def KI(hF:jv F)(hQ:qP Q){o:Oper}(hnd:ko o=true){K K':Act->World->Prop}{ds:List Deferred}(hK:∀a w,K a w->a.defers=[])(hK':∀a w,K a w->K' (ji ds a) w){a:Act}{w:World}
  (h:o.wp P a w K Q):o.wpIn F n P (ji ds a) w K' Q':=by
 refine⟨fun f _=>hF.fn f,?_⟩;rw[za _ _ _ (Gb hnd),Cf];unfold Oper.wp at h;have hb:=xZ (P:=P) hQ hK (o:=o) (a:=a) (w:=w) h;generalize (execOp a.eval o).run P w=r at h;cases r with
 |ok x w'=>
  cases x with
  |value v=>simp only[cu,nP];exact hK' _ _ h
  |skip=>simp only[cu,nP];exact hK' _ _ h
  |defer d=>have:=hK _ _ h;rw[put_defers]at this;cases this
  |enter f args=>
   simp only[cu];refine⟨fun e=>absurd e hF.deep,hF.calls (Calls.mono h fun e w2 hr =>?_)⟩;cases e with
   |returned v=>simp only[nP];exact hK' _ _ hr
   |panicked c=>exact absurd hr (hQ.HP _ _ _)
   |outgrown=>exact absurd hr hQ.out
  |row row args=>
   simp only[cu];refine⟨fun e=>absurd e hF.deep,hF.rows (Rows.mono h fun v w2 hr =>?_)⟩;simp only[nP];exact hK' _ _ hr
  |_=>exact h.elim
 |halt x w'=>
  cases x with
  |panic v=>exact absurd h (hQ.HP _ _ _)
  |_=>exact h.elim
def sA(hQ:qP Q){ops:Array Oper}:∀(l:List Oper) (a:Act) (w:World),wpList P ops Q l a w->a.defers=[]
 |[],a,w,h=>hQ.bare _ _ _ h
 |o :: r,a,w,h=>by
  unfold wpList at h;split at h
  ·rcases h with h|⟨_,h⟩
   ·exact xZ hQ (fun a w h=>sA hQ r a w h) h
   ·exact absurd h hQ.out
  ·have:=sA hQ r _ _ h;rwa [put_defers]at this
def x4(hF:jv F)(hQ:qP Q){ds:List Deferred}(hE:∀a w,Q .normal a w->Q' .normal (ji ds a) w){ops:Array Oper}:∀(l:List Oper) (_:l.all ko=true) (a:Act) (w:World),wpList P ops Q l a w->wpListIn F n P ops Q' l (ji ds a) w
 |[],_,a,w,h=>hE a w h
 |o :: r,hl,a,w,h=>by
  simp only[List.all_cons,ai]at hl;unfold wpListIn;unfold wpList at h;rw[Cg];split
  ·rename_i hw
   rw[if_pos hw]at h;rcases h with h|⟨_,h⟩
   ·exact KI hF hQ hl.1 (fun a w h=>sA hQ r a w h) (fun a w h=>x4 hF hQ hE r hl.2 a w h) h
   ·exact absurd h hQ.out
  ·rename_i hw
   rw[if_neg hw]at h;refine⟨fun f _=>hF.fn f,?_⟩;rw[nP];exact x4 hF hQ hE r hl.2 _ _ h
def HQ(hQ:qP Q){ops:Array Oper}{i:Nat}{K:Act->World->Prop}(hK:∀a w,K a w->a.defers=[]){a:Act}{w:World}(h:wpOp P ops Q i K a w):a.defers=[]:=by
 unfold wpOp at h;split at h
 ·exact hK _ _ h
 ·split at h
  ·rcases h with h|⟨_,h⟩
   ·exact xZ hQ hK h
   ·exact absurd h hQ.out
  ·have:=hK _ _ h;rwa [put_defers]at this
def Ch(hQ:qP Q){ops:Array Oper}{md:zb}:∀(n:Nat) (L:Array Bool) (a:Act) (w:World),wpAny P md ops Q n L a w->a.defers=[]
 |0,_,_,_,h=>hQ.bare _ _ _ h.2
 |n+1,L,a,w,h=>by
  cases hr:Region.ready md ops L with
  |nil=>exact hQ.bare _ _ _ (h.1 hr)
  |cons i r=>exact HQ hQ (fun a w h=>Ch hQ n _ a w h) (h.2 i (by rw[hr];simp))
def Lj(hF:jv F)(hQ:qP Q){ops:Array Oper}(hl:ops.toList.all ko=true){ds:List Deferred}{i:Nat}{K K':Act->World->Prop}(hK:∀a w,K a w->a.defers=[])(hK':∀a w,K a w->K' (ji ds a) w){a:Act}{w:World}
  (h:wpOp P ops Q i K a w):wpOpIn F n P ops Q' i K' (ji ds a) w:=by
 unfold wpOpIn;unfold wpOp at h;split
 ·rename_i hi;simp only[hi]at h;exact hK' _ _ h
 ·rename_i o hi
  simp only[hi]at h;have ho:ko o=true:=oo.1 hl o (by rw[<-Array.getElem?_toList]at hi;exact bt hi);rw[Cg];split
  ·rename_i hw
   rw[if_pos hw]at h;rcases h with h|⟨_,h⟩
   ·exact KI hF hQ ho hK hK' h
   ·exact absurd h hQ.out
  ·rename_i hw
   rw[if_neg hw]at h;refine⟨fun f _=>hF.fn f,?_⟩;rw[nP];exact hK' _ _ h
def HR(hF:jv F)(hQ:qP Q){ds:List Deferred}(hE:∀a w,Q .normal a w->Q' .normal (ji ds a) w){ops:Array Oper}(hl:ops.toList.all ko=true){md:zb}:∀(k:Nat) (L:Array Bool) (a:Act) (w:World),wpAny P md ops Q k L a w->wpAnyIn F n P md ops Q' k L (ji ds a) w
 |0,_,_,_,h=>⟨h.1,hE _ _ h.2⟩
 |k+1,L,a,w,h=>⟨fun e=>hE _ _ (h.1 e),fun i hi=>Lj hF hQ hl (fun a w h=>Ch hQ k _ a w h) (fun a w h=>HR hF hQ hE hl k _ a w h) (h.2 i hi)⟩
end
def gH:Code->Bool
 |.skip=>true
 |.region _ ops _=>ops.toList.all ko
 |.seq a b=>gH a&&gH b
 |.cond _ a b=>gH a&&gH b
 |.block _ b=>gH b
 |.exit _=>true
 |.ret=>true
 |_=>false
section
variable{X:Ext}{P:Program}{cx:Cx}{F:Fence}{n:Nat}
def uA(ds:List Deferred)(Q:Exit->Act->World->Prop):Exit->Act->World->Prop:=fun e a w=>∃a',a=ji ds a'/\a'.defers=[]/\Q e a' w
def vp{O:aD}{K:Ex->St->VC}{W:List Nat}{st:St}{S:aY}:qP (fE cx X O K W st S) where
 bare e a w h:=by
  cases e with
  |normal=>obtain⟨_,_,_,_,_,k,_⟩:=h;exact k.defers
  |exit i=>obtain⟨_,_,_,_,_,k,_⟩:=h;exact k.defers
  |ret=>obtain⟨_,_,_,_,_,k,_⟩:=h;exact k.defers
  |goto l=>exact h.elim
  |panic c=>exact h.elim
  |outgrown=>exact h.elim
 HP c a w h:=h.elim
 out h:=let⟨_,_,hh⟩:=h;hh.elim
def fE.on{O:aD}{K:Ex->St->VC}{W:List Nat}{st:St}{S:aY}{ds:List Deferred}{e:Exit}{a:Act}{w:World}(h:fE cx X O K W st S e a w):uA ds (fE cx X O K W st S) e (ji ds a) w:=⟨a,rfl,vp.bare _ _ _ h,h⟩
def Mu(hok:ik P cx X)(hF:jv F)(ds:List Deferred){O:aD}{id:Nat}{ops:Array Oper}{draw:Bool}(hl:ops.toList.all ko=true){st:St}{loc:Nat->Loc}{w:World}{a:Act}{K:Ex->St->VC}(hA:dR cx (aB O st loc w) st a)(g:Good cx.eT X (aB O st loc w))(hO:dA O w)
  (h:(tw cx ops draw st (K .normal)).holds):(Code.region id ops draw).wpIn F n P (uA ds (fE cx X O K (db ops.toList) st (aB O st loc w))) (ji ds a) w:=by
 have hW:∀(j:Nat) (oj:Oper) (d:Nat),ops[j]?=some oj->oj.dst=some d->d∈db ops.toList:=by
  intro j oj d hj hd;exact pv.2 ⟨oj,by rw[<-Array.getElem?_toList]at hj;exact bt hj,hd⟩
 have hq:∀st' loc' a' w',(K .normal st').holds->Good cx.eT X (aB O st' loc' w')->Tr (aB O st loc w) (aB O st' loc' w')->dR cx (aB O st' loc' w') st' a'->j9 (db ops.toList) st st'->
   fE cx X O K (db ops.toList) st (aB O st loc w) .normal a' w':=fun st' loc' a' w' h1 h2 h3 h4 h5=>⟨st',loc',h1,h2,h3,h4,h5⟩
 unfold tw at h;cases draw with
 |false=>
  refine wpIn_region_list (x4 hF vp (fun a w h=>h.on) _ hl _ _ ?_);exact tW hok hW ops.toList (fun o ho d hd=>pv.2 ⟨o,ho,hd⟩) hA g hO h hq
 |true=>
  split at h
  ·rename_i e;cases e
  ·rename_i e
   split at h
   ·rename_i hreg
    rw[Em]at h;refine wpIn_region_any hok.mixed (HR hF vp (fun a w h=>h.on) hl _ _ _ _ (xO (loud:=gw cx ops.toList) _ _ _ _ (aB O st loc {w with drawn:=w.drawn+1}).A ?_));have hdrew:Below w.heap.size w {w with drawn:=w.drawn+1}:=⟨rfl,rfl,ak _,fun _ _=>rfl⟩;obtain⟨tr,g'⟩:=lE (S:=aB O st loc w) (S':=aB O st loc {w with drawn:=w.drawn+1}) g rfl rfl rfl rfl hdrew;refine tX hok hW hreg (fun c a w h=>h) ops.size _ ?_ ⟨hA.size,hA.defers,hA.env.tr tr⟩ g' (hO.tr (ak _)) h ?_
    ·intro j o ho hj
     rw[qs,Array.getElem?_replicate]at hj;split at hj <;> simp at hj
    ·intro st' loc' a' w' h1 h2 h3 h4 h5
     obtain⟨st2,loc2,k1,k2,k3,k4,k5⟩:=dZ.MU (K:=K .normal) (f:=canon st.next (db ops.toList)) (W:=db ops.toList) hA (fun st'=>by
      rcases wz st.next (db ops.toList) st' with e|⟨r,q,k1,k2⟩
      ·exact .inl e
      ·exact .inr ⟨r,q,k1,k2⟩) (⟨st',loc',h1,h2,tr.trans h3,h4,h5⟩:dZ cx X O (fun st'=>K .normal (canon st.next (db ops.toList) st')) (db ops.toList) st (aB O st loc w) a' w')
     exact hq st2 loc2 a' w' k1 k2 k3 k4 k5
   ·exact h.elim
def uA.mono{ds:List Deferred}{Q Q':Exit->Act->World->Prop}(h:∀e a w,Q e a w->Q' e a w){e:Exit}{a:Act}{w:World}(hq:uA ds Q e a w):uA ds Q' e a w:=let⟨a',k1,k2,k3⟩:=hq;⟨a',k1,k2,h _ _ _ k3⟩
def sC(hok:ik P cx X)(hF:jv F)(ds:List Deferred){O:aD}:∀(c:Code) (cur:Nat) (_:gH c=true) {st:St} {loc:Nat->Loc} {w:World} {a:Act} {K:Ex->St->VC},
  dR cx (aB O st loc w) st a->Good cx.eT X (aB O st loc w)->dA O w->(vc cx [] c cur st K).holds->c.wpIn F n P (uA ds (fE cx X O K (writes [] cur c) st (aB O st loc w))) (ji ds a) w:=by
 intro c;induction c with
 |skip=>intro cur _ st loc w a K hA g hO h;exact wpIn_skip (fE.on ⟨st,loc,h,g,Tr.refl _,hA,fun _ _ _ _ h=>h⟩)
 |region id ops draw=>
  intro cur hs st loc w a K hA g hO h;exact Mu hok hF ds hs hA g hO h
 |seq c1 c2 ih1 ih2=>
  intro cur hs st loc w a K hA g hO h;simp only[gH,ai]at hs;refine wpIn_seq ?_;refine wpIn_mono (ih1 cur hs.1 hA g hO h) ?_;rintro e a0 w' ⟨a',rfl,hb,hq⟩;have key:∀e,e≠.normal->fE cx X O (fun e st'=>match e with
   |.normal=>vc cx [] c2 cur st' K
   |e=>K e st') (writes [] cur c1) st (aB O st loc w) e a' w'->uA ds (fE cx X O K (writes [] cur (.seq c1 c2)) st (aB O st loc w)) e (ji ds a') w':=by
   intro e he hq;refine fE.on (fE.mono (W:=writes [] cur c1) (st1:=st) (S1:=aB O st loc w) ?_ (Tr.refl _) (fun _ _ _ _ h=>h) (fun n hn=>ar.2 (.inl hn)));cases e with
   |normal=>exact absurd rfl he
   |exit i=>exact hq
   |ret=>exact hq
   |goto l=>exact hq.elim
   |panic c=>exact hq.elim
   |outgrown=>exact hq.elim
  cases e with
  |normal=>
   obtain⟨st',loc',k1,k2,k3,k4,k5⟩:=hq;refine wpIn_mono (ih2 cur hs.2 k4 k2 (hO.tr k3.size) k1) ?_;intro e a2 w2 hq2;exact hq2.mono fun e a w hq=>hq.mono k3 (W':=writes [] cur (.seq c1 c2)) (fun hm t ht=>k5 (fun h=>hm (ar.2 (.inl h))) t fun hm=>ht (ar.2 (.inl hm))) (fun n hn=>ar.2 (.inr hn))
  |exit i=>exact key _ (by simp) hq
  |ret=>exact key _ (by simp) hq
  |goto l=>exact hq.elim
  |panic c=>exact hq.elim
  |outgrown=>exact hq.elim
 |cond x c1 c2 ih1 ih2=>
  intro cur hs st loc w a K hA g hO h;simp only[gH,ai]at hs;have hx:=bD hA.env x;have h1:∀{K},(vc cx [] c1 cur st K).holds->c1.wpIn F n P (uA ds (fE cx X O K (writes [] cur (.cond x c1 c2)) st (aB O st loc w))) (ji ds a) w:=fun h=>
   wpIn_mono (ih1 cur hs.1 hA g hO h) fun e a' w' hq=>hq.mono fun e a w hq=>hq.mono (Tr.refl _) (fun _ _ _ _ h=>h) (fun n hn=>ar.2 (.inl hn))
  have h2:∀{K},(vc cx [] c2 cur st K).holds->c2.wpIn F n P (uA ds (fE cx X O K (writes [] cur (.cond x c1 c2)) st (aB O st loc w))) (ji ds a) w:=fun h=>
   wpIn_mono (ih2 cur hs.2 hA g hO h) fun e a' w' hq=>hq.mono fun e a w hq=>hq.mono (Tr.refl _) (fun _ _ _ _ h=>h) (fun n hn=>ar.2 (.inr hn))
  have hev:(ji ds a).eval x=a.eval x:=by rw[Cf]
  have h':(match di st.env x with
    |.lit true=>vc cx [] c1 cur st K
    |.lit false=>vc cx [] c2 cur st K
    |.d .bool g =>.ite g (vc cx [] c1 cur st K) (vc cx [] c2 cur st K)
    |_ =>.ff).holds:=h
  split at h'
  ·rename_i hl;rw[hl]at hx;exact wpIn_cond_true (hev.trans hx) (h1 h')
  ·rename_i hl;rw[hl]at hx;exact wpIn_cond_false (hev.trans hx) (h2 h')
  ·rename_i b hl
   rw[hl]at hx;have hx:=(dv (eT:=cx.eT) (S:=aB O st loc w) (b:=b)).1 hx;cases b
   ·exact wpIn_cond_false (hev.trans hx) (h2 (h'.2 rfl))
   ·exact wpIn_cond_true (hev.trans hx) (h1 (h'.1 rfl))
  ·exact h'.elim
 |block id b ih=>
  intro cur hs st loc w a K hA g hO h;refine wpIn_block ?_;have h':(vc cx [] b id st fun e st'=>match e with
   |.exit i=>match cf i id with
    |true=>K .normal st'
    |false=>K (.exit i) st'
   |e=>K e st').holds:=h
  refine wpIn_mono (ih id hs hA g hO h') ?_;rintro e a0 w' ⟨a',rfl,hb,hq⟩;cases e with
  |normal=>exact fE.on hq
  |exit i=>
   obtain⟨st',loc',k1,k2,k3,k4,k5⟩:=hq;simp only at k1;show if i=id then _ else _
   split at k1
   ·rename_i hi
    rw[if_pos (cj hi)];exact fE.on ⟨st',loc',k1,k2,k3,k4,k5⟩
   ·rename_i hi
    rw[if_neg (fun e=>by rw[e,Nat.beq_refl]at hi;cases hi)];exact fE.on ⟨st',loc',k1,k2,k3,k4,k5⟩
  |ret=>exact fE.on hq
  |goto l=>exact hq.elim
  |panic c=>exact hq.elim
  |outgrown=>exact hq.elim
 |exit id=>intro cur _ st loc w a K hA g hO h;exact wpIn_exit (fE.on ⟨st,loc,h,g,Tr.refl _,hA,fun _ _ _ _ h=>h⟩)
 |ret=>intro cur _ st loc w a K hA g hO h;exact wpIn_ret (fE.on ⟨st,loc,h,g,Tr.refl _,hA,fun _ _ _ _ h=>h⟩)
 |_=>intro cur hs;cases hs
end
structure ow (B:Nat) (W W':World):Prop where
 os:W'.os=W.os
 output:W'.output=W.output
 size:W.heap.size<=W'.heap.size
 below:∀k,k<B->k<W.heap.size->W'.heap[k]?=W.heap[k]?
 cells:∀(k:Nat) (o:Obj),W.heap[k]?=some o->o.isCells=true->W'.heap[k]?=W.heap[k]?
def ow.of{B:Nat}{W W':World}{row:Option Nat}(hg:W.grownBy W' row)(hr:∀r,row=some r->B<=r/\∃o:Obj,W.heap[r]?=some o/\o.isCells=false):ow B W W':=
 ⟨hg.os,hg.output,hg.size,fun k h1 h2=>hg.block k h2 (fun e=>by have:=(hr k e.symm).1;omega),fun k o hk hc=>grownBy_keeps_cells hg (fun r e=>(hr r e).2) hk hc⟩
def ow.cell{B:Nat}{W W':World}(h:ow B W W'){b o:Nat}{v:Value}(hc:W.cell? ⟨b,o,none⟩=some v):W'.cell? ⟨b,o,none⟩=some v:=by
 obtain⟨ob,ho,hcs⟩:=cells_of_cell hc;exact(World.cell?_of_block (h.cells _ ob ho hcs)).trans hc
def plainO:OC->Bool
 |.cells _ _=>true
 |.aM _ _=>true
 |.arr _ _=>true
 |.tok _ _=>true
 |.ext k _ _=>cf k 0 || cf k 2
 |.iter _ _ _=>false
def kJ:List (Nat×OC)->Bool
 |[]=>true
 |(_,oc) :: r=>plainO oc&&kJ r
def jn:∀{l:List (Nat×OC)},kJ l=true->∀{n:Nat} {oc:OC},look l n=some oc->plainO oc=true
 |[],_,_,_,h=>by simp[look]at h
 |(m,x) :: r,hp,n,oc,h=>by
  simp only[kJ,ai]at hp;rw[bM]at h;split at h
  ·cases h;exact hp.1
  ·exact jn hp.2 h
section
variable{eT:TypeId}{X:Ext}
def CR.iW{S S':aY}(hob:S'.ob=S.ob)(hloc:S'.loc=S.loc)(hn:S'.next=S.next)(hc:∀b o v,¬S.A b o->S.w.cell? ⟨b,o,none⟩=some v->S'.w.cell? ⟨b,o,none⟩=some v/\¬S'.A b o)
  {c:C}{v:Value}(h:CR eT S c v):CR eT S' c v:=by
 cases c with
 |d t x=>exact VR.frame h hc
 |app t xs n=>obtain⟨h1,h2,h3⟩:=h;exact⟨VR.frame h1 hc,by rw[hn];exact h2,by rw[hob,hloc];exact h3⟩
 |la t x=>obtain⟨b,o,us,rfl,h1,h2⟩:=h;exact⟨b,o,us,rfl,h1.frame hc,h2.frame hc⟩
 |fn f caps=>simp only[CR,aY.fixed,hob,hloc,hn]at h ⊢;exact h
 |_=>simp only[CR,hob,hloc,hn]at h ⊢ <;> exact h
def dq.iW{S S':aY}(hob:S'.ob=S.ob)(hloc:S'.loc=S.loc)(hn:S'.next=S.next)(hc:∀b o v,¬S.A b o->S.w.cell? ⟨b,o,none⟩=some v->S'.w.cell? ⟨b,o,none⟩=some v/\¬S'.A b o)
  {cs:List C}{vs:List Value}(h:dq eT S cs vs):dq eT S' cs vs:=by
 induction h with
 |nil=>exact .nil
 |cons h1 h2 _ ih=>exact .cons (h1.iW hob hloc hn hc) h2 ih
def e8.iW{S S':aY}(hob:S'.ob=S.ob)(hloc:S'.loc=S.loc)(hn:S'.next=S.next)(hc:∀b o v,¬S.A b o->S.w.cell? ⟨b,o,none⟩=some v->S'.w.cell? ⟨b,o,none⟩=some v/\¬S'.A b o)
  {x:bT}{v:Value}(h:e8 eT S x v):e8 eT S' x v:=by
 cases x with
 |one c=>exact CR.iW hob hloc hn hc h
 |agg cs=>obtain⟨vs,rfl,h1⟩:=h;exact⟨vs,rfl,h1.iW hob hloc hn hc⟩
def bW.iW{S S':aY}(hob:S'.ob=S.ob)(hloc:S'.loc=S.loc)(hn:S'.next=S.next)(hc:∀b o v,¬S.A b o->S.w.cell? ⟨b,o,none⟩=some v->S'.w.cell? ⟨b,o,none⟩=some v/\¬S'.A b o)
  {xs:List bT}{vs:List Value}(h:bW eT S xs vs):bW eT S' xs vs:=by
 induction h with
 |nil=>exact .nil
 |cons h1 _ ih=>exact .cons (h1.iW hob hloc hn hc) ih
def cR.iW{S S':aY}(hob:S'.ob=S.ob)(hloc:S'.loc=S.loc)(hn:S'.next=S.next)(hc:∀b o v,¬S.A b o->S.w.cell? ⟨b,o,none⟩=some v->S'.w.cell? ⟨b,o,none⟩=some v/\¬S'.A b o)
  {x:SV}{v:Value}(h:cR eT S x v):cR eT S' x v:=by
 cases x with
 |s x=>exact e8.iW hob hloc hn hc h
 |jy xs=>obtain⟨vs,rfl,h1⟩:=h;exact⟨vs,rfl,h1.iW hob hloc hn hc⟩
def OR.iW{S S':aY}(hob:S'.ob=S.ob)(hloc:S'.loc=S.loc)(hn:S'.next=S.next)(hc:∀b o v,¬S.A b o->S.w.cell? ⟨b,o,none⟩=some v->S'.w.cell? ⟨b,o,none⟩=some v/\¬S'.A b o)
  {l:Loc}{oc:OC}(hb:∀b,b∈l.bs->S'.w.heap[b]?=S.w.heap[b]?)(ho:OR eT X S l oc):OR eT X S' l oc:=by
 have he:∀{t:Ty} {xs:List (D t)} {vs:Array Value},gL eT S t xs vs->gL eT S' t xs vs:=fun h i y hy=>let⟨us,h1,h2⟩:=h i y hy;⟨us,h1.frame hc,h2⟩
 cases oc with
 |cells T cs=>
  obtain⟨b,vs,h1,h2,h3,h4⟩:=ho;exact⟨b,vs,h1,h2,by rw[hb b (by simp[h2])];exact h3,h4.iW hob hloc hn hc⟩
 |aM t xs=>
  rcases ho with ho|⟨b,vs,T,cap,h1,h2,h3,h4,h5,h6,h7⟩
  ·exact .inl ho
  ·exact .inr ⟨b,vs,T,cap,h1,h2,by rw[hb b (by simp[h2])];exact h3,h4,h5,h6,he h7⟩
 |arr t xs=>
  obtain⟨b,vs,T,h1,h2,h3,h4,h5⟩:=ho;exact⟨b,vs,T,h1,h2,by rw[hb b (by simp[h2])];exact h3,h4,he h5⟩
 |tok t xs=>
  rcases ho with ho|⟨b,vs,T,cap,h1,h2,h3,h4,h5,h6,h7⟩
  ·exact .inl ho
  ·exact .inr ⟨b,vs,T,cap,h1,h2,by rw[hb b (by simp[h2])];exact h3,h4,h5,h6,he h7⟩
 |ext k t x=>exact X.frame ho hb
 |iter cs seen cl=>
  obtain⟨b,m,c,sn,h1,h2,h3,h4,h5,h6⟩:=ho;exact⟨b,m,c,sn,h1,h2,by rw[hb b (by simp[h2])];exact h3,h4.iW hob hloc hn hc,h5,h6⟩
def OR.HS{S:aY}{l:Loc}{oc:OC}(hp:plainO oc=true)(ho:OR eT X S l oc):∀b∈l.bs,∃vs T fz,S.w.heap[b]?=some (.cells vs T fz):=by
 intro b hb;cases oc with
 |cells T cs=>obtain⟨b',vs,_,h2,h3,_⟩:=ho;rw[h2]at hb;simp at hb;subst hb;exact⟨_,_,_,h3⟩
 |aM t xs=>
  rcases ho with⟨_,_,h⟩|⟨b',vs,T,cap,_,h2,h3,_⟩
  ·rw[h]at hb;simp at hb
  ·rw[h2]at hb;simp at hb;subst hb;exact⟨_,_,_,h3⟩
 |arr t xs=>obtain⟨b',vs,T,_,h2,h3,_⟩:=ho;rw[h2]at hb;simp at hb;subst hb;exact⟨_,_,_,h3⟩
 |tok t xs=>
  rcases ho with⟨_,_,h⟩|⟨b',vs,T,cap,_,h2,h3,_⟩
  ·rw[h]at hb;simp at hb
  ·rw[h2]at hb;simp at hb;subst hb;exact⟨_,_,_,h3⟩
 |ext k t x=>
  simp only[plainO,hY]at hp;rcases hp with hp|hp
  ·have:=cj hp
   subst this;have hd:gK t x l S.w:=X.deep.1 ho;cases t with
   |slice e=>
    obtain⟨s,_,top,hs,_,⟨_,_,_,h⟩|⟨b',vs,T,cap,cs,_,h2,h3,_,_,_,h4⟩⟩:=hd
    ·rw[h]at hb;simp at hb
    ·rw[h2]at hb
     rcases aq.1 hb with rfl|hb
     ·exact⟨_,_,_,h3⟩
     ·obtain⟨c,hc,hcb⟩:=pv.1 hb
      simp at hcb;subst hcb;obtain⟨i,hi⟩:=List.getElem?_of_mem hc;obtain⟨_,vs',T',h5⟩:=h4.tN i b hi;exact⟨_,_,_,h5⟩
   |_=>exact hd.elim
  ·have:=cj hp
   subst this;obtain⟨rfl,b',p,v,h⟩:=X.GJ.1 ho;rw[h.bs]at hb;rcases aq.1 hb with rfl|hb
   ·exact⟨_,_,_,h.heap⟩
   ·rcases h.row.2 with⟨rfl,_⟩|⟨g,cap,cur,rfl,_,hg,_⟩
    ·simp[zc]at hb
    ·simp[zc]at hb;subst hb;exact⟨_,_,_,hg⟩
 |iter cs seen cl=>cases hp
def sE{S:aY}{W':World}{B:Nat}(g:Good eT X S)(hb:ow B S.w W')(hp:∀n oc,S.ob n=some oc->plainO oc=true)(hg:∀b∈X.yu,b<B):Good eT X {S with w:=W'} where
 obj n oc h:=⟨(g.obj n oc h).1,OR.iW (S:=S) (S':={S with w:=W'}) rfl rfl rfl (fun b o v ha hc=>⟨hb.cell hc,ha⟩) (fun b hbm=>let⟨_,_,_,e⟩:=(g.obj n oc h).2.HS (hp n oc h) b hbm;hb.cells b _ e rfl) (g.obj n oc h).2⟩
 apart:=g.apart
 out:=g.out
 gl:=⟨X.vS g.gl.1 fun b hbm=>hb.below b (hg b hbm) (X.AV g.gl.1 b hbm),g.gl.2⟩
def x5{S0 S:aY}{W':World}{B:Nat}(t:Tr S0 S)(hb:ow B S.w W')(hB:S0.w.heap.size<=B):Tr S0 {S with w:=W'} where
 O:=t.O
 next:=t.next
 os:=hb.os.trans t.os
 output:=hb.output.trans t.output
 size:=bh t.size hb.size
 own:=t.own
 cell b o v ha hc:=let⟨h1,h2⟩:=t.cell b o v ha hc;⟨hb.cell h1,h2⟩
 block b hlt ho:=(hb.below b (br hlt hB) (br hlt t.size)).trans (t.block b hlt ho)
 loc:=t.loc
 kind:=t.kind
def vq{S:aY}{W':World}{B:Nat}{env:List (Nat×SV)}{a:Act}(h:en eT S env a)(hb:ow B S.w W'):en eT {S with w:=W'} env a:=
 fun t sv ht=>cR.iW (S:=S) (S':={S with w:=W'}) rfl rfl rfl (fun b o v ha hc=>⟨hb.cell hc,ha⟩) (h t sv ht)
def zI{S:aY}(g:Good eT X S)(hp:∀n oc,S.ob n=some oc->plainO oc=true){k:Nat}{o:Obj}(hk:S.w.heap[k]?=some o)(ho:o.isCells=false):¬S.owns k:=by
 rintro⟨n,oc,h1,h2⟩;obtain⟨vs,T,fz,e⟩:=(g.obj n oc h1).2.HS (hp n oc h1) k h2;rw[hk]at e;cases e;cases ho
end
def dP(an:gp)(st:St)(us:List Nat)(x:an.X):St:=
 {env:=pH an (an.pd x) us an.refs++nF an st x,aC:=ib (eB an.aG (an.pd x) us) an.aG (an.pd x) us++iM an st x,next:=st.next+an.aG.length}
def qQ:List Ob->List Nat->List Nat->Bool
 |o :: os,n0 :: ns0,n :: ns=>(match kf o o with|true=>cf n n0|false=>true)&&qQ os ns0 ns
 |_,_,_=>true
def zJ:∀{aG:List Ob} {ν0 ν:List Nat} {i n0 n:Nat} {o:Ob},qQ aG ν0 ν=true->aG[i]?=some o->kf o o=true->ν0[i]?=some n0->ν[i]?=some n->n=n0
 |[],_,_,_,_,_,_,_,h,_,_,_=>by simp at h
 |_ :: _,[],_,_,_,_,_,_,_,_,h,_=>by simp at h
 |_ :: _,_ :: _,[],_,_,_,_,_,_,_,_,h=>by simp at h
 |a :: os,m0 :: ns0,m :: ns,0,n0,n,o,h,h1,h2,h3,h4=>by
  simp at h1 h3 h4;subst h1;subst h3;subst h4;simp only[qQ,h2,ai]at h;exact cj h.1
 |a :: os,m0 :: ns0,m :: ns,i+1,n0,n,o,h,h1,h2,h3,h4=>by
  simp only[qQ,ai]at h;exact zJ h.2 (by simpa using h1) h2 (by simpa using h3) (by simpa using h4)
def w4(an:gp)(ν0:List Nat)(st st':St)(more:an.X->Prop):VC:=
 match r7 st' an with
 |some ν=>match nodupB ν&&(pG st' an ν an.refs&&qQ an.aG ν0 ν),dr false st'.aC an.aG ν an.aG ν with
  |true,some y =>.leaf (BA (tu st' an y an.refs++fk an.aG y st'.aC an.aG ν++[∃x',an.inv x'/\more x'/\jd st' (an.bX x')/\je st' (an.aC x'++fc st an.ey)/\(lu ν (iM an st x')=true/\y=an.pd x')]))
  |_,_ =>.ff
 |none =>.ff
def w5{an:gp}{ν0:List Nat}{st st':St}{more:an.X->Prop}(h:(w4 an ν0 st st' more).holds):∃x,an.inv x/\more x/\∃ν,BF an st st' x ν/\qQ an.aG ν0 ν=true:=by
 unfold w4 at h;split at h
 ·rename_i ν _
  split at h
  ·rename_i y hc hy
   simp only[ai]at hc;have hall:=qp h;obtain⟨x,h1,h2,h3,h4,h5,h6⟩:=hall (∃x',an.inv x'/\more x'/\jd st' (an.bX x')/\je st' (an.aC x'++fc st an.ey)/\(lu ν (iM an st x')=true/\y=an.pd x')) (tb _ (bo.2 rfl));subst h6;obtain⟨k1,_⟩:=fy.1 hall;obtain⟨k1,k2⟩:=fy.1 k1;exact⟨x,h1,h2,ν,⟨hc.1,hc.2.1,hy,k1,k2,h3,h4,h5⟩,hc.2.2⟩
  ·exact h.elim
 ·exact h.elim
def zK{aC:List (Nat×OC)}{aG:List Ob}{ν:List Nat}{o:Ob}{y:OD o}{oc:OC}{f:Nat->C}{l:Loc}(hk:kf o o=true)(h:fK false aC aG ν o oc=some y):aO l l oc (mj f o y):=by
 cases o with
 |box T cls=>obtain⟨cs,rfl⟩:=(iA h (fun _ =>.any)).1 _ _ rfl;rfl
 |row k t=>
  obtain⟨xs,rfl⟩:=(iA h (fun _ =>.any)).2.2.1 _ _ rfl rfl;cases k with
  |true=>rfl
  |false=>cases hk
 |tok t=>cases hk
 |ext k t=>obtain⟨x,rfl⟩:=(iA h (fun _ =>.any)).2.1 _ _ rfl;exact⟨rfl,rfl⟩
section
variable{X:Ext}{cx:Cx}
def HT{an:gp}{O:aD}{st st':St}{loc loc0:Nat->Loc}{w w0:World}{a:Act}{W us ν:List Nat}(x:an.X)(hus:nodupB us=true)(husl:us.length=an.aG.length)(husm:∀n∈us,n<st.next+an.aG.length)(hsel:∀(i m:Nat),us[i]?=some m->st.next<=m\/(ν[i]?=some m/\∃o,an.aG[i]?=some o/\kf o o=true))(g:Good cx.eT X (aB O st' loc w))(hA:dR cx (aB O st' loc w) st' a)(ht:Tr (aB O st loc0 w0) (aB O st' loc w))
  (hok:kH an st W x=true)(hkeep:∀n∈an.keep,∀v,look st.env n=some v->∃u,look st'.env n=some u/\jH u v)(hf:BF an st st' x ν) :
  ∃loc',Good cx.eT X (aB O (dP an st us x) loc' w)/\dR cx (aB O (dP an st us x) loc' w) (dP an st us x) a/\Tr (aB O st loc0 w0) (aB O (dP an st us x) loc' w):=by
 simp only[kH,ai]at hok;obtain⟨hb1,hb2,hkeys,hnr⟩:=hok;have hlen:ν.length=us.length:=by rw[husl];exact(kd hf.get).symm
 let loc':=dB us (ν.map loc) loc
 have hkept:∀(i n:Nat),n<st.next->us[i]?=some n->ν[i]?=some n/\∃o,an.aG[i]?=some o/\kf o o=true:=fun i n hn hi=>(hsel i n hi).resolve_left (by omega)
 have hlow:∀n,n<st.next->loc' n=loc n:=fun n hn=>by
  by_cases hm:n∈us
  ·obtain⟨i,hi⟩:=List.getElem?_of_mem hm
   exact fV hus hi (by simp[(hkept i n hn hi).1])
  ·exact iz hm
 have hrest:∀m oc,look (iM an st x) m=some oc->m<st.next/\m∉ν/\∃u,look st'.aC m=some u/\aO (loc m) (loc m) u oc/\u.lo=oc.lo/\OR cx.eT X (aB O st' loc w) (loc m) oc:=by
  intro m oc hm;obtain⟨u,hu,hs⟩:=jl hf.aC hm;obtain⟨h1,h2,h3⟩:=qx hs (g.obj m u hu).2;exact⟨(gh hb2 hm).1,od hf.out hm,u,hu,h2,h3,h1⟩
 have hob:∀m oc,look (dP an st us x).aC m=some oc->(∃(i n:Nat) (o:Ob) (y:OD o) (oc0:OC),ν[i]?=some n/\us[i]?=some m/\an.aG[i]?=some o/\look st'.aC n=some oc0/\fK false st'.aC an.aG ν o oc0=some y/\
   oc=mj (eB an.aG (an.pd x) us) o y/\loc' m=loc n)\/(m∉us/\look (iM an st x) m=some oc/\loc' m=loc m):=by
  intro m oc hm;simp only[dP,cQ]at hm;split at hm
  ·rename_i oc' hm'
   cases hm;obtain⟨i,n,o,y,oc0,k1,k2,k3,k4,k5,k6,_⟩:=lP hf.get (lO (X:=X) g hf.get hf.get hf.conds) hlen hm';exact .inl ⟨i,n,o,y,oc0,k1,k2,k3,k4,k5,k6,fV hus k2 (by simp[k1])⟩
  ·rename_i hm'
   have hnin:m∉us:=fun hmem=>by
    obtain⟨oc1,h2⟩:=lq (f:=eB an.aG (an.pd x) us) (x:=an.pd x) husl.symm hmem;rw[h2]at hm';cases hm'
   exact .inr ⟨hnin,hm,iz hnin⟩
 have hAsub:∀b o,(aB O (dP an st us x) loc' w).A b o->(aB O st' loc w).A b o:=by
  rintro b off (h|⟨m,oc,h1,h2,h3⟩)
  ·exact .inl h
  ·rcases hob m oc h1 with⟨i,n,o,y,oc0,k1,k2,k3,k4,k5,k6,k7⟩|⟨k1,k2,k3⟩
   ·refine .inr ⟨n,oc0,k4,by simp only[aB]at h2;rw[k7]at h2;exact h2,?_⟩
    rcases tq (f:=eB an.aG (an.pd x) us) k5 with e|e
    ·rw[<-e,<-k6];exact h3
    ·cases e
   ·obtain⟨_,_,u,hu,_,hlo,_⟩:=hrest m oc k2
    exact .inr ⟨m,u,hu,by simp only[aB]at h2;rw[k3]at h2;exact h2,by rw[hlo];exact h3⟩
 have hcell:∀b o v,¬(aB O st' loc w).A b o->w.cell? ⟨b,o,none⟩=some v->w.cell? ⟨b,o,none⟩=some v/\¬(aB O (dP an st us x) loc' w).A b o:=fun b o v h1 h2=>⟨h2,fun h=>h1 (hAsub b o h)⟩
 have hrel:∀{c:C} {v:Value},lQ st.next c=true->CR cx.eT (aB O st' loc w) c v->CR cx.eT (aB O (dP an st us x) loc' w) c v:=fun hb hv=>
  uc (S:=aB O st' loc w) (S':=aB O (dP an st us x) loc' w) (k:=st.next) hcell (by simp[aB,dP]) (fun n hn=>hlow n hn) (fun n oc hn h=>by
   rcases hob n oc h with⟨i,n',o,y,oc0,k1,k2,k3,k4,k5,k6,_⟩|⟨k1,k2,k3⟩
   ·obtain⟨e1,o',e2,e3⟩:=hkept i n hn k2
    rw[k1]at e1;cases e1;rw[k3]at e2;cases e2;exact⟨oc0,k4,by rw[k6];exact zK e3 k5⟩
   ·obtain⟨_,_,u,hu,hk,_,_⟩:=hrest n oc k2
    exact⟨u,hu,hk⟩) hb hv
 obtain⟨gN,laid⟩:=AG (X:=X) g hf.get hf.conds hf.nodup (O2:=O) (ν2:=us) (rest:=iM an st x) (locR:=loc) (st2:=dP an st us x) hus hlen (by simp only[dP])
  (fun n hn=>by have:=husm n hn;simp only[dP];exact this)
  (fun n hn b hb off h=>by
   obtain⟨_,oc,_,_,k,_⟩:=fW hf.get hn;exact g.out n oc b off k hb h)
  (fun n hn b hb m oc h1 h2 h3=>by
   obtain⟨_,oc0,_,_,k,_⟩:=fW hf.get hn;obtain⟨_,hmν,u,hu,_⟩:=hrest m oc h1;have:=g.apart n m oc0 u b k hu hb h3;exact hmν (by rw[<-this];exact hn))
  (fun m oc h1 h2=>by
   obtain⟨hm,_,u,hu,hk,hlo,hor⟩:=hrest m oc h1;refine⟨by simp only[dP];omega,?_⟩;have hb:=(gh hb2 h1).2;cases oc with
   |cells T cs=>
    obtain⟨b,vs,h1,h2,h3,h4⟩:=hor;exact⟨b,vs,h1,h2,h3,im (k:=st.next) hrel hb h4⟩
   |aM t xs=>exact u9.to (S:=aB O st' loc w) (S':=aB O (dP an st us x) loc' w) rfl (.inr hAsub) hor
   |tok t xs=>exact u9.to (X:=X) (S:=aB O st' loc w) (S':=aB O (dP an st us x) loc' w) (l:=loc m) rfl (.inr hAsub) hor
   |arr t xs=>
    obtain⟨b,vs,T,h1,h2,h3,h4,h5⟩:=hor;exact⟨b,vs,T,h1,h2,h3,h4,fun i y hy=>let⟨us,r1,r2⟩:=h5 i y hy;⟨us,r1.frame hcell,r2⟩⟩
   |ext k t x=>exact hor
   |iter cs seen cl=>obtain⟨b,m,c,sn,k1,k2,k3,k4,k5⟩:=hor;exact⟨b,m,c,sn,k1,k2,k3,im (k:=st.next) hrel hb k4,k5⟩)
  (fun m m' oc oc' b h1 h2 _ _ h3 h4=>by
   obtain⟨_,_,u,hu,_⟩:=hrest m oc h1;obtain⟨_,_,u',hu',_⟩:=hrest m' oc' h2;exact g.apart m m' u u' b hu hu' h3 h4)
  (fun m oc b off h1 _ h2=>by
   obtain⟨_,_,u,hu,_⟩:=hrest m oc h1;exact g.out m u b off hu h2)
  (.inr hAsub)
  (fun b hb ⟨m,oc,h1,h2⟩=>by
   rcases hob m oc h1 with⟨i,n,o,y,oc0,k1,k2,k3,k4,k5,k6,k7⟩|⟨k1,k2,k3⟩
   ·refine g.gl.2 b hb ⟨n,oc0,k4,?_⟩
    have e:dB us (ν.map loc) loc m=loc n:=k7;simp only[aB]at h2;rw[e]at h2;exact h2
   ·obtain⟨_,_,u,hu,_⟩:=hrest m oc k2
    have e:dB us (ν.map loc) loc m=loc m:=k3;refine g.gl.2 b hb ⟨m,u,hu,?_⟩;simp only[aB]at h2;rw[e]at h2;exact h2)
 refine⟨loc',gN,⟨hA.size,hA.defers,fun t sv hl =>?_⟩,?_⟩
 ·simp only[dP,cQ]at hl
  split at hl
  ·rename_i v hv
   cases hl;obtain⟨k,hk,rfl⟩:=kI hv;obtain⟨c,hc,hs⟩:=qA hf.refs hk;have hcv:CR cx.eT (aB O st' loc w) c (a.tmps.getD t undef):=hA.env t _ hc;exact r4 laid (tp g hcv hf.get hs (r8 hf.Me hk hc))
  ·have hl2:look (nF an st x) t=some sv:=hl
   have hst:∃u,look st'.env t=some u/\jH u sv:=by
    simp only[nF,cQ]at hl2;split at hl2
    ·rename_i v hv;cases hl2;exact jk hf.env hv
    ·obtain⟨h1,h2⟩:=eV hl2;exact hkeep t h1 sv h2
   obtain⟨u,hu,hs⟩:=hst;have hv:=qw hs (hA.env t u hu);obtain⟨v0,rfl,hb⟩:=nt hb1 hl2;cases v0 with
   |one c=>exact hrel hb hv
   |agg cs=>obtain⟨vs,h1,h2⟩:=hv;exact⟨vs,h1,im (k:=st.next) hrel hb h2⟩
 ·refine{O:=ht.O,next:=by simp[aB,dP],os:=ht.os,output:=ht.output,size:=ht.size,own:=fun b hb =>?_,cell:=fun b o v h1 h2 =>?_,block:=ht.block,loc:=fun n hn hfx =>?_,kind:=fun n oc hn h =>?_}
  ·obtain⟨m,oc,h1,h2⟩:=hb
   rcases hob m oc h1 with⟨i,n,o,y,oc0,k1,k2,k3,k4,k5,k6,k7⟩|⟨k1,k2,k3⟩
   ·exact ht.own b ⟨n,oc0,k4,by simp only[aB]at h2;rw[k7]at h2;exact h2⟩
   ·obtain⟨_,_,u,hu,_⟩:=hrest m oc k2
    exact ht.own b ⟨m,u,hu,by simp only[aB]at h2;rw[k3]at h2;exact h2⟩
  ·obtain⟨k1,k2⟩:=ht.cell b o v h1 h2
   exact⟨k1,fun h=>k2 (hAsub b o h)⟩
  ·show(loc' n).v=_/\(_->loc' n=_)
   rw[hlow n hn];exact ht.loc n hn hfx
  ·rcases hob n oc h with⟨i,n',o,y,oc0,k1,k2,k3,k4,k5,k6,_⟩|⟨k1,k2,k3⟩
   ·obtain⟨e1,o',e2,e3⟩:=hkept i n hn k2
    rw[k1]at e1;cases e1;rw[k3]at e2;cases e2;obtain⟨oc1,m1,m2⟩:=ht.kind n oc0 hn k4;refine⟨oc1,m1,?_⟩;show aO _ (loc' n) _ _;rw[hlow n hn,k6];exact m2.comp (zK e3 k5)
   ·obtain⟨_,_,u,hu,hk,_,_⟩:=hrest n oc k2
    obtain⟨oc1,m1,m2⟩:=ht.kind n u hn hu;refine⟨oc1,m1,?_⟩;show aO _ (loc' n) _ _;rw[hlow n hn];exact m2.comp hk
end
structure iv:Type 1 where
 inv:List Nat->Prop
 keep:List Nat
 ey:List Nat:=[]
 jq:List Nat:=[]
 aG:List Ob:=[]
 refs:List (Nat×Nat):=[]
 pd:List Nat->PD aG:=fun _=>Fo aG
def iv.sF(r:iv):gp:={X:=List Nat,inv:=r.inv,dx:=fun _=>0,bX:=fun _=>[],keep:=r.keep,ey:=r.ey,aG:=r.aG,refs:=r.refs,pd:=r.pd}
def Mv(r:iv)(ν0:List Nat)(st:St):List Nat:=jr r.aG r.aG ν0 st.next
def eD(r:iv)(ν0:List Nat)(st:St)(pre:List Nat):St:=dP r.sF st (Mv r ν0 st) pre
def nc(r:iv)(ν0:List Nat)(st:St)(pre:List Nat):Bool:=kH r.sF st [] pre&&(kJ (eD r ν0 st pre).aC&&(nodupB (Mv r ν0 st)&&fX (st.next+r.aG.length) (Mv r ν0 st)))
def cT{t:Ty}(xs:List (D t))(k i:Nat):List (D t):=(xs.drop (i*k)).take k
def dD(n k:Nat):Nat:=(n+k-1) / k
def gy(a:Option Addr)(n k i:Nat):Value:=.slice (a.map fun p=>{p with off:=p.off+i*k}) (min k (n-i*k)) (min k (n-i*k))
def tD(ps:List Tmp)(asg:Code):Option (Nat×Nat):=
 match ps,asg with
 |[p],.region _ ops false=>match ops.toList with
  |[o]=>match o.dst,o.op,o.guard with
   |some d,.assign (.tmp q),none=>match cf q p with
    |true=>some (p,d)
    |false=>none
   |_,_,_=>none
  |_=>none
 |_,_=>none
def KJ(st:St)(r:iv):iv:={r with keep:=(wA st.env r.keep).filter (fun t=>mU [t] r.refs),ey:=match r.ey with
 |[]=>mT (r.jq++(match r7 st r.sF with|some l=>l|none=>[])) st.aC
 |l=>l}
@[reducible] def EC:Ty:=.slice (.int .u8)
def AR(an:iv)(ν0:List Nat)(st1:St)(bs:List (D (.int .u8)))(kN p d:Nat)(pre:List Nat)(i:Nat):St:=
 {eD an ν0 st1 pre with env:=(d,.s (.one (.d EC (cT bs kN i)))) :: (p,.s (.one (.d EC (cT bs kN i)))) :: (eD an ν0 st1 pre).env}
def rK(an:iv)(ν0:List Nat)(st1:St)(K:Ex->St->VC)(pre:List Nat)(i:Nat):Ex->St->VC:=fun e st'=>match e with
 |.normal=>w4 an.sF ν0 st1 {st' with env:=(eD an ν0 st1 pre).env} fun x=>x=pre++[i]
 |.ret=>match kJ st'.aC with
  |true =>.imp (pre=ax i) (K .ret {st' with env:=(eD an ν0 st1 pre).env})
  |false =>.ff
 |.exit _ =>.ff
def KK(cx:Cx)(an:iv)(st1:St)(bs:List (D (.int .u8)))(k:Int)(p d:Nat)(body:Code)(K:Ex->St->VC):VC:=
 match r7 st1 an.sF with
 |some ν0 =>.both (.leaf (1<=k/\k<=1000000000/\bs.length<=1000000000))
  (.both (w4 an.sF ν0 st1 st1 fun x=>x=[]) (.both (.all (List Nat) fun pre =>.imp (an.inv pre) (match nc an ν0 st1 pre with
    |true =>.all Nat fun i =>.imp (pre.length<dD bs.length k.toNat)
     (vc cx [] body 0 (AR an ν0 st1 bs k.toNat p d pre i) (rK an ν0 st1 K pre i))
    |false =>.ff))
   (.imp (an.inv (ax (dD bs.length k.toNat))) (K .normal (eD an ν0 st1 (ax (dD bs.length k.toNat)))))))
 |none =>.ff
def JP(cx:Cx)(it:FuncId)(r:St->iv)(g:Operand)(p d:Nat)(body:Code)(st:St)(K:Ex->St->VC):VC:=
 match di st.env g with
 |.fn f [n1,n2]=>match cf f it&&!cf n1 n2,look st.aC n1,look st.aC n2 with
  |true,some (.cells _ [.d (.slice (.int .u8)) bs]),some (.cells _ [.d (.int .i64) k])=>
   KK cx (KJ (aS (aS st n1) n2) (r (aS (aS st n1) n2))) (aS (aS st n1) n2) bs k p d body K
  |_,_,_ =>.ff
 |_ =>.ff
def pU(P:Program)(it:FuncId):Prop:=
 ∀(b1 b2:Nat) (a:Option Addr) (len cap k:Nat) (w:World),1<=k->k<=1000000000->len<=1000000000->len<=cap->(0<len->∃b o,a=some ⟨b,o,none⟩)->b1<w.heap.size->b2<w.heap.size->w.cell? ⟨b1,0,none⟩=some (.slice a len cap)->w.cell? ⟨b2,0,none⟩=some (.int .i64 k)->
  SeqStopsK bj 2 P it #[.pointer (some ⟨b1,0,none⟩),.pointer (some ⟨b2,0,none⟩)] (fun i:Nat =>#[gy a len k i])
   (fun A B=>B.cell? ⟨b1,0,none⟩=A.cell? ⟨b1,0,none⟩/\B.cell? ⟨b2,0,none⟩=A.cell? ⟨b2,0,none⟩) (fun xs=>xs=ax (dD len k)) (fun pre=>∃j,pre=ax j) (dD len k) w
def l5{t:Ty}(xs:List (D t))(k i:Nat):(cT xs k i).length=min k (xs.length-i*k):=by simp[cT]
section
variable{eT:TypeId}{X:Ext}
def JQ{bs:List (D (.int .u8))}{A:aD}{w:World}{v:Value}(h:VR eT EC bs A w v) :
  ∃a cap,v=.slice a bs.length cap/\bs.length<=cap/\(0<bs.length->∃b o,a=some ⟨b,o,none⟩)/\∀k i,VR eT EC (cT bs k i) A w (gy a bs.length k i):=by
 obtain⟨v',e,hbig,h⟩:=h.one rfl;cases e;rcases h with⟨rfl,a,c,rfl⟩|⟨b,o,cap,rfl,hc,h⟩
 ·refine⟨a,c,rfl,a8 _,fun h=>absurd h (Nat.lt_irrefl _),fun k i=>VR.bQ rfl ⟨_,rfl,by simp[cT],.inl ⟨by simp[cT],a.map fun p=>{p with off:=p.off+i*k},0,by simp[gy]⟩⟩⟩
 ·refine⟨some ⟨b,o,none⟩,cap,rfl,hc,fun _=>⟨b,o,rfl⟩,fun k i=>VR.bQ rfl ⟨_,rfl,by rw[l5];omega,.inr ⟨b,o+i*k,min k (bs.length-i*k),by rw[l5];rfl,by rw[l5];exact ak _,fun j y hj =>?_⟩⟩⟩
  have hj':bs[i*k+j]?=some y:=by
   unfold cT at hj;rw[List.getElem?_take]at hj;split at hj
   ·rwa [List.getElem?_drop]at hj
   ·cases hj
  obtain⟨us,h1,h2⟩:=h _ y hj';refine⟨us,h1,fun m u hm =>?_⟩;have:=h2 m u hm;rw[show o+i*k+j*(Ty.int j8).size+m=o+(i*k+j)*(Ty.int j8).size+m by simp[Ty.size];omega];exact this
end
section
variable{P:Program}{F:Fence}{n:Nat}
def HU{K:Act->World->Prop}{id:Nat}{ops:Array Oper}{o:Oper}{d q:Nat}(ho:ops.toList=[o])(hd:o.dst=some d)(hop:o.op=.assign (.tmp q))(hg:o.guard=none){a:Act}{w:World}(hF:∀f,F.fn f)
  (h:K (a.put (some d) (a.eval (.tmp q))) w):(Code.region id ops false).wpIn F n P (Exit.then K (fun _ _ _=>False)) a w:=by
 refine wpIn_region_list ?_;rw[ho];unfold wpListIn;rw[if_pos (by simp[Region.wanted,hg])];refine⟨fun f _=>hF f,?_⟩;rw[za _ _ _ (by simp[hop])];have e:(execOp a.eval o).run P w=.ok (.value (a.eval (.tmp q))) w:=by unfold execOp;rw[hop];rfl
 rw[e];simp only[cu,hd];exact h
end
def DM{ps:List Tmp}{asg:Code}{p d:Nat}(h:tD ps asg=some (p,d)):ps=[p]/\∃id ops o,asg=.region id ops false/\ops.toList=[o]/\o.dst=some d/\o.op=.assign (.tmp p)/\o.guard=none:=by
 unfold tD at h;split at h
 ·split at h
  ·split at h
   ·split at h
    ·cases h
     rename_i hb _;have:=cj hb;subst this;exact⟨rfl,_,_,_,rfl,by assumption,by assumption,by assumption,by assumption⟩
    ·cases h
   ·cases h
  ·cases h
 ·cases h
def Gc(D:Nat):Deferred:={target:=.collected D,args:=#[]}
def tE{a:Act}(h:a.defers=[]):ji [] a=a:=by cases a;simp only at h;subst h;rfl
section
variable{X:Ext}{P:Program}{cx:Cx}
structure Gd (cx:Cx) (X:Ext) (O:aD) (K:St->VC) (S:aY) (a a':Act) (w':World) (D:Nat) (st':St) (loc':Nat->Loc):Prop where
 act:a'=ji [Gc D] a
 vc:(K st').holds
 fT:Good cx.eT X (aB O st' loc' w')
 tr:Tr S (aB O st' loc' w')
 env:en cx.eT (aB O st' loc' w') st'.env a
 Na:S.w.heap.size<=D
 mark:w'.heap[D]?=some (.deferred (some []))
 plain:kJ st'.aC=true
def QR(cx:Cx)(X:Ext)(O:aD)(K:Ex->St->VC)(S:aY)(a:Act):Exit->Act->World->Prop
 |.normal,a',w'=>∃D st' loc',Gd cx X O (K .normal) S a a' w' D st' loc'
 |.ret,a',w'=>∃D st' loc',Gd cx X O (K .ret) S a a' w' D st' loc'
 |_,_,_=>False
def l6{st:St}:∀{l:List Nat} {n:Nat} {v:SV},n∈l->look st.env n=some v->look (ke st l) n=some v
 |[],_,_,h,_=>by simp at h
 |t :: r,n,v,h,hv=>by
  simp only[ke];by_cases e:t=n
  ·subst e
   rw[hv];simp only[bM,if_true]
  ·have hn:n∈r:=(aq.1 h).resolve_left fun h=>e h.symm
   cases look st.env t with
   |none=>exact l6 hn hv
   |some u=>simp only[bM,if_neg e];exact l6 hn hv
def JR{an:gp}{st:St}{us:List Nat}{x:an.X}(hs:an.bX x=[])(hnr:mU an.keep an.refs=true){n:Nat}(hn:n∈an.keep){v:SV}(h:look st.env n=some v):look (dP an st us x).env n=some v:=by
 simp only[dP,nF,cQ,hs];split
 ·rename_i u hu
  obtain⟨k,hk,_⟩:=kI hu;exact absurd hn (qB hnr hk)
 ·simp only[look]
  exact l6 hn h
def w6{O:aD}{an:iv}{ν0:List Nat}{st1 st':St}{loc loc':Nat->Loc}{w W:World}{a:Act}{pre:List Nat}(g:Good cx.eT X (aB O st' loc' W))(hsz:a.tmps.size=cx.N)(hdf:a.defers=[])(henv:en cx.eT (aB O st' loc' W) st'.env a)
  (ht:Tr (aB O st1 loc w) (aB O st' loc' W))(hkeep:∀n∈an.keep,∀v,look st1.env n=some v->∃u,look st'.env n=some u/\jH u v)(hf:∃ν,BF an.sF st1 st' pre ν/\qQ an.aG ν0 ν=true)(hB:nc an ν0 st1 pre=true) :
  ∃loc2,Good cx.eT X (aB O (eD an ν0 st1 pre) loc2 W)/\en cx.eT (aB O (eD an ν0 st1 pre) loc2 W) (eD an ν0 st1 pre).env a/\Tr (aB O st1 loc w) (aB O (eD an ν0 st1 pre) loc2 W):=by
 simp only[nc,ai]at hB;obtain⟨h1,_,h3,h4⟩:=hB;obtain⟨ν,hf,hk⟩:=hf;obtain⟨loc2,m1,m2,m3⟩:=HT (an:=an.sF) (st:=st1) (st':=st') (O:=O) (loc:=loc') (w:=W) (loc0:=loc) (w0:=w) (a:=a) (W:=[]) (ν:=ν) pre h3 mq (fun n hn=>nv h4 hn)
  (fun i m hi=>by
   rcases mW hi with⟨o,o',k1,k2,k3,k4⟩|k
   ·rw[k1]at k2;cases k2
    refine .inr ⟨?_,o,k1,k3⟩;have hl:i<ν.length:=by rw[<-kd hf.get];exact aW k1
    rw[List.getElem?_eq_getElem hl];exact congrArg some (zJ hk k1 k3 k4 (List.getElem?_eq_getElem hl))
   ·exact .inl k) g ⟨hsz,hdf,henv⟩ ht h1 hkeep hf
 exact⟨loc2,m1,m2.env,m3⟩
def JS(hok:ik P cx X){it:FuncId}(hit:pU P it)(heg:∀args w,(callFunc it args).run P w=.ok (.enter it args) w){O:aD}{st:St}{loc:Nat->Loc}{w:World}{a:Act}{K:Ex->St->VC}{g:Operand}{ps:Array Tmp}{asg body:Code}{p d:Nat}
  (r:St->iv)(hsh:tD ps.toList asg=some (p,d))(hsb:gH body=true)(hpN:p<cx.N)(nf:d<cx.N)(hA:dR cx (aB O st loc w) st a)(gd:Good cx.eT X (aB O st loc w))(hO:dA O w)
  (h:(JP cx it r g p d body st K).holds):(Code.rangeFunc g ps asg body).wpIn bj 3 P (QR cx X O K (aB O st loc w) a) a w:=by
 obtain⟨hps,id,ops,o,rfl,hops,hdst,hop,hgd⟩:=DM hsh;unfold JP at h;split at h
 case h_2=>exact h.elim
 rename_i f n1 n2 hev;split at h
 case h_2=>exact h.elim
 rename_i T1 bs T2 k hb h1 h2;simp only[ai,ck]at hb;have hf:=cj hb.1;subst hf;have hne:n1≠n2:=fun e=>by have h3:=hb.2;subst e;rw[Nat.beq_refl]at h3;cases h3
 obtain⟨st1,hst1⟩:∃s,s=aS (aS st n1) n2:=⟨_,rfl⟩
 rw[<-hst1]at h;generalize KJ st1 (r st1)=an at h;unfold KK at h;split at h
 case h_2=>exact h.elim
 rename_i ν0 _;obtain⟨⟨hk1,hk2,hlen⟩,hfit,hbd,hend⟩:=h;obtain⟨x0,hinv0,hx0,hf0⟩:=w5 hfit;subst hx0;obtain⟨kN,hkN⟩:∃kN:Nat,kN=bw k:=⟨_,rfl⟩
 have hkk:(k:Int)=(kN:Int):=by rw[hkN];exact(vn (bx (by decide) hk1)).symm
 rw[<-hkN]at hbd hend;have hHB:∀pre,an.inv pre->nc an ν0 st1 pre=true/\∀i,pre.length<dD bs.length kN->(vc cx [] body 0 (AR an ν0 st1 bs kN p d pre i) (rK an ν0 st1 K pre i)).holds:=by
  intro pre hp;have:=hbd pre hp;split at this
  ·rename_i e;exact⟨e,fun i hi=>this i hi⟩
  ·exact this.elim
 have hx:=bD hA.env g;rw[hev]at hx;obtain⟨hgv,hcap⟩:=hx;obtain⟨b1,vs1,hl1,hbs1,hheap1,hc1⟩:=(gd.obj n1 _ h1).2;obtain⟨b2,vs2,hl2,hbs2,hheap2,hc2⟩:=(gd.obj n2 _ h2).2;cases hc1 with
 |cons hv1 _ hr1=>
 cases hr1;cases hc2 with
 |cons hv2 _ hr2=>
 cases hr2;rename_i v1 _ v2 _;obtain⟨a0,cap,rfl,hcap1,hsome,hpart⟩:=JQ hv1;obtain⟨rfl,_⟩:=bZ.1 hv2;have hb1:b1<w.heap.size:=(Array.getElem?_eq_some_iff.1 hheap1).1;have hb2:b2<w.heap.size:=(Array.getElem?_eq_some_iff.1 hheap2).1;have hcell1:w.cell? ⟨b1,0,none⟩=some (.slice a0 bs.length cap):=by rw[cell_of_row w b1 _ _ _ (0,0) hheap1];rfl
 have hcell2:w.cell? ⟨b2,0,none⟩=some (.int .i64 kN):=by rw[cell_of_row w b2 _ _ _ (0,0) hheap2,<-hkk];rfl
 obtain⟨tr1,g1⟩:=jC (cx:=cx) gd n1;obtain⟨tr2,g2⟩:=jC (cx:=cx) g1 n2;rw[<-hst1]at tr2 g2;have trS:=tr1.trans tr2;have hlook:∀n oc,look st1.aC n=some oc->n≠n1/\n≠n2/\look st.aC n=some oc:=by
  intro n oc hn;rw[hst1]at hn;simp only[aS,iJ]at hn;split at hn
  ·cases hn
  ·split at hn
   ·cases hn
   ·rename_i e1 e2;exact⟨fun e=>e2 e.symm,fun e=>e1 e.symm,hn⟩
 have hno1:∀{loc' W pre},Tr (aB O st1 loc w) (aB O (eD an ν0 st1 pre) loc' W)->¬(aB O (eD an ν0 st1 pre) loc' W).owns b1:=by
  intro loc' W pre t ho;rcases t.own b1 ho with⟨n,oc,k1,k2⟩|k
  ·obtain⟨e1,_,k3⟩:=hlook n oc k1
   exact e1 (gd.apart n n1 oc _ b1 k3 h1 k2 (by show b1∈((aB O st loc w).loc n1).bs;rw[hbs1];simp))
  ·exact absurd hb1 (bf.2 k)
 have hno2:∀{loc' W pre},Tr (aB O st1 loc w) (aB O (eD an ν0 st1 pre) loc' W)->¬(aB O (eD an ν0 st1 pre) loc' W).owns b2:=by
  intro loc' W pre t ho;rcases t.own b2 ho with⟨n,oc,k1,k2⟩|k
  ·obtain⟨_,e1,k3⟩:=hlook n oc k1
   exact e1 (gd.apart n n2 oc _ b2 k3 h2 k2 (by show b2∈((aB O st loc w).loc n2).bs;rw[hbs2];simp))
  ·exact absurd hb2 (bf.2 k)
 have hgbs:∀b∈X.yu,b<w.heap.size:=fun b hb=>X.AV gd.gl.1 b hb
 have hpartW:∀{loc' W pre} (_:Tr (aB O st1 loc w) (aB O (eD an ν0 st1 pre) loc' W)) i,VR cx.eT EC (cT bs kN i) (aB O (eD an ν0 st1 pre) loc' W).A W (gy a0 bs.length kN i):=fun t i=>
  VR.frame (hpart kN i) (trS.trans t).cell
 have hv0:ji [] a=a:=tE hA.defers;have hplainH:∀{pre},nc an ν0 st1 pre=true->kJ (eD an ν0 st1 pre).aC=true:=fun hB=>by simp only[nc,ai]at hB;exact hB.2.1
 have hO1:∀{W:World},w.heap.size<=W.heap.size->dA O W:=fun hs=>hO.tr hs
 refine wpIn_rangeFunc_ownG (F:=bj) (n:=3) rfl (by decide) (gf:=f) (lb:=#[.pointer (some ⟨b1,0,none⟩),.pointer (some ⟨b2,0,none⟩)]) (by rw[hgv];simp only[List.map];rw[hl1,hl2]) trivial heg
  (hit b1 b2 a0 bs.length cap kN w (Int.ofNat_le.1 (by rw[<-hkk];exact hk1)) (Int.ofNat_le.1 (by rw[<-hkk];exact hk2)) hlen hcap1 hsome hb1 hb2 hcell1 hcell2)
  (fun h k=>⟨k.1.trans h.1,k.2.trans h.2⟩)
  (fun W l o o' hl ho hc _=>⟨World.cell?_of_block (zd (by simp only;omega)),World.cell?_of_block (zd (by simp only;omega))⟩)
  (zq _ _) (fun x=>by rw[<-Array.length_toList (xs:=ps),hps];rfl)
  (fun pre W=>∃loc',an.inv pre/\nc an ν0 st1 pre=true/\Good cx.eT X (aB O (eD an ν0 st1 pre) loc' W)/\en cx.eT (aB O (eD an ν0 st1 pre) loc' W) (eD an ν0 st1 pre).env a/\Tr (aB O st1 loc w) (aB O (eD an ν0 st1 pre) loc' W))
  (fun c pre W=>c=.ret/\∃st' loc',((∃j,pre=ax j)->(K .ret st').holds)/\kJ st'.aC=true/\Good cx.eT X (aB O st' loc' W)/\en cx.eT (aB O st' loc' W) st'.env a/\Tr (aB O st1 loc w) (aB O st' loc' W))
  ?_ ?_ ?_ (fun x=>(a.put (some p) (gy a0 bs.length kN x)).put (some d) (gy a0 bs.length kN x)) ?_ ?_ ?_ ?_
 ·rintro pre A B row ⟨loc',hi,hB,g',he',t'⟩ hg hr
  have bk:=ow.of hg hr;exact⟨loc',hi,hB,sE g' bk (fun n oc hn=>jn (hplainH hB) hn) hgbs,vq he' bk,x5 t' bk (ak _)⟩
 ·rintro c pre A B row ⟨rfl,st',loc',hk,hpl,g',he',t'⟩ hg hr
  have bk:=ow.of hg hr;exact⟨rfl,st',loc',hk,hpl,sE g' bk (fun n oc hn=>jn hpl hn) hgbs,vq he' bk,x5 t' bk (ak _)⟩
 ·have hB:=(hHB [] hinv0).1
  obtain⟨loc2,m1,m2,m3⟩:=w6 (an:=an) (pre:=[]) g2 hA.size hA.defers (fun n v hv=>by
   rw[hst1]at hv;exact(hA.env n v hv).tr trS) (Tr.refl _) (fun n _ v hv=>⟨v,hv,fY v⟩) hf0 hB
  exact⟨loc2,hinv0,hB,m1,m2,m3⟩
 ·intro l x W K' hK'
  refine HU hops hdst hop hgd (fun _=>trivial) ?_;have e:({tmps:=(ps.zip #[gy a0 bs.length kN x]).foldl (fun t (p,v)=>t.setIfInBounds p v) a.tmps,defers:=[]}:Act)=a.put (some p) (gy a0 bs.length kN x):=by
   have:ps= #[p]:=by rw[<-ze (xs:=ps),hps]
   rw[this];refine Eq.trans ?_ (congrArg (fun z:Act=>z.put (some p) (gy a0 bs.length kN x)) hv0);rw[show(#[p]:Array Tmp).zip #[gy a0 bs.length kN x]= #[(p,gy a0 bs.length kN x)] by simp[Array.zip]];rfl
  rw[e];have e2:(a.put (some p) (gy a0 bs.length kN x)).eval (.tmp p)=gy a0 bs.length kN x:=by
   have hp':p<a.tmps.size:=by rw[hA.size];exact hpN
   simp[Act.put,Act.eval,qs,hp']
  rw[e2];exact hK'
 ·rintro l pre x W ⟨loc',hi,hB,g',he',t'⟩ hlt
  have hvc:=(hHB pre hi).2 x hlt;have hpv:=hpartW t' x;have hA1:dR cx (aB O (eD an ν0 st1 pre) loc' W) {eD an ν0 st1 pre with env:=(p,.s (.one (.d EC (cT bs kN x)))) :: (eD an ν0 st1 pre).env} (a.put (some p) (gy a0 bs.length kN x)):=
   dR.put (st:=eD an ν0 st1 pre) ⟨hA.size,hA.defers,he'⟩ (Tr.refl _) rfl hpN hpv
  have hA2:dR cx (aB O (eD an ν0 st1 pre) loc' W) (AR an ν0 st1 bs kN p d pre x) ((a.put (some p) (gy a0 bs.length kN x)).put (some d) (gy a0 bs.length kN x)):=
   dR.put hA1 (Tr.refl _) rfl nf hpv
  have hrun:=sC (n:=3-1-1) (st:=AR an ν0 st1 bs kN p d pre x) hok (F:=bj.inRound l) (.inr ⟨l,rfl⟩) [] body 0 hsb hA2 g' (hO1 t'.size) hvc;rw[tE hA2.defers]at hrun;refine wpIn_mono hrun ?_;rintro e a2 W2 ⟨a',rfl,_,hq⟩;have keeps:∀{st2 loc2},Tr (aB O (eD an ν0 st1 pre) loc' W) (aB O st2 loc2 W2)->KeepsFrom w.heap.size W W2:=fun k3=>
   ⟨k3.size,fun k o hk hko ho=>(k3.block k (Array.getElem?_eq_some_iff.1 hko).1 (zI g' (fun n oc hn=>jn (hplainH hB) hn) hko ho)).trans hko⟩
  cases e with
  |normal=>
   obtain⟨st2,loc2,k1,k2,k3,k4,k5⟩:=hq;obtain⟨x1,i2,hx1,hf1⟩:=w5 k1;subst hx1;have hB2:=(hHB _ i2).1;have hnr:mU an.sF.keep an.sF.refs=true:=by simp only[nc,kH,ai]at hB;exact hB.1.2.2.2
   obtain⟨loc2,m1,m2,m3⟩:=w6 (an:=an) (st':={st2 with env:=(eD an ν0 st1 pre).env}) (pre:=pre++[x]) k2 hA.size hA.defers (he'.tr k3) (t'.trans k3) (fun n hn v hv=>⟨v,JR (an:=an.sF) rfl hnr hn hv,fY v⟩) hf1 hB2;exact⟨keeps k3,⟨World.cell?_of_block (k3.block b1 (br hb1 t'.size) (hno1 t')),World.cell?_of_block (k3.block b2 (br hb2 t'.size) (hno2 t'))⟩,loc2,i2,hB2,m1,m2,m3⟩
  |ret=>
   obtain⟨st2,loc2,k1,k2,k3,k4,k5⟩:=hq;simp only[rK]at k1;split at k1
   ·rename_i hpl
    exact⟨keeps k3,rfl,_,loc2,fun⟨j,hj⟩=>k1 (by
     cases j with
     |zero=>simp at hj
     |succ j=>
      rw[oi]at hj;obtain⟨e1,e2⟩:=List.append_inj' hj rfl;simp at e2;rw[e2];exact e1),hpl,k2,he'.tr k3,t'.trans k3⟩
   ·exact k1.elim
  |exit i=>obtain⟨_,_,k1,_⟩:=hq;exact k1.elim
  |goto l=>exact hq.elim
  |panic c=>exact hq.elim
  |outgrown=>exact hq.elim
 ·rintro D xs W hD rfl ⟨loc',hi,hB,g',he',t'⟩ hm
  refine⟨D,_,loc',⟨?_,hend hi,g',trS.trans t',he',hD,hm,hplainH hB⟩⟩;rw[hA.defers];rfl
 ·rintro D c pre W hD hsp ⟨rfl,st',loc',hk,hpl,g',he',t'⟩ hm
  refine wpIn_ret ⟨D,st',loc',⟨?_,hk hsp,g',trS.trans t',he',hD,hm,hpl⟩⟩;rw[hA.defers];rfl
end
def ED(cx:Cx)(it:FuncId)(ra:List (Nat×(St->iv))):Code->St->(Ex->St->VC)->VC
 |.seq a b,st,K=>match gH b with
  |true=>ED cx it ra a st fun e st'=>match e with
   |.normal=>vc cx [] b 0 st' K
   |e=>K e st'
  |false=>match gH a with
   |true=>vc cx [] a 0 st fun e st'=>match e with
    |.normal=>ED cx it ra b st' K
    |e=>K e st'
   |false =>.ff
 |.block id (.rangeFunc g ps asg body),st,K=>match tD ps.toList asg,look ra id with
  |some (p,d),some r=>match Nat.blt p cx.N&&(Nat.blt d cx.N&&gH body)with
   |true=>JP cx it r g p d body st K
   |false =>.ff
  |_,_ =>.ff
 |_,_,_ =>.ff
def KL(cx:Cx)(it:FuncId)(ra:List (Nat×(St->iv)))(res:List ResultVar)(c:Code)(st:St)(K:List bT->St->VC):VC:=
 ED cx it ra c st fun e st'=>match e with
  |.exit _ =>.ff
  |_=>match kJ st'.aC with
   |true=>mI cx st' res fun vs=>K vs st'
   |false =>.ff
def M3:Exit->Option Ex
 |.normal=>some .normal
 |.exit n=>some (.exit n)
 |.ret=>some .ret
 |_=>none
def pV(B:Nat)(S:aY)(ds:List Deferred):Prop:=ds=[]\/∃D,ds=[Gc D]/\B<=D/\S.w.heap[D]?=some (.deferred (some []))/\¬S.owns D
section
variable{X:Ext}{P:Program}{cx:Cx}
def pV.tr{B:Nat}{S S':aY}{ds:List Deferred}(h:pV B S ds)(t:Tr S S'):pV B S' ds:=by
 rcases h with h|⟨D,h1,h2,h3,h4⟩
 ·exact .inl h
 ·have hlt:D<S.w.heap.size:=(Array.getElem?_eq_some_iff.1 h3).1
  exact .inr ⟨D,h1,h2,(t.block D hlt h4).trans h3,fun ho=>(t.own D ho).elim h4 fun h=>absurd hlt (bf.2 h)⟩
structure JT (cx:Cx) (X:Ext) (O:aD) (K:St->VC) (S:aY) (a':Act) (w':World) (ds:List Deferred) (a2:Act) (st':St) (loc':Nat->Loc):Prop where
 act:a'=ji ds a2
 rel:dR cx (aB O st' loc' w') st' a2
 vc:(K st').holds
 fT:Good cx.eT X (aB O st' loc' w')
 tr:Tr S (aB O st' loc' w')
 marks:pV S.w.heap.size (aB O st' loc' w') ds
def QE(cx:Cx)(X:Ext)(O:aD)(K:Ex->St->VC)(S:aY):Exit->Act->World->Prop:=fun e a' w'=>∃x,M3 e=some x/\∃ds a2 st' loc',JT cx X O (K x) S a' w' ds a2 st' loc'
def Ge{O:aD}{K:Ex->St->VC}{W:List Nat}{st1:St}{S0 S1:aY}{ds:List Deferred}(t:Tr S0 S1)(hm:pV S0.w.heap.size S1 ds){e:Exit}{a:Act}{w:World}(h:uA ds (fE cx X O K W st1 S1) e a w):QE cx X O K S0 e a w:=by
 obtain⟨a',rfl,hb,hq⟩:=h;cases e with
 |normal=>obtain⟨st',loc',k1,k2,k3,k4,_⟩:=hq;exact⟨_,rfl,ds,a',st',loc',rfl,k4,k1,k2,t.trans k3,hm.tr k3⟩
 |exit i=>obtain⟨st',loc',k1,k2,k3,k4,_⟩:=hq;exact⟨_,rfl,ds,a',st',loc',rfl,k4,k1,k2,t.trans k3,hm.tr k3⟩
 |ret=>obtain⟨st',loc',k1,k2,k3,k4,_⟩:=hq;exact⟨_,rfl,ds,a',st',loc',rfl,k4,k1,k2,t.trans k3,hm.tr k3⟩
 |goto l=>exact hq.elim
 |panic c=>exact hq.elim
 |outgrown=>exact hq.elim
def QE.mono{O:aD}{K:Ex->St->VC}{S0 S1:aY}(t:Tr S0 S1){e:Exit}{a:Act}{w:World}(h:QE cx X O K S1 e a w):QE cx X O K S0 e a w:=by
 obtain⟨x,hx,ds,a2,st',loc',q⟩:=h;refine⟨x,hx,ds,a2,st',loc',q.act,q.rel,q.vc,q.fT,t.trans q.tr,?_⟩;rcases q.marks with h|⟨D,h1,h2,h3⟩
 ·exact .inl h
 ·exact .inr ⟨D,h1,bh t.size h2,h3⟩
def HV(hok:ik P cx X){it:FuncId}(hit:pU P it)(heg:∀args w,(callFunc it args).run P w=.ok (.enter it args) w){O:aD}(ra:List (Nat×(St->iv))):∀(c:Code) {st:St} {loc:Nat->Loc} {w:World} {a:Act} {K:Ex->St->VC},
  dR cx (aB O st loc w) st a->Good cx.eT X (aB O st loc w)->dA O w->(ED cx it ra c st K).holds->c.wpIn bj 3 P (QE cx X O K (aB O st loc w)) a w:=by
 intro c;induction c with
 |seq c1 c2 ih1 ih2=>
  intro st loc w a K hA g hO h;simp only[ED]at h;split at h
  ·rename_i hs2
   refine wpIn_seq (wpIn_mono (ih1 hA g hO h) ?_);rintro e a1 w1 ⟨x,hx,ds,a2,st',loc',q⟩;cases e with
   |normal=>
    cases hx;obtain⟨rfl,q2,q3,q4,q5,q6⟩:=q;exact wpIn_mono (sC (n:=3) hok (F:=bj) (.inl rfl) ds c2 0 hs2 q2 q4 (hO.tr q5.size) q3) fun e a w hq=>Ge q5 q6 hq
   |exit i=>cases hx;exact⟨_,rfl,ds,a2,st',loc',q⟩
   |ret=>cases hx;exact⟨_,rfl,ds,a2,st',loc',q⟩
   |goto l=>cases hx
   |panic c=>cases hx
   |outgrown=>cases hx
  ·split at h
   ·rename_i hs1
    have hr:=sC (n:=3) hok (F:=bj) (.inl rfl) [] c1 0 hs1 hA g hO h;rw[tE hA.defers]at hr;refine wpIn_seq (wpIn_mono hr ?_);rintro e a1 w1 hq;cases e with
    |normal=>
     obtain⟨a',rfl,hb,st',loc',k1,k2,k3,k4,_⟩:=hq;show c2.wpIn _ _ _ _ (ji [] a') w1;rw[tE hb];exact wpIn_mono (ih2 k4 k2 (hO.tr k3.size) k1) fun e a w hq=>hq.mono k3
    |exit i=>exact Ge (K:=K) (Tr.refl _) (.inl rfl) hq
    |ret=>exact Ge (K:=K) (Tr.refl _) (.inl rfl) hq
    |goto l=>exact hq.choose_spec.2.2.elim
    |panic c=>exact hq.choose_spec.2.2.elim
    |outgrown=>exact hq.choose_spec.2.2.elim
   ·exact h.elim
 |block id b ih=>
  intro st loc w a K hA g hO h;cases b with
  |rangeFunc gf ps asg body=>
   simp only[ED]at h;split at h
   ·rename_i p d r hsh _
    split at h
    ·rename_i hb
     simp only[ai]at hb;refine wpIn_block (wpIn_mono (JS hok hit heg r hsh hb.2.2 (jb hb.1) (jb hb.2.1) hA g hO h) ?_);have fin:∀{x:Ex} {a':Act} {w':World},(∃D st' loc',Gd cx X O (K x) (aB O st loc w) a a' w' D st' loc')->∃ds a2 st' loc',JT cx X O (K x) (aB O st loc w) a' w' ds a2 st' loc':=by
      rintro x a' w' ⟨D,st',loc',q⟩;exact⟨[Gc D],a,st',loc',q.act,⟨hA.size,hA.defers,q.env⟩,q.vc,q.fT,q.tr,.inr ⟨D,rfl,q.Na,q.mark,zI q.fT (fun n oc hn=>jn q.plain hn) q.mark rfl⟩⟩
     intro e a' w' hq;cases e with
     |normal=>exact⟨_,rfl,fin hq⟩
     |ret=>exact⟨_,rfl,fin hq⟩
     |exit i=>exact hq.elim
     |goto l=>exact hq.elim
     |panic c=>exact hq.elim
     |outgrown=>exact hq.elim
    ·exact h.elim
   ·exact h.elim
  |_=>exact h.elim
 |_=>intro st loc w a K hA g hO h;exact h.elim
def HW(hok:TyOK P cx){O:aD}{st:St}{loc:Nat->Loc}{w:World}{a:Act}(g:Good cx.eT X (aB O st loc w))(he:en cx.eT (aB O st loc w) st.env a){fn:Func}{K:List bT->VC}(h:(mI cx st fn.results.toList K).holds) :
  ∃vs us,(K vs).holds/\bW cx.eT (aB O st loc w) vs us/\(results fn a.tmps).run P w=.ok (qD us) w:=by
 obtain⟨vs,us,m1,m2,m3⟩:=ud (P:=P) hok g he h;refine⟨vs,us,m1,m2,?_⟩;have hm:(fn.results.mapM (oe a.tmps):Sem (Array Value)).run P w=.ok us.toArray w:=by
  rw[<-ze (xs:=fn.results),List.mapM_toArray,Sem.run_map,m3];rfl
 have he:results fn a.tmps=(do
   let xs <-fn.results.mapM (oe a.tmps)
   return if h:xs.size=1 then xs[0]else .tuple xs):=by
  unfold results;congr 1
 rw[he,Sem.run_bind,hm];simp only[u0,Sem.run_pure]
 match us with
 |[]=>rfl
 |[u]=>rfl
 |_ :: _ :: _=>rfl
def Ci(hok:ik P cx X){it:FuncId}(hit:pU P it)(heg:∀args w,(callFunc it args).run P w=.ok (.enter it args) w){f:FuncId}{fn:Func}{c:Code}(hf:P.funcs[f]?=some fn)(hb:fn.body=some c)(hN:cx.N=fn.ntmps)(ra:List (Nat×(St->iv))){O:aD}{st:St}{loc:Nat->Loc}{w:World}
  {args:Array Value}{K:List bT->St->VC}(hsz:args.size<=fn.ntmps)(g:Good cx.eT X (aB O st loc w))(hO:dA O w)
  (henv:∀t sv,look st.env t=some sv->∃v,args[t]?=some v/\cR cx.eT (aB O st loc w) sv v)
  (h:(KL cx it ra fn.results.toList c st K).holds) :
  Calls P f args w fun e w'=>∃vs us st' loc',e=.returned (qD us)/\(K vs st').holds/\bW cx.eT (aB O st' loc' w') vs us/\Good cx.eT X (aB O st' loc' w')/\Tr (aB O st loc w) (aB O st' loc' w'):=by
 refine callsIn_wide.1 (callsIn_of_wp_marks (n:=3) hf hb trivial ?_);have hA:dR cx (aB O st loc w) st {tmps:=args++Array.replicate (fn.ntmps-args.size) undef,defers:=[]}:=by
  refine⟨by simp[hN];omega,rfl,fun t sv ht =>?_⟩;obtain⟨v,hv,hr⟩:=henv t sv ht;have hlt:t<args.size:=by
   rcases cm t args.size with hh|hh
   ·exact hh
   ·rw[Array.getElem?_eq_none hh]at hv;cases hv
  rw[qs,Array.getElem?_append,if_pos hlt,hv];exact hr
 refine wpIn_mono (HV hok hit heg ra c hA g hO h) ?_;have fin:∀{a':Act} {w':World} {ds:List Deferred} {a2:Act} {st':St} {loc':Nat->Loc},JT cx X O (fun st'=>match kJ st'.aC with
   |true=>mI cx st' fn.results.toList fun vs=>K vs st'
   |false =>.ff) (aB O st loc w) a' w' ds a2 st' loc'->
   LeavesInM bj 3 P fn a'.tmps (fun e w'=>∃vs us st' loc',e=.returned (qD us)/\(K vs st').holds/\bW cx.eT (aB O st' loc' w') vs us/\Good cx.eT X (aB O st' loc' w')/\Tr (aB O st loc w) (aB O st' loc' w')) a'.defers .returning w':=by
  rintro a' w' ds a2 st' loc' ⟨rfl,q2,q3,q4,q5,q6⟩;split at q3
  case h_2=>exact q3.elim
  rename_i hpl;rcases q6 with rfl|⟨D,rfl,k1,k2,k3⟩
  ·obtain⟨vs,us,m1,m2,m3⟩:=HW hok.toTyOK q4 q2.env q3
   exact⟨_,m3,vs,us,st',loc',rfl,m1,m2,q4,q5⟩
  ·have bk:ow w.heap.size w' (w'.putObj D (.deferred none)):=ow.of (grownBy_putObj' w' D _) (fun r e=>by cases e;exact⟨k1,_,k2,rfl⟩)
   have g':Good cx.eT X (aB O st' loc' (w'.putObj D (.deferred none))):=sE q4 bk (fun n oc hn=>jn hpl hn) (fun b hb=>X.AV g.gl.1 b hb);have t':Tr (aB O st loc w) (aB O st' loc' (w'.putObj D (.deferred none))):=x5 q5 bk (ak _);have e':en cx.eT (aB O st' loc' (w'.putObj D (.deferred none))) st'.env a2:=vq q2.env bk;obtain⟨vs,us,m1,m2,m3⟩:=HW hok.toTyOK g' e' q3;refine⟨by simp,.inl ⟨D,_,rfl,run_takeDeferred k2,?_⟩⟩;exact⟨_,m3,vs,us,st',loc',rfl,m1,m2,g',t'⟩
 rintro e a' w' ⟨x,hx,ds,a2,st',loc',q⟩;cases e with
 |normal=>cases hx;exact fin q
 |ret=>cases hx;exact fin q
 |exit i=>cases hx;exact q.vc.elim
 |goto l=>cases hx
 |panic c=>cases hx
 |outgrown=>cases hx
variable{aG:List Ob}{args:List Cl}
def x6(B:Cx)(Γ:List (FuncId×(Bool×bA)))(it:FuncId)(fn:Func)(ra:List (Nat×(St->iv)))(aG:List Ob)(args:List Cl)(alts:List (Alt aG args))(a:CD args)(x:PD aG):VC:=
 KL (nu B Γ fn.ntmps) it ra fn.results.toList (codeOf fn) (gC aG args a x) fun vs st'=>oP a x vs st' alts
def x7{B:Cx}{Γ:List (FuncId×(Bool×bA))}(hok:bU P B X Γ){it:FuncId}(hit:pU P it){fi:Func}(hfi:P.funcs[it]?=some fi)(hgi:lS fi 3=true){f:FuncId}{fn:Func}(hf:P.funcs[f]?=some fn)(hg:lS fn args.length=true)(ra:CD args->PD aG->List (Nat×(St->iv)))
  {pre:CD args->PD aG->Prop}{alts:List (Alt aG args)}(h:∀a x,gr args a->pre a x->(x6 B Γ it fn (ra a x) aG args alts a x).holds) :
  cF P B.eT X f false (bF aG args pre alts):=by
 simp only[lS,ai,ck]at hg hgi;obtain⟨⟨h1,h2⟩,h3⟩:=hg;obtain⟨c,hc⟩:=h9.1 h1;have heg:∀args w,(callFunc it args).run P w=.ok (.enter it args) w:=fun args w=>rR hfi (by obtain⟨ci,hci⟩:=h9.1 hgi.1.1;rw[hci];rfl) hgi.1.2 args w
 refine⟨⟨fn,hf,by rw[hc];rfl,h2⟩,fun O st loc w asg vs K hK g hO ha =>?_⟩;unfold bF at hK;obtain⟨t1,g1,e1,k1⟩:=qH args asg g;simp only at hK;split at hK
 case h_2=>exact hK.elim
 rename_i ν hν;split at hK
 case h_2=>exact hK.elim
 rename_i a x hnd hga hx;obtain⟨hp,hpre,hK⟩:=u7 hK;obtain⟨hp1,hp2⟩:=fy.1 hp;refine(yV (f:=f) (B:=B) (pre:=pre) g1 hO (k1 vs ha) hnd hga hx hp1 hp2 hpre hK fun hwf O' loc0 g0 hOin' hargs hlen =>?_).mono ?_
 ·have hcode:codeOf fn=c:=by unfold codeOf;rw[hc];rfl
  have hvc:=h a x hwf hpre;unfold x6 at hvc;rw[hcode]at hvc;exact Ci (X:=X) (hok fn.ntmps) hit heg hf hc (by rfl) (ra a x) (O:=O') (loc:=loc0) (w:=w) (args:=vs.toArray) (st:=gC aG args a x)
   (by rw[h8,hlen];exact ti h3) g0 hOin'
   (fun t sv ht=>by
    obtain⟨_,v,k1,k2⟩:=pc 0 hargs t sv ht;exact⟨v,by simpa using k1,k2⟩) hvc
 ·rintro e w' ⟨v,sv,st',loc',q1,q2,q3,q4,q5,q6⟩
  exact⟨v,sv,st',loc',q1,q2,q3.trans e1,(fun hq=>by cases hq),q4,t1.trans q5,q6⟩
end
end Go.Vg

namespace Go.Mrl
open Go.Vg
def dm(l:List (D aA))(s:aF):Int:=match l.findIdx? (fun e=>decide (e.1=s))with
 |some i=>(i:Int)
 |none =>-1
def l7{l:List (D aA)}{s:aF}(h:∀j,j<l.length->(nth aA l j).1≠s):dm l s= -1:=by
 unfold dm;rw[List.findIdx?_eq_none_iff.2 fun e he=>by
  obtain⟨j,hj,rfl⟩:=iq (t:=aA) he;exact decide_eq_false (h j hj)]
def qR{l:List (D aA)}{s:aF}{i:Nat}(hi:i<l.length)(h:∀j,j<i->(nth aA l j).1≠s)(he:(nth aA l i).1=s):dm l s=(i:Int):=by
 unfold dm;have hn:∀j (hj:j<l.length),l[j]=nth aA l j:=fun j hj=>by unfold nth;rw[List.getD_eq_getElem?_getD,List.getElem?_eq_getElem hj];rfl
 rw[(List.findIdx?_eq_some_iff_getElem (xs:=l) (p:=fun e=>decide (e.1=s)) (i:=i)).2 ⟨hi,by rw[hn i hi];exact decide_eq_true he,fun j hj=>by
  rw[hn j (by omega)];simp only[decide_eq_true_eq];exact h j hj⟩]
def qS(n:Int):Int:=b7 .u8 n
def fU(n:Int):aF:=bytesOf [qS n,qS (n.fdiv (2^8)),qS (n.fdiv (2^16)),qS (n.fdiv (2^24))]
def cV(a b:Int):aF:=[83]++fU a++fU b
def oS(n:Int):(fU n).length=4:=by simp[fU,bytesOf]
def ng(a b:Int):(cV a b).length=9:=by simp[cV,oS]
def HX(a b:Int):Int:=b7 .i64 (bm cn.bits a ||| bm cn.bits b).toNat
def HY(a:Int)(n:Nat):Int:=b7 .i64 (a*2^n)
def fl(s:aF):Int:=HX (HX (HX ((cM s 0).toNat:Int) (HY ((cM s 1).toNat:Int) 8)) (HY ((cM s 2).toNat:Int) 16)) (HY ((cM s 3).toNat:Int) 24)
def iw:List (D aA)->Int
 |[]=>0
 |e :: r=>if aL e≠0 then aL e else iw r
def cI(l:List (D aA)):aF:=l.flatMap dS
def cW(l:List (D aA)):aF×aQ:=if iw l≠0 then([],aJ (iw l))else(cI l,.nil)
def EE:∀{l:List (D aA)} {i:Nat},(∀j,j<i->aL (nth aA l j)=0)->i<l.length->aL (nth aA l i)≠0->iw l=aL (nth aA l i)
 |[],i,_,h,_=>by simp at h
 |e :: r,0,_,_,h=>by unfold iw;rw[if_pos (show aL e≠0 from h)];rfl
 |e :: r,i+1,h,h1,h2=>by
  unfold iw;rw[if_neg (by have:=h 0 (by omega);exact not_not_intro this)];exact EE (l:=r) (i:=i) (fun j hj=>h (j+1) (by omega)) (by simpa using h1) h2
def zL:∀{l:List (D aA)},(∀j,j<l.length->aL (nth aA l j)=0)->iw l=0
 |[],_=>rfl
 |e :: r,h=>by
  unfold iw;rw[if_neg (by have:=h 0 (by simp);exact not_not_intro this)];exact zL (l:=r) fun j hj=>h (j+1) (by simp;omega)
def Cj:∀{l:List (D aA)},iw l=0->∀e∈l,aL e=0
 |[],_,_,h=>by simp at h
 |e :: r,hb,x,hx=>by
  unfold iw at hb;split at hb
  ·rename_i h;exact absurd hb h
  ·rename_i h
   rcases aq.1 hx with rfl|hx
   ·exact hL.1 h
   ·exact Cj hb x hx
def HZ{l:List (D aA)}{i:Nat}(h:i<l.length):cI (l.take (i+1))=cI (l.take i)++dS (nth aA l i):=by
 unfold cI;rw[gZ (t:=aA) h];simp
def H0{e:D aA}(h:aL e=0):(dS e).length<=2753:=by
 have:=(jg h).F1 e.2.2.1.length;unfold dS nH;rw[aj];simp;omega
def vr:∀{l:List (D aA)},(∀e∈l,aL e=0)->(cI l).length<=2753*l.length
 |[],_=>by simp[cI]
 |e :: r,h=>by
  have h1:=H0 (h e (by simp));have h2:=vr (l:=r) fun x hx=>h x (by simp[hx])
  have h3:cI (e :: r)=dS e++cI r:=rfl;rw[h3,aj,ao];omega
def H2{l:List (D aA)}{i:Nat}(hq:∀j,j<i->aL (nth aA l j)=0)(hi:i<l.length)(h:(cO (nth aA l i)).2.isNil=false):([],(cO (nth aA l i)).2)=cW l:=by
 have hf:aL (nth aA l i)≠0:=fun e=>by rw[Ce,e]at h;cases h
 unfold cW;rw[EE hq hi hf,if_pos hf,Ce]
def JU{l:List (D aA)}{i:Nat}(hq:∀j,j<i->aL (nth aA l j)=0)(hi:¬i<l.length):(cI (l.take i),aQ.nil)=cW l:=by
 unfold cW;rw[zL fun j hj=>hq j (by omega),if_neg (by decide),kl (by omega)]
def H3{l:List (D aA)}{i:Nat}(h:i<l.length)(ht:(cO (nth aA l i)).2.isNil=true):cI (l.take (i+1))=cI (l.take i)++(cO (nth aA l i)).1:=by
 rw[HZ h,(qO ht).2]
def H4{l:List (D aA)}{i:Nat}(hl:l.length<=100)(hi:i<l.length)(hq:∀j,j<i->aL (nth aA l j)=0):(cI (l.take i)).length<=275300:=by
 have h1:∀e∈l.take i,aL e=0:=fun e he=>by
  obtain⟨j,hj,rfl⟩:=iq (t:=aA) he;rw[cw]at hj;rw[Jz (t:=aA) (by omega)];exact hq j (by omega)
 have h2:=vr h1;rw[cw]at h2;omega
def gb(bs:List Int):Dk->Int->List Nat->Dk×Int
 |d,_,[]=>(d,0)
 |d,s,i :: r=>if(bB d s (bytesOf (cT (t:=.int .u8) bs 64 i))).2=0 then gb bs (bB d s (bytesOf (cT (t:=.int .u8) bs 64 i))).1 (s+1) r else bB d s (bytesOf (cT (t:=.int .u8) bs 64 i))
def Ck(bs:List Int)(i:Nat):∀(pre:List Nat) (d:Dk) (s:Int),(gb bs d s pre).2=0->
  gb bs d s (pre++[i])=bB (gb bs d s pre).1 (s+pre.length) (bytesOf (cT (t:=.int .u8) bs 64 i))
 |[],d,s,_=>by
  simp only[ks,gb,hI];rw[show s+((0:Nat):Int)=s by omega];split
  ·rename_i h
   exact cy rfl h.symm
  ·rfl
 |j :: r,d,s,h=>by
  simp only[cr,gb]at h ⊢;split
  ·rename_i h1
   rw[if_pos h1]at h;rw[Ck bs i r _ _ h,ao];congr 1;omega
  ·rename_i h1
   rw[if_neg h1]at h;exact absurd h h1
structure bO (d:Dk) (m:Nat):Prop where
 gB : -1<=(d.1.1:Int)
 gT:d.2.2.2.1.length<=m
 len:d.2.1.length=d.2.2.1.length
def bO.mono{d:Dk}{m m':Nat}(h:bO d m)(hm:m<=m'):bO d m':=⟨h.gB,bh h.gT hm,h.len⟩
def oT{d:Dk}{m:Nat}(h:bO d m):bO (stepOf d).1 m:=by
 unfold stepOf;split
 ·exact h
 ·split
  ·exact⟨b5 _,h.gT,h.len⟩
  ·refine⟨?_,h.gT,h.len⟩
   have:=h.gB;show -1<=(if 0<d.1.1 then d.1.1-1 else d.1.1);split <;> omega
def iX{d:Dk}{m:Nat}(h:bO d m)(a:Int)(s:aF):bO (bB d a s).1 (m+1):=by
 unfold bB;split
 ·exact h.mono (by omega)
 ·split
  ·refine⟨(oT h).gB,?_,?_⟩
   ·show(d.2.2.2.1++[(a,cB s,())]).length<=m+1
    rw[aj];have:=h.gT;simp;omega
   ·show d.2.1.length=(d.2.2.1.set a.toNat (cB s)).length
    rw[au];exact h.len
  ·exact(oT h).mono (by omega)
def nI{d:Dk}{m:Nat}(h:bO d m):bO (bC d).1 m:=by
 unfold bC;split
 ·exact⟨(oT h).gB,a8 _,rfl⟩
 ·exact oT h
def Cm(bs:List Int):∀(pre:List Nat) {d:Dk} {s:Int} {m:Nat},bO d m->bO (gb bs d s pre).1 (m+pre.length)
 |[],_,_,_,h=>h
 |i :: r,d,s,m,h=>by
  simp only[gb];split
  ·exact(Cm bs r (iX h _ _)).mono (by simp;omega)
  ·exact(iX h _ _).mono (by simp)
def eH(l:List (D aA))(r:Int)(d:Dk)(pre:List Nat):Dk×Int:=gb (aZ (cW l).1) d (2+(r+1).tmod 2*55) pre
def de(l:List (D aA)):List Nat:=ax (dD (aZ (cW l).1).length 64)
def pW(l:List (D aA))(r:Int)(d:Dk):Dk×Int:=bC (eH l r d (de l)).1
def nh(l:List (D aA))(r:Int)(d:Dk):Dk×Int:=bB (pW l r d).1 ((r+1).tmod 2) (cV (r+1) (cW l).1.length)
def bV(d:Dk)(r:Int)(l:List (D aA)):Dk×Int:=
 if iw l≠0 then(d,iw l)
 else if(eH l r d (de l)).2≠0 then eH l r d (de l)
 else if(pW l r d).2≠0 then pW l r d
 else if(nh l r d).2≠0 then nh l r d
 else bC (nh l r d).1
def KM{r:Int}(h:0<=r):0<=(r+1).tmod 2/\(r+1).tmod 2<=1:=by rw[b8 (by omega)];omega
def zM{l:List (D aA)}(h:l.length<=100):(cW l).1.length<=275300:=by
 unfold cW;split
 ·simp
 ·rename_i hb
  have:=vr (Cj (hL.1 hb));show(cI l).length<=275300;omega
def ni{l:List (D aA)}(h:(cW l).2.isNil=true):(cW l).2=.nil/\iw l=0:=by
 unfold cW at h ⊢;split at h
 ·rename_i hb;exact absurd (bK.1 h) hb
 ·rename_i hb;rw[if_neg hb];exact⟨rfl,hL.1 hb⟩
def Cn{l:List (D aA)}{r:Int}{d:Dk}(h:bO d 1000000)(pre:List Nat):bO (eH l r d pre).1 (1000000+pre.length):=Cm _ pre h
def qT{l:List (D aA)}(h:l.length<=100):dD (aZ (cW l).1).length 64<=5000:=by
 have:=zM h;unfold dD;rw[aZ,cz];omega
def H5{l:List (D aA)}(d:Dk)(r:Int)(h:(cW l).2.isNil=false):bV d r l=(d,iw l)/\iw l≠0/\(cW l).2=aJ (iw l):=by
 have hb:iw l≠0:=fun e=>by unfold cW at h;rw[if_neg (not_not_intro e)]at h;cases h
 exact⟨by unfold bV;rw[if_pos hb],hb,by unfold cW;rw[if_pos hb]⟩
def ox{l o:List (D aA)}{d:Dk}{r:Int}{z:Dk×Int}(hk:bV d r l=z)(hz:z.2≠0) :
  (((r,o,()),z.1):(Int×List (D aA)×Unit)×Dk)=(if(bV d r l).2=0 then(r+1,l,())else(r,o,()),(bV d r l).1)/\(aJ z.2,())=(aJ (bV d r l).2,()):=by
 rw[hk,if_neg hz];exact⟨rfl,rfl⟩
def H6{l o:List (D aA)}{d:Dk}{r:Int}{z:Dk×Int}(hk:bV d r l=z)(hz:z.2=0) :
  (((r+1,l,()),z.1):(Int×List (D aA)×Unit)×Dk)=(if(bV d r l).2=0 then(r+1,l,())else(r,o,()),(bV d r l).1)/\(aJ z.2,())=(aJ (bV d r l).2,()):=by
 rw[hk,if_pos hz];exact⟨rfl,rfl⟩
def Co(bs:List Int)(i:Nat)(rest:List Nat):∀(pre:List Nat) (d:Dk) (s:Int),(gb bs d s pre).2=0->(bB (gb bs d s pre).1 (s+pre.length) (bytesOf (cT (t:=.int .u8) bs 64 i))).2≠0->
  gb bs d s (pre++i :: rest)=bB (gb bs d s pre).1 (s+pre.length) (bytesOf (cT (t:=.int .u8) bs 64 i))
 |[],d,s,_,h=>by
  simp only[ks,gb,hI]at h ⊢;rw[show s+((0:Nat):Int)=s by omega]at h ⊢;rw[if_neg h]
 |j :: r,d,s,h,h2=>by
  simp only[cr,gb]at h h2 ⊢;by_cases h1:(bB d s (bytesOf (cT (t:=.int .u8) bs 64 j))).2=0
  ·simp only[if_pos h1]at h h2 ⊢
   rw[ao,show s+((r.length+1:Nat):Int)=s+1+(r.length:Int) by omega]at h2 ⊢;exact Co bs i rest r _ _ h h2
  ·rw[if_neg h1]at h
   exact absurd h h1
def JV{i m:Nat}(h:i<m):∃rest,ax m=ax i++i :: rest:=by
 obtain⟨b,rfl⟩:∃b,m=i+(b+1):=⟨m-i-1,by omega⟩
 rw[List.range_add,List.range_succ_eq_map];exact⟨_,by simp only[bd,k8];rfl⟩
def Gf{l:List (D aA)}{d:Dk}{r:Int}{pre:List Nat}{i:Nat}(h0:(cW l).2.isNil=true)(hp:(eH l r d pre).2=0)(e:pre=ax i)(hi:pre.length<dD (aZ (cW l).1).length 64)
  (hw:(bB (eH l r d pre).1 (2+(r+1).tmod 2*55+(pre.length:Int)) (bytesOf (cT (t:=.int .u8) (aZ (cW l).1) 64 i))).2≠0) :
  bV d r l=bB (eH l r d pre).1 (2+(r+1).tmod 2*55+(pre.length:Int)) (bytesOf (cT (t:=.int .u8) (aZ (cW l).1) 64 i)):=by
 have hil:i<dD (aZ (cW l).1).length 64:=by rw[e,hR]at hi;exact hi
 obtain⟨rest,hr⟩:=JV hil;have hall:eH l r d (de l)=bB (eH l r d pre).1 (2+(r+1).tmod 2*55+(pre.length:Int)) (bytesOf (cT (t:=.int .u8) (aZ (cW l).1) 64 i)):=by
  unfold eH de;rw[hr,<-e];exact Co _ i rest pre d _ hp hw
 unfold bV;rw[if_neg (not_not_intro (ni h0).2),hall,if_pos hw]
def Cp{l:List (D aA)}{d:Dk}{r:Int}{pre:List Nat}(i:Nat)(hp:(eH l r d pre).2=0) :
  eH l r d (pre++[i])=bB (eH l r d pre).1 (2+(r+1).tmod 2*55+(pre.length:Int)) (bytesOf (cT (t:=.int .u8) (aZ (cW l).1) 64 i)):=Ck _ i pre d _ hp
def Lk{l:List (D aA)}{d:Dk}{r:Int}(h0:(cW l).2.isNil=true)(hp:(eH l r d (de l)).2=0)(hf:(pW l r d).2≠0):bV d r l=pW l r d:=by
 unfold bV;rw[if_neg (not_not_intro (ni h0).2),if_neg (not_not_intro hp),if_pos hf]
def Ll{l:List (D aA)}{d:Dk}{r:Int}(h0:(cW l).2.isNil=true)(hp:(eH l r d (de l)).2=0)(hf:(pW l r d).2=0)(hh:(nh l r d).2≠0):bV d r l=nh l r d:=by
 unfold bV;rw[if_neg (not_not_intro (ni h0).2),if_neg (not_not_intro hp),if_neg (not_not_intro hf),if_pos hh]
def zN{l:List (D aA)}{d:Dk}{r:Int}(h0:(cW l).2.isNil=true)(hp:(eH l r d (de l)).2=0)(hf:(pW l r d).2=0)(hh:(nh l r d).2=0):bV d r l=bC (nh l r d).1:=by
 unfold bV;rw[if_neg (not_not_intro (ni h0).2),if_neg (not_not_intro hp),if_neg (not_not_intro hf),if_neg (not_not_intro hh)]
def vt{l:List (D aA)}{r:Int}{d:Dk}(hl:l.length<=100)(h:bO d 1000000):bO (eH l r d (de l)).1 1005000:=
 (Cn h (de l)).mono (by have:=qT hl;unfold de;rw[hR];omega)
abbrev Sh:=(Int×List (D aA)×Unit)×Dk
def jw(x:Sh)(l:List (D aA)):Sh×Int:=((if(bV x.2 x.1.1 l).2=0 then(x.1.1+1,l,())else x.1,(bV x.2 x.1.1 l).1),(bV x.2 x.1.1 l).2)
def oU(l:List (D aA))(e:D aA):Option (List (D aA)):=if 0<=dm l e.1 then some (l.set (dm l e.1).toNat e)else if l.length=3 then none else some (l++[e])
def bY(x:Sh)(e:D aA):Sh×Int:=
 if aL e≠0 then(x,aL e)else match oU x.1.2.1 e with
  |none=>(x,2)
  |some l=>jw x l
def gz(l:List (D aA))(s:aF):D aA×Bool:=if 0<=dm l s then(nth aA l (dm l s).toNat,true)else(cE aA,false)
def dY(x:Sh)(s:aF):Sh×Int:=
 if 0<=dm x.1.2.1 s then jw x (x.1.2.1.eraseIdx (dm x.1.2.1 s).toNat)else(x,5)
def mw(l:List (D aA))(s:aF):dm l s<l.length/\-1<=dm l s:=by
 unfold dm;split
 ·rename_i i h
  obtain⟨h1,_⟩:=List.findIdx?_eq_some_iff_getElem.1 h;omega
 ·omega
def sG{x:Sh}{e:D aA}(h:aL e≠0):bY x e=(x,aL e):=by unfold bY;rw[if_pos h]
def x8{x:Sh}{e:D aA}(h:aL e=0)(hi:0<=dm x.1.2.1 e.1):bY x e=jw x (x.1.2.1.set (dm x.1.2.1 e.1).toNat e):=by
 unfold bY oU;rw[if_neg (not_not_intro h),if_pos hi]
def vu{x:Sh}{e:D aA}(h:aL e=0)(hi:¬0<=dm x.1.2.1 e.1)(hl:(x.1.2.1.length:Int)=3):bY x e=(x,2):=by
 unfold bY oU;rw[if_neg (not_not_intro h),if_neg hi,if_pos (by omega)]
def tG{x:Sh}{e:D aA}(h:aL e=0)(hi:¬0<=dm x.1.2.1 e.1)(hl:¬(x.1.2.1.length:Int)=3):bY x e=jw x (x.1.2.1++[e]):=by
 unfold bY oU;rw[if_neg (not_not_intro h),if_neg hi,if_neg (by omega)]
def sH{α:Type}{o:List α}{b:Bool}(q:0<o.length->b=false)(h:b=true):o=[]:=by
 cases o with
 |nil=>rfl
 |cons a t=>rw[q (by simp)]at h;cases h
def dE(l:List (D aA)):List aF:=l.map (·.1)
def uB{l:List (D aA)}{i:Nat}(h:i<l.length):dE (l.take i)++[(nth aA l i).1]=dE (l.take (i+1)):=by
 rw[gZ (t:=aA) h];simp[dE]
def w7(l:List (D aA)):(dE l).length=l.length:=by simp[dE]
def x9{l:List (D aA)}{s:aF}(h:0<=dm l s):gz l s=(nth aA l (dm l s).toNat,true):=by unfold gz;rw[if_pos h]
def H7{l:List (D aA)}{s:aF}(h:¬0<=dm l s):gz l s=(cE aA,false):=by unfold gz;rw[if_neg h]
def nj(s:aF):¬0<=dm [] s:=fun h=>absurd (show(0:Int)<=-1 from h) (by decide)
def eZ(l:List (D aA))(e:D aA):List (D aA)×Int:=if aL e > 0 then(l,aL e)else match oU l e with
 |none=>(l,2)
 |some l'=>(l',0)
def eR(l:List (D aA))(s:aF):List (D aA):=l.filter fun e=>decide (e.1≠s)
def fj(l:List (D aA))(s:aF):List (D aA)×Int:=if(eR l s).length=l.length then(l,5)else(eR l s,0)
def qU{l:List (D aA)}{e:D aA}(h:aL e > 0):eZ l e=(l,aL e):=by unfold eZ;rw[if_pos h]
def qV{l:List (D aA)}{e:D aA}{i:Nat}(h:¬aL e > 0)(hi:i<l.length)(hq:∀j,j<i->(nth aA l j).1≠e.1)(he:(nth aA l i).1=e.1):eZ l e=(l.set i e,0):=by
 have hf:=qR hi hq he;unfold eZ oU;rw[if_neg h,if_pos (by rw[hf];omega),hf];rfl
def sJ{l:List (D aA)}{e:D aA}(h:¬aL e > 0)(hq:∀j,j<l.length->(nth aA l j).1≠e.1)(hl:(l.length:Int)=3):eZ l e=(l,2):=by
 unfold eZ oU;rw[if_neg h,if_neg (by rw[l7 hq];decide),if_pos (by omega)]
def oy{l:List (D aA)}{e:D aA}(h:¬aL e > 0)(hq:∀j,j<l.length->(nth aA l j).1≠e.1)(hl:¬(l.length:Int)=3):eZ l e=(l++[e],0):=by
 unfold eZ oU;rw[if_neg h,if_neg (by rw[l7 hq];decide),if_neg (by omega)]
def H8(l:List (D aA))(s:aF):(eR l s).length<=l.length:=zf _ _
def w8{l:List (D aA)}{s:aF}{i:Nat}(h:i<l.length)(hn:(nth aA l i).1≠s):eR (l.take (i+1)) s=eR (l.take i) s++[nth aA l i]:=by
 unfold eR;rw[gZ (t:=aA) h,c6];simp[hn]
def w9{l:List (D aA)}{s:aF}{i:Nat}(h:i<l.length)(hn:(nth aA l i).1=s):eR (l.take (i+1)) s=eR (l.take i) s:=by
 unfold eR;rw[gZ (t:=aA) h,c6];simp[hn]
def Gg{l:List (D aA)}{s:aF}(h:((eR l s).length:Int)=(l.length:Int)):fj l s=(l,5):=by unfold fj;rw[if_pos (by omega)]
def Gh{l:List (D aA)}{s:aF}(h:¬((eR l s).length:Int)=(l.length:Int)):fj l s=(eR l s,0):=by unfold fj;rw[if_neg (by omega)]
def cU(c:UInt8)(s:aF):List aF:=az [c] 1 (rz s [c]) s
def zO(sep:aF)(save:Nat):∀(k:Nat) (s:aF),∀y∈az sep save k s,y.length<=s.length
 |0,s,y,h=>by simp[az]at h;subst h;exact ak _
 |k+1,s,y,h=>by
  unfold az at h;split at h
  ·simp at h;subst h;exact ak _
  ·rcases aq.1 h with rfl|h
   ·rw[cw];exact y1 _ _
   ·exact bh (zO sep save k _ y h) (by rw[zg];omega)
def zP(c:UInt8)(s y:aF)(h:y∈cU c s):y.length<=s.length:=zO _ _ _ _ _ h
def eA(d:Dk):Dk×Int:=
 if(d.2.2.1.length:Int)<112 then(d,8)
 else if(bB d 1 []).2≠0 then bB d 1 []
 else if(bC (bB d 1 []).1).2≠0 then bC (bB d 1 []).1
 else if(bB (bC (bB d 1 []).1).1 0 (cV 2 0)).2≠0 then bB (bC (bB d 1 []).1).1 0 (cV 2 0)
 else bC (bB (bC (bB d 1 []).1).1 0 (cV 2 0)).1
def Lm{d:Dk}(h:(d.2.2.1.length:Int)<112):eA d=(d,8):=by unfold eA;rw[if_pos h]
def MN{d:Dk}(h:¬(d.2.2.1.length:Int)<112)(h1:(bB d 1 []).2≠0):eA d=bB d 1 []:=by unfold eA;rw[if_neg h,if_pos h1]
def MO{d:Dk}(h:¬(d.2.2.1.length:Int)<112)(h1:(bB d 1 []).2=0)(h2:(bC (bB d 1 []).1).2≠0):eA d=bC (bB d 1 []).1:=by
 unfold eA;rw[if_neg h,if_neg (not_not_intro h1),if_pos h2]
def MP{d:Dk}(h:¬(d.2.2.1.length:Int)<112)(h1:(bB d 1 []).2=0)(h2:(bC (bB d 1 []).1).2=0)(h3:(bB (bC (bB d 1 []).1).1 0 (cV 2 0)).2≠0):eA d=bB (bC (bB d 1 []).1).1 0 (cV 2 0):=by
 unfold eA;rw[if_neg h,if_neg (not_not_intro h1),if_neg (not_not_intro h2),if_pos h3]
def MQ{d:Dk}(h:¬(d.2.2.1.length:Int)<112)(h1:(bB d 1 []).2=0)(h2:(bC (bB d 1 []).1).2=0)(h3:(bB (bC (bB d 1 []).1).1 0 (cV 2 0)).2=0):eA d=bC (bB (bC (bB d 1 []).1).1 0 (cV 2 0)).1:=by
 unfold eA;rw[if_neg h,if_neg (not_not_intro h1),if_neg (not_not_intro h2),if_neg (not_not_intro h3)]
def nQ{a b:Nat}(ha:a<2^40)(hb:b<2^40):HX (a:Int) (b:Int)=((a ||| b:Nat):Int):=by
 have hlt:a ||| b<2^40:=hS ha hb
 have e:∀n:Nat,bm cn.bits (n:Int)=BitVec.ofNat cn.bits n:=fun n=>BitVec.ofInt_natCast _ n
 unfold HX;rw[e,e,<-BitVec.ofNat_or,BitVec.toNat_ofNat,vl (br hlt (by decide))];exact iu (by omega) (by omega)
def nR{a k:Nat}(ha:a<2^8)(hk:k<=24):HY (a:Int) k=((a*2^k:Nat):Int):=by
 unfold HY;have h1:2^k<=2^24:=Nat.pow_le_pow_right (by decide) hk;have h2:a*2^k<=255*2^24:=Nat.mul_le_mul (by omega) h1;rw[show((a:Nat):Int)*(2:Int)^k=((a*2^k:Nat):Int) by simp];exact iu (by omega) (by omega)
def uC(s:aF):∃n:Nat,fl s=(n:Int)/\n<2^32:=by
 have hb:∀i,(cM s i).toNat<2^8:=fun i=>(cM s i).toNat_lt
 have h1:(cM s 1).toNat*2^8<2^32:=br (r0 (hb 1) (by decide)) (by decide);have h2:(cM s 2).toNat*2^16<2^32:=br (r0 (hb 2) (by decide)) (by decide);have h3:(cM s 3).toNat*2^24<2^32:=br (r0 (hb 3) (by decide)) (by decide);have h0:(cM s 0).toNat<2^32:=br (hb 0) (by decide);have w:∀{n:Nat},n<2^32->n<2^40:=fun h=>br h (by decide)
 unfold fl;rw[nR (hb 1) (by decide),nR (hb 2) (by decide),nR (hb 3) (by decide),nQ (w h0) (w h1)];have a1:=hS h0 h1;rw[nQ (w a1) (w h2)];have a2:=hS a1 h2;rw[nQ (w a2) (w h3)];exact⟨_,rfl,hS a2 h3⟩
def sK(d:Dk)(i:Int):aF:=nth .str d.2.2.1 (bw i)
def mb(d:Dk)(i:Nat):Int:=fl (af 1 (ae 5 (sK d i)))
def nf(d:Dk)(i:Nat):Int:=fl (af 5 (ae 9 (sK d i)))
def dt(d:Dk):Nat->Int×Int
 |0=>(0,0)
 |i+1=>if((cM (sK d i) 0).toNat:Int)=83/\(dt d i).1<mb d i/\nf d i<=3520 then(mb d i,nf d i)else dt d i
def fq(d:Dk)(b:Int):Nat->aF
 |0=>[]
 |i+1=>fq d b i++sK d (b+(i:Int))
def gv(L:List aF):List (D aA):=(L.filter fun s=>decide (s≠[])).map fun s=>(eK s).1
def Cq(L:List aF):Prop:=∃j,j<L.length/\nth .str L j≠[]/\(eK (nth .str L j)).2.isNil=false
def gU(d:Dk):Int:=2+(dt d 2).1.tmod 2*55
def cS(d:Dk):List aF:=cU 10 (ae (dt d 2).2.toNat (fq d (gU d) 55))
open Classical in
def aX(d:Dk):(Int×List (D aA))×Int:=
 if d.1.2.1=true then((0,[]),9)else if(d.2.2.1.length:Int)<112 then((0,[]),4)else if(dt d 2).1=0 then((0,[]),4)
 else if Cq (cS d)then((0,[]),4)else(((dt d 2).1,gv (cS d)),0)
def xa(d:Dk):dt d 0=(0,0):=rfl
def KN(d:Dk)(i:Nat):dt d (i+1)=if((cM (sK d i) 0).toNat:Int)=83/\(dt d i).1<mb d i/\nf d i<=3520 then(mb d i,nf d i)else dt d i:=rfl
def AS(d:Dk)(b:Int):fq d b 0=[]:=rfl
def xb(d:Dk)(b:Int)(i:Nat):fq d b (i+1)=fq d b i++sK d (b+(i:Int)):=rfl
def lz(d:Dk)(i:Nat):mb d i=fl (af 1 (ae 5 (nth .str d.2.2.1 i))):=rfl
def nS(d:Dk)(i:Nat):nf d i=fl (af 5 (ae 9 (nth .str d.2.2.1 i))):=rfl
def gI(d:Dk):gU d=2+(dt d 2).1.tmod 2*55:=rfl
def eG(d:Dk):cS d=cU 10 (ae (dt d 2).2.toNat (fq d (gU d) 55)):=rfl
def pX{d:Dk}{i:Nat}(h1:((cM (nth .str d.2.2.1 i) 0).toNat:Int)=83)(h2:(dt d i).1<mb d i)(h3:nf d i<=3520):dt d (i+1)=(mb d i,nf d i):=by rw[KN];exact if_pos ⟨h1,h2,h3⟩
def tH{d:Dk}{i:Nat}(h:¬(((cM (nth .str d.2.2.1 i) 0).toNat:Int)=83/\(dt d i).1<mb d i/\nf d i<=3520)):dt d (i+1)=dt d i:=by rw[KN];exact if_neg h
def eE(d:Dk):∀i,(0<=(dt d i).1/\(dt d i).1<4294967296)/\0<=(dt d i).2/\(dt d i).2<=3520
 |0=>by rw[xa];decide
 |i+1=>by
  by_cases h:((cM (nth .str d.2.2.1 i) 0).toNat:Int)=83/\(dt d i).1<mb d i/\nf d i<=3520
  ·rw[pX h.1 h.2.1 h.2.2]
   obtain⟨n,e,hn⟩:=uC (af 1 (ae 5 (nth .str d.2.2.1 i)));obtain⟨m,e2,hm⟩:=uC (af 5 (ae 9 (nth .str d.2.2.1 i)));have h3:=h.2.2;rw[lz,nS,e,e2];rw[nS,e2]at h3;refine⟨⟨by omega,?_⟩,by omega,h3⟩;have:(n:Int)<((2^32:Nat):Int):=Int.ofNat_lt.2 hn;simpa using this
  ·rw[tH h];exact eE d i
def oV{a:Int}(h:0<=a):0<=a.tmod 2/\a.tmod 2<=1:=by rw[b8 h];omega
def gJ{d:Dk}(hs:∀i,i<d.2.2.1.length->(nth .str d.2.2.1 i).length=64){b:Int}(hb:0<=b):∀n:Nat,b+(n:Int)<=d.2.2.1.length->(fq d b n).length=64*n
 |0,_=>by rw[AS];rfl
 |n+1,h=>by
  rw[xb,aj,gJ hs hb n (by omega),show(sK d (b+(n:Int))).length=64 from hs _ (by omega)];omega
def H9{d:Dk}(h:d.1.2.1=true):aX d=((0,[]),9):=by unfold aX;rw[if_pos h]
def JW{d:Dk}(h1:d.1.2.1=false)(h:(d.2.2.1.length:Int)<112):aX d=((0,[]),4):=by unfold aX;rw[if_neg (by rw[h1];decide),if_pos h]
def Ia{d:Dk}(h1:d.1.2.1=false)(h:¬(d.2.2.1.length:Int)<112)(h5:(dt d 2).1=0):aX d=((0,[]),4):=by unfold aX;rw[if_neg (by rw[h1];decide),if_neg h,if_pos h5]
def JX{d:Dk}(h1:d.1.2.1=false)(h:¬(d.2.2.1.length:Int)<112)(h5:¬(dt d 2).1=0)(hb:Cq (cS d)):aX d=((0,[]),4):=by unfold aX;rw[if_neg (by rw[h1];decide),if_neg h,if_neg h5,if_pos hb]
def EF{d:Dk}(h1:d.1.2.1=false)(h:¬(d.2.2.1.length:Int)<112)(h5:¬(dt d 2).1=0)(hb:¬Cq (cS d)):aX d=(((dt d 2).1,gv (cS d)),0):=by unfold aX;rw[if_neg (by rw[h1];decide),if_neg h,if_neg h5,if_neg hb]
def Ib{L:List aF}{i:Nat}(h:i<L.length)(he:nth .str L i=[]):gv (L.take (i+1))=gv (L.take i):=by
 unfold gv;rw[gZ (t:=.str) h,c6,he];simp
def Ic{L:List aF}{i:Nat}(h:i<L.length)(he:nth .str L i≠[]):gv (L.take (i+1))=gv (L.take i)++[(eK (nth .str L i)).1]:=by
 unfold gv;rw[gZ (t:=.str) h,c6];simp[he]
def JY(L:List aF):(gv L).length<=L.length:=by unfold gv;rw[cz];exact zf _ _
def Ln{L:List aF}{i:Nat}(hi:¬i<L.length)(h:∀j,j<i->nth .str L j=[]\/(eK (nth .str L j)).2.isNil=true):¬Cq L:=by
 rintro⟨j,h1,h2,h3⟩;rcases h j (by omega)with h|h
 ·exact h2 h
 ·rw[h]at h3;cases h3
def xc(sep:aF)(save:Nat):∀(k:Nat) (s:aF),(az sep save k s).length<=k+1
 |0,s=>by simp[az]
 |k+1,s=>by
  unfold az;split
  ·simp
  ·rw[ao];have:=xc sep save k (s.drop ((ay s sep).toNat+sep.length));omega
def Gi(c:UInt8)(s:aF):(cU c s).length<=s.length+1:=by
 unfold cU;refine bh (xc _ _ _ _) ?_;rw[cq];have:=List.count_le_length (a:=c) (l:=s);omega
def Ie:gv []=[]:=rfl
def fm(d:Dk):Dk×Int:=hC (⟨eA d,rfl⟩:∃y,y=eA d)
def iY(d:Dk):fm d=eA d:=hG (⟨eA d,rfl⟩:∃y,y=eA d)
attribute [irreducible] dt fq gv gU cS mb nf
end Go.Mrl

namespace Go.Vg
open Go.RowKit
def ya(t:Ty):bA:=fun args st K=>
 match args with
 |[.one (.aM n),.one a,.one b]=>match look st.aC n,pq (.int .i64) a,pq (.int .i64) b with
  |some (.aM t' xs),some i,some j=>match Ty.beq t' t with
   |true =>.and (0<=(i:Int)/\(i:Int)<(j:Int)/\(j:Int)<=xs.length)
     (K (.s (.one (.aM st.next))) (fresh (aS (aS st n) n) (.aM t' (xs.take (i:Int).toNat++xs.drop (j:Int).toNat))))
   |false =>.ff
  |_,_,_ =>.ff
 |_ =>.ff
def Ig(P:Program)(f:FuncId)(sz:Nat):Prop:=∀(b i j n cap:Nat) (vs:Array Value) (T:TypeId) (w:World),w.heap[b]?=some (.cells vs T (0,0))->vs.size=cap*sz->i<j->j<=n->n<=cap->n<=aN->
 (∀(k:Nat) u,k<n*sz->vs[k]?=some u->u.oneCell'=true)->
 Calls P f #[.slice (some ⟨b,0,none⟩) n cap,.int .i64 (i:Int),.int .i64 (j:Int)] w fun e w'=>e=.returned (.slice (some ⟨b,0,none⟩) (i+(n-j)) cap)/\w'.os=w.os/\w'.output=w.output/\w'.heap.size=w.heap.size/\(∀k,k≠b->w'.heap[k]?=w.heap[k]?)/\
  ∃vs':Array Value,w'.heap[b]?=some (.cells vs' T (0,0))/\vs'.size=vs.size/\∀k,k<(i+(n-j))*sz->vs'[k]?=vs[if k<i*sz then k else k+(j-i)*sz]?
def JZ{i j:Int}{n:Nat}(h0:0<=i)(hij:i<j)(hj:j<=n):∃i' j':Nat,i=(i':Int)/\j=(j':Int)/\i'<j'/\j'<=n:=
 ⟨i.toNat,j.toNat,by omega,by omega,by omega,by omega⟩
section
variable{P:Program}{X:Ext}{f:FuncId}
def Gj{B:Cx}{t:Ty}(hfn:∃fn,P.funcs[f]?=some fn/\fn.body.isNone=false/\(fn.name == "runtime.NumGoroutine")=false)(H:Ig P f t.size) :
  cF P B.eT X f false (ya t):=by
 refine⟨hfn,fun O st loc w args vs K hs g hO ha =>?_⟩;unfold ya at hs;split at hs
 case h_2=>exact hs.elim
 rename_i n ca cb;split at hs
 case h_2=>exact hs.elim
 rename_i t' xs i j hob hi hj;split at hs
 case h_2=>exact hs.elim
 rename_i ht;have ht':=Ty.eq_of_beq ht;subst ht';obtain⟨⟨h0,hij,hjx⟩,hs⟩:=hs
 match vs,ha with
 |[v0,v1,v2],.cons a0 (.cons a1 (.cons a2 .nil))=>
 have key:=JZ h0 hij hjx;clear h0 hij hjx;obtain⟨i,j,rfl,rfl,hij,hjx⟩:=key;have hs:(K (.s (.one (.aM st.next))) (fresh (aS (aS st n) n) (.aM t' (xs.take i++xs.drop j)))).holds:=hs;have e1:v1=.int .i64 (i:Int):=(bZ.1 (mf hi a1)).1;have e2:v2=.int .i64 (j:Int):=(bZ.1 (mf hj a2)).1;subst e1 e2;have hvl:=a0.2 _ _ hob;rcases(g.obj n _ hob).2 with⟨rfl,_⟩|⟨b,cs,T,cap,hl1,eP,hheap,hsz,hfit,hbig,he⟩
 ·simp at hjx;omega
 have hv0:=hvl.trans hl1;subst hv0;have hxs:bq xs*t'.size<=cs.size:=by rw[hsz];exact hV _ hfit
 obtain⟨olds,ho,ho1,ho3,ho4⟩:=mF (cx:=B) he hxs;refine(H b i j xs.length cap cs T w hheap hsz hij hjx hfit hbig (fun k u hk hu=>ho4 u ?_)).mono ?_
 ·refine bt (i:=k) ?_
  rw[ho,List.getElem?_take,if_pos hk,Array.getElem?_toList];exact hu
 rintro r w' ⟨rfl,k1,k2,k3,k4,cs',k5,k6,k7⟩;have hl':(xs.take i++xs.drop j).length=i+(xs.length-j):=by rw[aj,cw,zg];omega
 obtain⟨tr,gd⟩:=nE (w':=w') (oc:=.aM t' (xs.take i++xs.drop j)) (l:=⟨.slice (some ⟨b,0,none⟩) (i+(xs.length-j)) cap,[b]⟩) g hO n n k1 k2 (Nat.le_of_eq k3.symm)
  (fun k oc' hk hl=>by
   have:k=n:=by rcases hk with h|h <;> exact h
   subst this;rw[hob]at hl;cases hl;rfl)
  (fun b' hlt hb=>k4 b' fun e'=>hb n _ (.inl rfl) hob (by rw[e',show(loc n).bs=_ from eP];simp))
  (fun b' hbm=>by
   simp at hbm;subst hbm;exact .inl ⟨n,_,.inl rfl,hob,by rw[show(loc n).bs=_ from eP];simp⟩)
 have gd:=gd (.inr ⟨b,cs',T,cap,by rw[hl'],rfl,k5,by rw[k6,hsz],by rw[hl'];omega,by rw[hl'];unfold aN at*;omega,fun k y hy=>by
  have hk:k<i+(xs.length-j):=by have:=aW hy;rw[hl']at this;exact this
  obtain⟨k',hk',hyx⟩:∃k',(k'=if k<i then k else k+(j-i))/\xs[k']?=some y:=by
   refine⟨_,rfl,?_⟩;rw[List.getElem?_append,cw]at hy;by_cases h:k<i
   ·rw[if_pos (by omega),List.getElem?_take,if_pos h]at hy
    rw[if_pos h];exact hy
   ·rw[if_neg (by omega),List.getElem?_drop]at hy
    rw[if_neg h];rw[show j+(k-min i xs.length)=k+(j-i) by omega]at hy;exact hy
  obtain⟨us,r1,r2⟩:=he k' y hyx;refine⟨us,r1.frame tr.cell,fun q u hq =>?_⟩;have hql:q<t'.size:=by have:=aW hq;rw[r1.length]at this;exact this
  have hm:(k+1)*t'.size<=(i+(xs.length-j))*t'.size:=hV _ hk;rw[r3,Nat.one_mul]at hm;rw[k7 _ (by omega)];have:=r2 q u hq;by_cases h:k<i
  ·rw[if_pos h]at hk'
   subst hk';have hm2:(k'+1)*t'.size<=i*t'.size:=hV _ h;rw[r3,Nat.one_mul]at hm2;rw[if_pos (by omega)];exact this
  ·rw[if_neg h]at hk'
   have hm2:i*t'.size<=k*t'.size:=hV _ (by omega);rw[if_neg (by omega)];rw[hk',r3]at this;rw[show k*t'.size+q+(j-i)*t'.size=k*t'.size+(j-i)*t'.size+q by omega];exact this⟩)
 exact⟨_,_,_,_,rfl,hs,rfl,(fun hq=>by cases hq),gd,tr,⟨by simp[aB,fresh,aS],fun t xs hy=>by simp[aB,bI]⟩⟩
end
end Go.Vg

namespace Go.Mrl
open Go.Vg
def jS{n:Int}{k:Nat}(h0:0<=n)(h:n<((10^(k+1):Nat):Int)):(ab n).length<=k+1:=by
 unfold ab;rw[if_neg (by omega)];exact kX k n.toNat (by omega)
def Ih{n:Int}(h:fF (-2147483648) 2147483647 n):(ab n).length<=11:=by
 have h1:=h.1;have h2:=h.2;by_cases hn:n<0
 ·rw[Hw hn,aj,cc]
  have:=jS (n:=-n) (k:=9) (by omega) (by omega);omega
 ·have:=jS (n:=n) (k:=9) (by omega) (by omega);omega
def yb{α:Type}{f:α->aF}{m:Nat}:∀{l:List α},(∀x∈l,(f x).length<=m)->(l.flatMap f).length<=m*l.length
 |[],_=>by simp
 |a :: r,h=>by
  have h1:=h a (by simp);have h2:=yb (l:=r) fun x hx=>h x (by simp[hx])
  rw[bz,aj,ao,Nat.mul_add,Nat.mul_one];omega
def Cr{p:D aE}(h1:Nm p.1)(h2:fF 1 1000000 p.2.1)(h3:fF 0 255 p.2.2.1):(jO p).length<=21:=by
 have a:=h1.2.1;have b:=jS (n:=p.2.1) (k:=6) (by have:=h2.1;omega) (by have:=h2.2;omega);have c:=jS (n:=p.2.2.1) (k:=2) (by have:=h3.1;omega) (by have:=h3.2;omega);simp[jO];omega
def Cs{p:D aI}(h1:fF 0 5 p.1)(h2:fF 0 39 p.2.1)(h3:fF (-2147483648) 2147483647 p.2.2.1):(jP p).length<=17:=by
 have a:=jS (n:=p.1) (k:=0) (by have:=h1.1;omega) (by have:=h1.2;omega);have b:=jS (n:=p.2.1) (k:=1) (by have:=h2.1;omega) (by have:=h2.2;omega);have c:=Ih h3;simp[jP];omega
def DN{e:D aA}(hf:aL e=0):(dS e).length<=752:=by
 have h:=jg hf;have a1:=h.nm.2.1;have a2:=jS (n:=(e.2.1.length:Int)) (k:=0) (by omega) (by have:=h.p6;omega);have a3:=jS (n:=(e.2.2.1.length:Int)) (k:=1) (by omega) (by have:=h.zE;omega);have hh:(qL e).length<=13:=by simp[qL];omega
 have b:=yb (f:=jO) (m:=21) (l:=e.2.1) fun x hx=>by
  obtain⟨j,hj,rfl⟩:=iq (t:=aE) hx;obtain⟨k1,k2,k3⟩:=h.parts j hj;exact Cr k1 k2 k3
 have c:=yb (f:=jP) (m:=17) (l:=e.2.2.1) fun x hx=>by
  obtain⟨j,hj,rfl⟩:=iq (t:=aI) hx;obtain⟨k1,k2,k3⟩:=h.B0 j hj;exact Cs k1 k2 k3
 have d1:=h.p6;have d2:=h.zE;unfold dS nH fC fI;rw[cg,cg,aj,aj,aj,cc];omega
def nJ:∀{l:List (D aA)},(∀e∈l,aL e=0)->(cI l).length<=752*l.length
 |[],_=>by simp[cI]
 |e :: r,h=>by
  have h1:=DN (h e (by simp));have h2:=nJ (l:=r) fun x hx=>h x (by simp[hx])
  have h3:cI (e :: r)=dS e++cI r:=rfl;rw[h3,aj,ao];omega
def zQ{c:UInt8}:∀{l r:aF},c∉l->ay (l++c :: r) [c]=(l.length:Int)
 |[],r,_=>sk
 |b :: l,r,h=>by
  have hb:b≠c:=fun e=>h (by rw[e];simp)
  rw[cr,sj hb,zQ (l:=l) (r:=r) fun k=>h (b9 _ k),ao];rw[if_neg (by simp)];omega
def DO{c:UInt8}{l r:aF}(h:c∉l):cU c (l++[c]++r)=(l++[c]) :: cU c r:=by
 have hc:rz (l++[c]++r) [c]=rz r [c]+1:=by
  rw[cq,cq,dc,List.count_append,List.count_eq_zero_of_not_mem h];simp
 have hi:ay (l++[c]++r) [c]=(l.length:Int):=by rw[dc];exact zQ h
 unfold cU;rw[hc,az,hi,if_neg (by simp)];have e1:((l.length:Int)).toNat+1=(l++[c]).length:=by simp
 have e2:((l.length:Int)).toNat+ [c].length=(l++[c]).length:=by simp
 rw[e2,List.drop_left,e1,uv]
def Gk(c:UInt8):cU c []=[[]]:=by
 unfold cU;rw[cq];rfl
def xe:∀{l:List (D aA)},(∀e∈l,aL e=0)->cU 10 (cI l)=l.map dS++[[]]
 |[],_=>Gk 10
 |e :: r,h=>by
  have h3:cI (e :: r)=nH e++[10]++cI r:=rfl;rw[h3,DO (F5 (jg (h e (by simp)))),xe (l:=r) fun x hx=>h x (by simp[hx])];rfl
def J0(e:D aA):dS e≠[]:=by unfold dS;simp
def xf{e:D aA}(h:aL e=0):eK (dS e)=(e,.nil):=by unfold eK;rw[EB h rfl];rfl
def J1{l:List (D aA)}(h:∀e∈l,aL e=0):gv (l.map dS++[[]])=l:=by
 unfold gv;rw[c6,zh.2 fun s hs=>by
  obtain⟨e,_,rfl⟩:=b6.1 hs;exact decide_eq_true (J0 e)]
 simp only[sT,List.filter_nil,ne_eq,not_true_eq_false,decide_false,Bool.false_eq_true,if_false,List.append_nil,dd];have:l.map ((fun s=>(eK s).1) ∘ dS)=l.map id:=zi fun e he=>by simp only[Function.comp];rw[xf (h e he)];rfl
 rw[this,List.map_id]
def J2{l:List (D aA)}(h:∀e∈l,aL e=0):¬Cq (l.map dS++[[]]):=by
 rintro⟨j,h1,h2,h3⟩;have hm:nth .str (l.map dS++[[]]) j∈l.map dS++[[]]:=gF (t:=.str) h1;rcases ar.1 hm with hm|hm
 ·obtain⟨e,he,k⟩:=b6.1 hm
  rw[<-k,xf (h e he)]at h3;cases h3
 ·exact h2 (bo.1 hm)
def Ii(n:Int):qS n=n % 256:=by
 unfold qS;simp[b7,dT,et]
def oW{n:Nat}{m:Int}{k:Nat}(h:m=((n / 2^k:Nat):Int)):(k9 (bw (qS m))).toNat=n / 2^k % 256:=by
 rw[Ii,h,show((n / 2^k:Nat):Int) % 256=((n / 2^k % 256:Nat):Int) by omega,bb];simp[kc]
def vw(n k:Nat):((n:Nat):Int).fdiv (2^k)=((n / 2^k:Nat):Int):=by
 rw[vv _ (Int.le_of_lt (Int.pow_pos (by decide)))];simp
def Ct{a b k:Nat}(h:a<2^k):a ||| b*2^k=a+b*2^k:=by
 have:=Nat.two_pow_add_eq_or_of_lt h b;rw[Nat.mul_comm,Nat.or_comm];omega
def zR{n:Nat}(h:n<2^32):fl (fU (n:Int))=(n:Int):=by
 have b0:(cM (fU (n:Int)) 0).toNat=n / 2^0 % 256:=oW (n:=n) (k:=0) (by simp);have b1:(cM (fU (n:Int)) 1).toNat=n / 2^8 % 256:=oW (vw n 8);have b2:(cM (fU (n:Int)) 2).toNat=n / 2^16 % 256:=oW (vw n 16);have b3:(cM (fU (n:Int)) 3).toNat=n / 2^24 % 256:=oW (vw n 24);have l:∀k,n / 2^k % 256<2^8:=fun k=>fs _ (by decide)
 unfold fl;rw[b0,b1,b2,b3,nR (l 8) (by decide),nR (l 16) (by decide),nR (l 24) (by decide)];have l0:=l 0;have l1:=l 8;have l2:=l 16;have l3:=l 24;generalize hb0:n / 2^0 % 256=x0 at*;generalize hb1:n / 2^8 % 256=x1 at*;generalize hb2:n / 2^16 % 256=x2 at*;generalize hb3:n / 2^24 % 256=x3 at*;rw[nQ (by omega) (by omega),Ct (k:=8) (by omega),nQ (by omega) (by omega),Ct (k:=16) (by omega),nQ (by omega) (by omega),Ct (k:=24) (by omega)];congr 1;omega
structure kq (d:Dk):Prop where
 down:d.1.2.1=false
 gB:(d.1.1:Int)= -1
 len:112<=d.2.2.1.length
 sec:∀i,i<d.2.2.1.length->(nth .str d.2.2.1 i).length=64
 J3:d.2.1.length=d.2.2.1.length
def qW{s:aF}(h:s.length<=64):(cB s).length=64:=by unfold cB;simp;omega
def sL{d:Dk}(g:kq d):stepOf d=(d,0):=by
 unfold stepOf;rw[if_neg (by rw[g.down];decide),if_neg (by rw[g.gB];decide)];have hf:=g.gB;have hd:=g.down;obtain⟨⟨f,dn,u⟩,rest⟩:=d;simp only at hf hd;subst hd;rw[if_neg (by show ¬0<f;omega)]
def kr{d:Dk}(g:kq d){a:Int}{s:aF}(h0:0<=a)(h1:a<d.2.2.1.length)(hs:s.length<=64) :
  (bB d a s).2=0/\(bB d a s).1.2.2.1=d.2.2.1.set a.toNat (cB s)/\kq (bB d a s).1:=by
 have e:bB d a s=((d.1,d.2.1,d.2.2.1.set a.toNat (cB s),d.2.2.2.1++[(a,cB s,())],()),0):=by
  unfold bB;rw[if_neg (by omega),sL g,if_pos rfl]
 rw[e];refine⟨rfl,rfl,g.down,g.gB,by rw[au];exact g.len,fun i hi =>?_,by rw[au];exact g.J3⟩;show(nth .str (d.2.2.1.set a.toNat (cB s)) i).length=64;have hi:i<(d.2.2.1.set a.toNat (cB s)).length:=hi;rw[au]at hi;by_cases c:a.toNat=i
 ·subst c;rw[ki (t:=.str) hi];exact qW hs
 ·rw[iS (t:=.str) c];exact g.sec i hi
def ku{d:Dk}(g:kq d):(bC d).2=0/\(bC d).1.2.2.1=d.2.2.1/\kq (bC d).1:=by
 have e:bC d=((d.1,d.2.2.1,d.2.2.1,[],()),0):=by
  unfold bC;rw[sL g,if_pos rfl]
 rw[e];exact⟨rfl,rfl,g.down,g.gB,g.len,g.sec,rfl⟩
def vy(bs:List Int):∀(pre:List Nat) {d:Dk} {s:Int},kq d->0<=s->s+(pre.length:Int)<=d.2.2.1.length->
  (gb bs d s pre).2=0/\kq (gb bs d s pre).1/\(gb bs d s pre).1.2.2.1.length=d.2.2.1.length/\
  (∀j,j<pre.length->nth .str (gb bs d s pre).1.2.2.1 (s.toNat+j)=cB (bytesOf (cT (t:=.int .u8) bs 64 (pre.getD j 0))))/\
  (∀i,i<s.toNat\/s.toNat+pre.length<=i->nth .str (gb bs d s pre).1.2.2.1 i=nth .str d.2.2.1 i)
 |[],d,s,g,h0,h1=>⟨rfl,g,rfl,fun j hj=>absurd hj (c7 _),fun i _=>rfl⟩
 |p :: r,d,s,g,h0,h1=>by
  have hc:(bytesOf (cT (t:=.int .u8) bs 64 p)).length<=64:=by rw[bytesOf,cz,l5];exact zj _ _
  rw[ao]at h1;obtain⟨w1,w2,w3⟩:=kr g (a:=s) h0 (by omega) hc;have hl:(bB d s (bytesOf (cT (t:=.int .u8) bs 64 p))).1.2.2.1.length=d.2.2.1.length:=by rw[w2,au]
  obtain⟨k1,k2,k3,k4,k5⟩:=vy bs r (s:=s+1) w3 (by omega) (by rw[hl];omega);have e:gb bs d s (p :: r)=gb bs (bB d s (bytesOf (cT (t:=.int .u8) bs 64 p))).1 (s+1) r:=by
   rw[gb,if_pos w1]
  rw[e];have hs1:(s+1).toNat=s.toNat+1:=by omega
  refine⟨k1,k2,k3.trans hl,fun j hj =>?_,fun i hi =>?_⟩
  ·cases j with
   |zero=>
    rw[k8,k5 s.toNat (.inl (by omega)),w2,ki (t:=.str) (by omega)];rfl
   |succ j=>
    have:=k4 j (by simpa using hj);rw[hs1]at this;rw[show s.toNat+(j+1)=s.toNat+1+j by omega,this];rfl
  ·rw[ao]at hi
   rw[k5 i (by omega),w2,iS (t:=.str) (by omega)]
def EG{d:Dk}(hs:∀i,i<d.2.2.1.length->(nth .str d.2.2.1 i).length=64){b:Int}(hb:0<=b):∀(n:Nat),b+(n:Int)<=d.2.2.1.length->∀i,i<64*n->(fq d b n)[i]?=(nth .str d.2.2.1 (b.toNat+i / 64))[i % 64]?
 |0,_,i,hi=>by omega
 |n+1,h,i,hi=>by
  have hl:=gJ hs hb n (by omega);rw[xb];by_cases c:i<64*n
  ·rw[List.getElem?_append_left (by rw[hl];exact c)]
   exact EG hs hb n (by omega) i c
  ·rw[List.getElem?_append_right (by rw[hl];omega),hl]
   have e1:i / 64=n:=by omega
   have e2:i-64*n=i % 64:=by omega
   rw[e1,e2,show sK d (b+(n:Int))=nth .str d.2.2.1 (b.toNat+n)from congrArg (nth .str d.2.2.1) (by omega)]
def Ij(t:aF)(j r:Nat)(hr:r<64):(bytesOf (cT (t:=.int .u8) (aZ t) 64 j))[r]?=t[j*64+r]?:=by
 have e:bytesOf (cT (t:=.int .u8) (aZ t) 64 j)=(t.drop (j*64)).take 64:=by
  have h:∀l:aF,bytesOf (aZ l)=l:=wK
  have h2:cT (t:=.int .u8) (aZ t) 64 j=aZ ((t.drop (j*64)).take 64):=by simp[cT,aZ,List.map_take,List.map_drop]
  rw[h2,h]
 rw[e,List.getElem?_take,if_pos hr,List.getElem?_drop]
def Lo{d:Dk}(hs:∀i,i<d.2.2.1.length->(nth .str d.2.2.1 i).length=64){b:Int}(hb:0<=b)(hb2:b+55<=d.2.2.1.length){t:aF}(ht:t.length<=3520)
  (hw:∀j,j<dD t.length 64->nth .str d.2.2.1 (b.toNat+j)=cB (bytesOf (cT (t:=.int .u8) (aZ t) 64 j))):(fq d b 55).take t.length=t:=by
 apply zk;intro i;by_cases c:i<t.length
 ·rw[List.getElem?_take,if_pos c,EG hs hb 55 hb2 i (by omega)]
  have hj:i / 64<dD t.length 64:=by unfold dD;omega
  rw[hw _ hj];unfold cB;have hg:=Ij t (i / 64) (i % 64) (fs _ (by decide));have hi:i / 64*64+i % 64=i:=by omega
  rw[hi]at hg;have hlt:i % 64<(bytesOf (cT (t:=.int .u8) (aZ t) 64 (i / 64))).length:=by
   apply aw;intro hn;rw[List.getElem?_eq_none (by omega)]at hg;rw[List.getElem?_eq_getElem c]at hg;cases hg
  rw[List.getElem?_append_left hlt,hg]
 ·rw[List.getElem?_take,if_neg c,List.getElem?_eq_none (by omega)]
def Ik(a b:Int)(s:aF):af 1 (ae 5 (cV a b++s))=fU a/\af 5 (ae 9 (cV a b++s))=fU b/\(cM (cV a b++s) 0).toNat=83:=by
 refine⟨rfl,rfl,rfl⟩
def Cu{d:Dk}{p:Nat}{a b:Nat}(h:nth .str d.2.2.1 p=cB (cV a b))(ha:a<2^32)(hb:b<2^32) :
  ((cM (nth .str d.2.2.1 p) 0).toNat:Int)=83/\mb d p=(a:Int)/\nf d p=(b:Int):=by
 obtain⟨h1,h2,h3⟩:=Ik a b (av (64-(cV a b).length) 0);rw[lz,nS,h];unfold cB;exact⟨by rw[h3];rfl,by rw[h1];exact zR ha,by rw[h2];exact zR hb⟩
structure cY (d:Dk) (r:Nat) (l:List (D aA)):Prop where
 fT:kq d
 quiet:d.2.2.2.1=[]
 iZ:∀e∈l,aL e=0
 gT:l.length<=3
 r2:2<=r
 rM:r<=1000000000
 head:nth .str d.2.2.1 (r % 2)=cB (cV r (cI l).length)
 other:((cM (nth .str d.2.2.1 (1-r % 2)) 0).toNat:Int)≠83\/mb d (1-r % 2)<(r:Int)
 text:(fq d (2+((r % 2:Nat):Int)*55) 55).take (cI l).length=cI l
def oX:∀{l:List (D aA)},(∀e∈l,aL e=0)->iw l=0
 |[],_=>rfl
 |e :: r,h=>by unfold iw;rw[if_neg (not_not_intro (h e (by simp)))];exact oX fun x hx=>h x (by simp[hx])
def cY.small{d:Dk}{r:Nat}{l:List (D aA)}(h:cY d r l):(cI l).length<=2256:=by
 have:=nJ h.iZ;have:=h.gT;omega
def cY.MX{d:Dk}{r:Nat}{l:List (D aA)}(h:cY d r l):dt d 2=((r:Int),((cI l).length:Int)):=by
 have hr:=h.r2;have hM:=h.rM;have hs:=h.small;obtain⟨k1,k2,k3⟩:=Cu h.head (by omega) (by omega);have ho:=h.other;rcases Nat.mod_two_eq_zero_or_one r with e|e
 ·rw[e]at k1 k2 k3 ho
  have h1:dt d 1=((r:Int),((cI l).length:Int)):=by
   rw[pX k1 (by rw[xa,k2];show(0:Int)<r;omega) (by rw[k3];omega),k2,k3]
  rw[tH (i:=1) fun hh =>?_,h1];rcases ho with ho|ho
  ·exact ho hh.1
  ·have h2:=hh.2.1
   rw[h1]at h2;have h2:(r:Int)<mb d 1:=h2;have ho:mb d 1<(r:Int):=ho;omega
 ·rw[e]at k1 k2 k3 ho
  have h1:(dt d 1).1<(r:Int):=by
   by_cases c:((cM (nth .str d.2.2.1 0) 0).toNat:Int)=83/\(dt d 0).1<mb d 0/\nf d 0<=3520
   ·rw[pX c.1 c.2.1 c.2.2]
    rcases ho with ho|ho
    ·exact absurd c.1 ho
    ·exact ho
   ·rw[tH c,xa];show(0:Int)<r;omega
  rw[pX (i:=1) k1 (by rw[k2];exact h1) (by rw[k3];omega),k2,k3]
def cY.lines{d:Dk}{r:Nat}{l:List (D aA)}(h:cY d r l):cS d=l.map dS++[[]]:=by
 rw[eG,gI,h.MX];have e:((r:Int)).tmod 2=((r % 2:Nat):Int):=by rw[b8 (by omega)];omega
 simp only[e,bb];rw[h.text,xe h.iZ]
def cY.opens{d:Dk}{r:Nat}{l:List (D aA)}(h:cY d r l):aX d=(((r:Int),l),0):=by
 have h5:=h.MX;rw[EF h.fT.down (by have:=h.fT.len;omega) (by rw[h5];have:=h.r2;show ¬(r:Int)=0;omega) (by rw[h.lines];exact J2 h.iZ),h.lines,J1 h.iZ,h5]
def xg{l:List (D aA)}(h:∀e∈l,aL e=0):(cW l).1=cI l:=by unfold cW;rw[if_neg (not_not_intro (oX h))]
def uD{d:Dk}(g:kq d):(bC d).1.2.2.2.1=[]:=by
 have e:bC d=((d.1,d.2.2.1,d.2.2.1,[],()),0):=by unfold bC;rw[sL g,if_pos rfl]
 rw[e]
def EH{d:Dk}{r:Nat}{l l':List (D aA)}(h:cY d r l)(hf:∀e∈l',aL e=0)(hn:l'.length<=3)(hr:r+1<=1000000000) :
  (bV d r l').2=0/\cY (bV d r l').1 (r+1) l':=by
 have hb:=oX hf;have ht:=xg hf;have hs:(cI l').length<=2256:=by have:=nJ hf;omega
 have hlen:=h.fT.len;obtain⟨p,hp,hpd⟩:∃p:Nat,p<=1/\p=(r+1) % 2:=⟨_,by omega,rfl⟩
 have hm:((r:Int)+1).tmod 2=(p:Int):=by rw[b8 (by omega)];omega
 have hq:r % 2=1-p:=by omega
 have hN:(de l').length=dD (cI l').length 64:=by unfold de;rw[hR,ht,pg]
 have hN2:dD (cI l').length 64<=36:=by unfold dD;omega
 obtain⟨a1,a2,a3,a4,a5⟩:=vy (aZ (cI l')) (de l') (s:=2+(p:Int)*55) h.fT (by omega) (by rw[hN];omega);have ew:eH l' r d (de l')=gb (aZ (cI l')) d (2+(p:Int)*55) (de l'):=by unfold eH;rw[ht,hm]
 rw[<-ew]at a1 a2 a3 a4 a5;obtain⟨b1,b2,b3⟩:=ku a2;have ef:pW l' r d=bC (eH l' r d (de l')).1:=rfl;rw[<-ef]at b1 b2 b3;obtain⟨c1,c2,c3⟩:=kr b3 (a:=(p:Int)) (s:=cV ((r:Int)+1) (cI l').length) (by omega) (by rw[b2,a3];omega) (by rw[ng];decide);have eh:nh l' r d=bB (pW l' r d).1 (p:Int) (cV ((r:Int)+1) (cI l').length):=by unfold nh;rw[ht,hm]
 rw[<-eh]at c1 c2 c3;obtain⟨e1,e2,e3⟩:=ku c3;have ek:bV d r l'=bC (nh l' r d).1:=by
  unfold bV;rw[if_neg (not_not_intro hb),if_neg (not_not_intro a1),if_neg (not_not_intro b1),if_neg (not_not_intro c1)]
 rw[ek];have hsec:(bC (nh l' r d).1).1.2.2.1=(eH l' r d (de l')).1.2.2.1.set p (cB (cV ((r:Int)+1) (cI l').length)):=by
  rw[e2,c2,b2,bb]
 have hpl:p<(eH l' r d (de l')).1.2.2.1.length:=by rw[a3];omega
 have htn:(2+(p:Int)*55).toNat=2+p*55:=by omega
 rw[htn]at a4 a5;refine⟨e1,{fT:=e3,quiet:=uD c3,iZ:=hf,gT:=hn,r2:=by have:=h.r2;omega,rM:=hr,head:=?_,other:=?_,text:=?_}⟩
 ·rw[<-hpd,hsec,ki (t:=.str) hpl];rfl
 ·rw[<-hpd]
  have hk:nth .str (bC (nh l' r d).1).1.2.2.1 (1-p)=nth .str d.2.2.1 (1-p):=by
   rw[hsec,iS (t:=.str) (by omega),a5 _ (.inl (by omega))]
  have hh:=h.head;rw[hq]at hh;have hM:=h.rM;have hsm:=h.small;obtain⟨k1,k2,k3⟩:=Cu hh (by omega) (by omega);right;rw[lz,hk,<-lz,k2];omega
 ·rw[<-hpd]
  refine Lo (b:=2+(p:Int)*55) (fun i hi=>e3.sec i hi) (by omega) (by rw[hsec,au,a3];omega) (by omega) fun j hj =>?_
  rw[htn,hsec,iS (t:=.str) (by omega),a4 j (by rw[hN];exact hj)];unfold de;rw[ht,pg,List.getD_eq_getElem?_getD,List.getElem?_range hj];rfl
def oz{n:Int}(h:112<=n):kq (nw n) where
 down:=rfl
 gB:=rfl
 len:=by show 112<=(av n.toNat (cB [])).length;rw[vx];omega
 sec:=fun i hi=>by
  have:i<(av n.toNat (cB [])).length:=hi;rw[show nth .str (nw n).2.2.1 i=cB []from List.eq_of_mem_replicate (gF (t:=.str) this)];exact qW (by decide)
 J3:=rfl
def nk{d:Dk}(g:kq d):(fm d).2=0/\cY (fm d).1 2 []:=by
 rw[iY];have hlen:=g.len;obtain⟨a1,a2,a3⟩:=kr g (a:=1) (s:=[]) (by omega) (by omega) (by decide);obtain⟨b1,b2,b3⟩:=ku a3;obtain⟨c1,c2,c3⟩:=kr b3 (a:=0) (s:=cV 2 0) (by omega) (by rw[b2,a2,au];omega) (by rw[ng];decide);obtain⟨e1,e2,e3⟩:=ku c3;have ek:eA d=bC (bB (bC (bB d 1 []).1).1 0 (cV 2 0)).1:=by
  unfold eA;rw[if_neg (by omega),if_neg (not_not_intro a1),if_neg (not_not_intro b1),if_neg (not_not_intro c1)]
 rw[ek];have hsec:(bC (bB (bC (bB d 1 []).1).1 0 (cV 2 0)).1).1.2.2.1=(d.2.2.1.set 1 (cB [])).set 0 (cB (cV 2 0)):=by
  rw[e2,c2,b2,a2];rfl
 refine⟨e1,{fT:=e3,quiet:=uD c3,iZ:=fun e he=>absurd he (by simp),gT:=by simp,r2:=ak _,rM:=by decide,head:=?_,other:=.inl ?_,text:=rfl}⟩
 ·rw[hsec];exact ki (t:=.str) (by rw[au];omega)
 ·rw[hsec]
  show((cM (nth .str ((d.2.2.1.set 1 (cB [])).set 0 (cB (cV 2 0))) 1) 0).toNat:Int)≠83;rw[iS (t:=.str) (by omega),ki (t:=.str) (by omega)];decide
structure dz (x:Sh) (m:List (D aA)) (k:Nat):Prop where
 list:x.1.2.1=m
 names:(m.map (·.1)).Nodup
 l8:∃r:Nat,(x.1.1:Int)=(r:Int)/\r<=2+k/\cY x.2 r m
def xh{x:Sh}{m l:List (D aA)}{k:Nat}(h:dz x m k)(hk:k<=1000)(hf:∀e∈l,aL e=0)(hl:l.length<=3)(hn:(l.map (·.1)).Nodup):(jw x l).2=0/\dz (jw x l).1 l (k+1):=by
 obtain⟨r,h1,h2,h3⟩:=h.l8;obtain⟨k1,k2⟩:=EH h3 hf hl (by omega);unfold jw;rw[show(x.1.1:Int)=(r:Int)from h1,if_pos k1];exact⟨k1,rfl,hn,r+1,rfl,by omega,k2⟩
def dz.next{x:Sh}{m:List (D aA)}{k:Nat}(h:dz x m k):dz x m (k+1):=⟨h.list,h.names,let⟨r,h1,h2,h3⟩:=h.l8;⟨r,h1,by omega,h3⟩⟩
def zS{m:List (D aA)}{e:D aA}{i:Nat}(hi:i<m.length)(he:(nth aA m i).1=e.1):(m.set i e).map (·.1)=m.map (·.1):=by
 apply zk;intro j;rw[List.getElem?_map,List.getElem?_map,List.getElem?_set];by_cases c:i=j
 ·subst c
  rw[if_pos rfl,if_pos hi];have:=lU (t:=aA) hi;rw[this];simp[he]
 ·rw[if_neg c]
def J4{p:Nat->Prop}(h:∃i,p i):∃i,(∀j,j<i->¬p j)/\p i:=by
 obtain⟨i,hi⟩:=h;induction i using mx with
 |ind i ih=>
  by_cases c:∃j,j<i/\p j
  ·obtain⟨j,h1,h2⟩:=c;exact ih j h1 h2
  ·exact⟨i,fun j hj hp=>c ⟨j,hj,hp⟩,hi⟩
def pY(m:List (D aA))(s:aF):(∃i,i<m.length/\(∀j,j<i->(nth aA m j).1≠s)/\(nth aA m i).1=s/\dm m s=(i:Int))\/((∀j,j<m.length->(nth aA m j).1≠s)/\dm m s= -1):=by
 by_cases h:∃i,i<m.length/\(nth aA m i).1=s
 ·left
  obtain⟨i,h0,h1,h2⟩:=J4 h;exact⟨i,h1,fun j hj e=>h0 j hj ⟨by omega,e⟩,h2,qR h1 (fun j hj e=>h0 j hj ⟨by omega,e⟩) h2⟩
 ·right
  have h':∀j,j<m.length->(nth aA m j).1≠s:=fun j hj e=>h ⟨j,hj,e⟩
  exact⟨h',l7 h'⟩
def Cv{m:List (D aA)}{e:D aA}{i:Nat}(h:∀x∈m,aL x=0)(he:aL e=0):∀x∈m.set i e,aL x=0:=fun x hx=>by
 rcases List.mem_or_eq_of_mem_set hx with h1|h1
 ·exact h x h1
 ·exact h1▸he
def vz{m:List (D aA)}{s:aF}(h:∀j,j<m.length->(nth aA m j).1≠s):s∉m.map (·.1):=fun hm=>by
 obtain⟨e,he,rfl⟩:=b6.1 hm;obtain⟨j,hj,rfl⟩:=iq (t:=aA) he;exact h j hj rfl
def Cw{x:Sh}{m:List (D aA)}{k:Nat}(h:dz x m k)(hk:k<=1000)(e:D aA):(bY x e).2=(eZ m e).2/\dz (bY x e).1 (eZ m e).1 (k+1):=by
 obtain⟨r,h1,h2,h3⟩:=h.l8;have hl:=h.list;by_cases hf:aL e=0
 ·rcases pY m e.1 with⟨i,i1,i2,i3,i4⟩|⟨j1,j2⟩
  ·rw[x8 hf (by rw[hl,i4];omega),hl,i4,qV (by omega) i1 i2 i3,bb]
   exact xh h hk (Cv h3.iZ hf) (by rw[au];exact h3.gT) (by rw[zS i1 i3];exact h.names)
  ·by_cases c:(m.length:Int)=3
   ·rw[vu hf (by rw[hl,j2];omega) (by rw[hl];exact c),sJ (by omega) j1 c]
    exact⟨rfl,h.next⟩
   ·rw[tG hf (by rw[hl,j2];omega) (by rw[hl];exact c),hl,oy (by omega) j1 c]
    refine xh h hk (fun y hy =>?_) (by rw[aj,cc];have:=h3.gT;omega) ?_
    ·rcases ar.1 hy with hy|hy
     ·exact h3.iZ y hy
     ·rw[bo.1 hy];exact hf
    ·rw[dp,zl]
     refine⟨h.names,by simp,fun a ha b hb hab =>?_⟩;rw[zm,bo]at hb;exact vz j1 (by rw[<-hb,<-hab];exact ha)
 ·have:=ri e
  rw[sG hf,qU (by omega)];exact⟨rfl,h.next⟩
def xi{m:List (D aA)}{s:aF}(h:s∉m.map (·.1)):eR m s=m:=by
 unfold eR;exact zh.2 fun e he=>decide_eq_true fun hh=>h (b6.2 ⟨e,he,hh⟩)
def Cy:∀{m:List (D aA)} {s:aF} {i:Nat},(m.map (·.1)).Nodup->i<m.length->(nth aA m i).1=s->eR m s=m.eraseIdx i
 |[],_,_,_,h,_=>absurd h (c7 _)
 |e :: r,s,0,hn,_,he=>by
  have he:e.1=s:=he;rw[bd,zn]at hn;have h2:=xi (m:=r) (s:=s) (by rw[<-he];exact hn.1);unfold eR at*;rw[sT,if_neg (by simp[he]),h2];rfl
 |e :: r,s,i+1,hn,hi,he=>by
  have he:(nth aA r i).1=s:=he;rw[bd,zn]at hn;have hi:i<r.length:=by simpa using hi
  have h2:=Cy (m:=r) (s:=s) (i:=i) hn.2 hi he;have hne:e.1≠s:=fun hh=>hn.1 (by rw[hh,<-he];exact b6.2 ⟨_,gF (t:=aA) hi,rfl⟩)
  unfold eR at*;rw[sT,if_pos (decide_eq_true hne),h2];rfl
def fN:Sh:=((2,[],()),(fm (nw 112)).1)
def jU:dz fN [] 0:=⟨rfl,zo,2,rfl,ak _,(nk (oz (b5 _))).2⟩
def dz.at{x:Sh}{m:List (D aA)}{k:Nat}(h:dz x m k):∃r:Nat,x.1=((r:Int),m,())/\r<=2+k/\cY x.2 r m:=by
 obtain⟨r,h1,h2,h3⟩:=h.l8;exact⟨r,cy h1 (cy h.list rfl),h2,h3⟩
def dz.opens{x:Sh}{m:List (D aA)}{k:Nat}(h:dz x m k):aX x.2=((x.1.1,m),0):=by
 obtain⟨r,h1,h2,h3⟩:=h.at;rw[h3.opens,h1]
def dz.fA{x:Sh}{m:List (D aA)}{k:Nat}(h:dz x m k):(aX x.2).2=0:=by rw[h.opens]
def dz.again{x:Sh}{m:List (D aA)}{k:Nat}(h:dz x m k):(((aX x.2).1.1,(aX x.2).1.2,()):Int×List (D aA)×Unit)=x.1:=by
 rw[h.opens];exact cy rfl (cy h.list.symm rfl)
def cY.fJ{d:Dk}{r:Nat}{l:List (D aA)}(h:cY d r l):bO d 1000000:=⟨by have:=h.fT.gB;omega,by rw[h.quiet];exact a8 _,h.fT.J3⟩
def dz.fJ{x:Sh}{m:List (D aA)}{k:Nat}(h:dz x m k):bO x.2 1000000:=let⟨_,_,_,h3⟩:=h.at;h3.fJ
def dz.sec{x:Sh}{m:List (D aA)}{k:Nat}(h:dz x m k):∀i,i<x.2.2.2.1.length->(nth .str x.2.2.2.1 i).length=64:=let⟨_,_,_,h3⟩:=h.at;h3.fT.sec
def dz.gT{x:Sh}{m:List (D aA)}{k:Nat}(h:dz x m k):x.1.2.1.length<=3:=by rw[h.list];let⟨_,_,_,h3⟩:=h.at;exact h3.gT
def dz.round{x:Sh}{m:List (D aA)}{k:Nat}(h:dz x m k):0<=(x.1.1:Int)/\(x.1.1:Int)<=2+k:=by
 obtain⟨r,h1,h2,_⟩:=h.l8;omega
def dz.each{x:Sh}{m:List (D aA)}{k:Nat}(h:dz x m k):∀i,i<x.1.2.1.length->(nth aA x.1.2.1 i).2.1.length<=1000000/\(nth aA x.1.2.1 i).2.2.1.length<=1000000:=fun i hi=>by
 obtain⟨r,h1,h2,h3⟩:=h.at;have hl:=h.list;rw[hl]at hi ⊢;have h:=jg (h3.iZ _ (gF (t:=aA) hi));have h1:=h.p6;have h2:=h.zE;exact⟨by omega,by omega⟩
def dz.M4{x:Sh}{m:List (D aA)}{k:Nat}(h:dz x m k)(hk:k<=1000):x.1.2.1.length<=100/\0<=(x.1.1:Int)/\(x.1.1:Int)<=1000000000/\bO x.2 1000000:=
 ⟨bh h.gT (by decide),h.round.1,by have:=h.round.2;omega,h.fJ⟩
def dz.tI{x:Sh}{m:List (D aA)}{k:Nat}(h:dz x m k)(hk:k<=1000):x.1.2.1.length<=99/\0<=(x.1.1:Int)/\(x.1.1:Int)<=1000000000/\bO x.2 1000000:=
 ⟨bh h.gT (by decide),h.round.1,by have:=h.round.2;omega,h.fJ⟩
def Gl:aL vo=0:=by decide
def M5:(eZ [] vo)=([vo],0):=by
 rw[oy (by rw[Gl];decide) (fun j hj=>absurd hj (c7 _)) (by decide)];rfl
def hU:(bY fN vo).2=0/\dz (bY fN vo).1 [vo] 1:=by
 have:=Cw jU (by decide) vo;rw[M5]at this;exact this
def dz.ja{x:Sh}{m:List (D aA)}{k:Nat}(h:dz x m k):(aX x.2).1.2=x.1.2.1:=by rw[h.opens,h.list]
def dz.M6{x:Sh}{m:List (D aA)}{k:Nat}(h:dz x m k):(aX x.2).1.2.length<=1000000:=by
 rw[h.ja];exact bh h.gT (by decide)
end Go.Mrl

namespace Go.Vg
open Go
def DP{H:Type}{enc:TypeId×Value->H}{a:Assume}{C:Checked}{os:Os}{f:FuncId}{fn:Func}{s:ChangeSpec}{conds:List PathCond}{apart fresh handsOn again:Bool}{X:World->Array Value->Prop}
  (hX:∀(w w':World) (args:Array Value),w.heap=w'.heap->X w args->X w' args)
  (own:ownKnob C.prog.godebug=none)(started:os.Started)(noInit:C.prog.inits.idxOf? f=none)(hfn:C.prog.funcs[f]?=some fn)
  (witness:∃(w:World) (tape:Tape) (i:Input),w.os=os/\(w.forCall tape i).Shaped C.prog/\i.vars=[]/\Input.okWide C.prog (w.forCall tape i) .any w.heap.size f i/\
   ((s.pre enc C.prog fn conds apart (w.forCall tape i).memory i.args/\X (w.forCall tape i).memory i.args)/\sizedMet enc C.prog fn (zp s) apart (w.forCall tape i).memory i.args)/\a.holds C.prog (lone (Frame.enter C.prog f i.args .normal) [] (w.forCall tape i)))
  (contract:∀(W:World) (base:Nat) (args:Array Value) (ds gs:List (DataW H)) (before:List MemPlace),
   (∀(j:Nat) t v,fn.params[j]?=some t->args[j]?=some v->Value.okWide C.prog W .any base t v)->
   DataW.Whole enc C.prog fn.params.toList s.vars apart W args.toList ds gs before->
   X W args->W.ShapedOpen C.prog->
   Calls C.prog f args W fun e W'=>∃v,e=.returned v/\s.post enc C.prog fn apart fresh handsOn again W args v W') :
  ReturnsInHanded a C os f .any (fun w args=>(s.pre enc C.prog fn conds apart w args/\X w args)/\sizedMet enc C.prog fn (zp s) apart w args) (s.post enc C.prog fn apart fresh handsOn again):=by
 refine returnsInHanded_of_calls own started noInit witness ?_;intro w tape i _ hsh _ hok hpre hholds;obtain⟨_,_,_,fn',hfn',_,_,_,_,hval⟩:=hok;have e:fn'=fn:=ch (hfn'.symm.trans hfn);subst e;obtain⟨⟨⟨ds,gs,before,hw,hc⟩,hx⟩,hz⟩:=hpre;have hw':=DataW.Whole.of_heap (w':=w.forCall tape i) (by rfl) hw;refine(contract (w.forCall tape i) w.heap.size i.args ds gs before hval hw' (hX _ _ _ (by rfl) hx) hsh).mono fun e W' ⟨v,he,hp⟩ =>?_
 subst he;exact ChangeSpec.post_blind hp
def Cz{P:Program}{w:World}{g:Nat}{t:TypeId}{zero:Array Value}(h:w.ShapedOpen P)(hg:g<P.globals.size)
  (h0:((begin P (fun _ _=>0) default).world.heap[g]?).bind Obj.row?=some (zero,t))(hz:zero.size=1)
  (hb:P.buildable t=true)(hc:P.cellTypes P.depth t=some [t])(hu:P.underlying t=some (.int .i64)):∃m,w.cell? ⟨g,0,none⟩=some (.int .i64 m):=by
 obtain⟨cs,hh,hs,hr⟩:=h.1 g zero t hg h0;obtain⟨ts,hts,_,hall⟩:=hr hb;rw[hc]at hts;cases hts;have h1:0<cs.size:=by omega
 obtain⟨u,hu',hok⟩:=hall 0 cs[0] (by simp[h1]);have:u=t:=by simpa using hu'.symm
 subst this;have hcell:w.cell? ⟨g,0,none⟩=some cs[0]:=by simp[World.cell?,hh,h1]
 rw[hcell];unfold Cell.ok at hok;rw[hu]at hok;cases hv:cs[0] <;> rw[hv]at hok <;> first|exact hok.elim|(obtain⟨rfl,_⟩:=hok;exact⟨_,rfl⟩)|simp at hok
def KO:Option TypeDesc->Bool
 |some (.interface _)=>true
 |_=>false
def pZ{P:Program}{W:World}{name nm:String}{d:DataW Unit}{g:Nat}{t:TypeId}
  (hg:P.globalNamed name=some g)(hty:(P.globals[g]?).map (·.type)=some t)(hi:KO (P.underlying t)=true)
  (h:Lib.VarReads P W name (.iface nm d)):∃ev,W.cell? ⟨g,0,none⟩=some ev/\(ev=.nilIface\/∃te pe,ev=.iface te pe):=by
 obtain⟨g',t',cs,fuel,p,hg',ht',hvar,hd⟩:=h;obtain rfl:=ch (hg.symm.trans hg');obtain rfl:=ch (hty.symm.trans ht');have hc:=World.var?_cell hg hvar 0;obtain⟨ms,hu⟩:∃ms,P.underlying t=some (.interface ms):=by
  unfold KO at hi;split at hi
  ·rename_i ms hm;exact⟨ms,hm⟩
  ·cases hi
 cases fuel with
 |zero=>simp[s0]at hd
 |succ n=>
  cases hl:cs.toList with
  |nil=>rw[hl]at hd;simp[s0,hu]at hd
  |cons v r=>
   have h0:cs[0]?=some v:=by rw[<-Array.getElem?_toList,hl];rfl
   rw[h0]at hc;refine⟨v,hc,?_⟩;rw[hl]at hd;cases v <;> first|exact .inl rfl|exact .inr ⟨_,_,rfl⟩|(simp[s0,hu]at hd)
def CA{P:Program}{W:World}{name:String}{k:IntKind}{zs:List Int}{g:Nat}{t e:TypeId}{n:Nat}
  (hg:P.globalNamed name=some g)(hty:(P.globals[g]?).map (·.type)=some t)(ht:P.underlying t=some (.array n e))(he:P.underlying e=some (.int k))(hce:P.cellsOf e=1)(hct:P.cellsOf t=n)
  (h:Lib.VarReads P W name (Lib.tabData k zs)):Lib.TabIs P W name k zs:=by
 obtain⟨g',t',cs,fuel,p,hg',ht',hvar,hd⟩:=h;obtain rfl:=ch (hg.symm.trans hg');obtain rfl:=ch (hty.symm.trans ht');unfold Lib.TabIs;rw[hvar,<-Lib.cells_of_tab ht he hce hct hd]
end Go.Vg

namespace Go.Mrl
open Go.Vg
def CB{d d':Dk}{b:Int}(hb:0<=b):∀n:Nat,(∀i,b.toNat<=i->i<b.toNat+n->nth .str d'.2.2.1 i=nth .str d.2.2.1 i)->fq d' b n=fq d b n
 |0,_=>by rw[AS,AS]
 |n+1,h=>by
  rw[xb,xb,CB hb n fun i h1 h2=>h i h1 (by omega)];congr 1;exact h (b+(n:Int)).toNat (by omega) (by omega)
def cY.move{d d':Dk}{r:Nat}{l:List (D aA)}(h:cY d r l)(g:kq d')(q:d'.2.2.2.1=[])
  (hs:∀i,i=r % 2\/i=1-r % 2\/(2+r % 2*55<=i/\i<2+r % 2*55+55)->nth .str d'.2.2.1 i=nth .str d.2.2.1 i):cY d' r l where
 fT:=g
 quiet:=q
 iZ:=h.iZ
 gT:=h.gT
 r2:=h.r2
 rM:=h.rM
 head:=by rw[hs _ (.inl rfl)];exact h.head
 other:=by
  have e:=hs (1-r % 2) (.inr (.inl rfl));have:=h.other;rw[lz]at this ⊢;rw[e];exact this
 text:=by
  rw[CB (d:=d) (by omega) 55 fun i h1 h2=>hs i (.inr (.inr (by omega)))];exact h.text
def l9(d:Dk):Dk:=((-1,false,()),d.2.2.1,d.2.2.1,[],())
structure nT (d:Dk) (r:Nat) (l:List (D aA)):Prop where
 down:d.1.2.1=false
 gB : -1<=(d.1.1:Int)
 kept:d.2.1=d.2.2.1
 quiet:d.2.2.2.1=[]
 nK:cY (l9 d) r l
def EI{d:Dk}(h:d.1.2.1=false)(hf : -1<=(d.1.1:Int)):(∃f:Int,-1<=f/\stepOf d=(((f,false,()),d.2),0))\/stepOf d=(((-1,true,()),d.2),9):=by
 by_cases h0:d.1.1=0
 ·exact .inr (uh h h0)
 ·left
  rw[yW h h0 hf,h];refine⟨_,?_,rfl⟩;split <;> omega
def CC{d:Dk}{a:Int}{s:aF}(h:d.1.2.1=false)(hf : -1<=(d.1.1:Int))(h0:0<=a)(h1:a<d.2.2.1.length)(hs:s.length<=64) :
  (∃f:Int,-1<=f/\bB d a s=(((f,false,()),d.2.1,d.2.2.1.set a.toNat (cB s),d.2.2.2.1++[(a,cB s,())],()),0))\/bB d a s=(((-1,true,()),d.2),9):=by
 unfold bB;rw[if_neg (by omega)];rcases EI h hf with⟨f,k1,k2⟩|k
 ·left;rw[k2,if_pos rfl];exact⟨f,k1,rfl⟩
 ·right;rw[k,if_neg (show ¬(9:Int)=0 by decide)]
def CE{d:Dk}(h:d.1.2.1=false)(hf : -1<=(d.1.1:Int)):(∃f:Int,-1<=f/\bC d=(((f,false,()),d.2.2.1,d.2.2.1,[],()),0))\/bC d=(((-1,true,()),d.2),9):=by
 unfold bC;rcases EI h hf with⟨f,k1,k2⟩|k
 ·left;rw[k2,if_pos rfl];exact⟨f,k1,rfl⟩
 ·right;rw[k,if_neg (show ¬(9:Int)=0 by decide)]
def CF(bs:List Int):List aF->Int->List Nat->List aF
 |n,_,[]=>n
 |n,s,i :: r=>CF bs (n.set s.toNat (cB (bytesOf (cT (t:=.int .u8) bs 64 i)))) (s+1) r
def vA(bs:List Int)(i:Nat):(bytesOf (cT (t:=.int .u8) bs 64 i)).length<=64:=by rw[bytesOf,cz,l5];exact zj _ _
def xj(bs:List Int):∀(pre:List Nat) {d:Dk} {s:Int},kq d->0<=s->s+(pre.length:Int)<=d.2.2.1.length->(gb bs d s pre).1.2.2.1=CF bs d.2.2.1 s pre
 |[],_,_,_,_,_=>rfl
 |i :: r,d,s,g,h0,h1=>by
  rw[ao]at h1;obtain⟨w1,w2,w3⟩:=kr g (a:=s) h0 (by omega) (vA bs i);rw[gb,if_pos w1,xj bs r (s:=s+1) w3 (by omega) (by rw[w2,au];omega),w2];rfl
def oA(w:List (Int×List UInt8×Unit))(a b:Int):Prop:=∀x∈w,a<=x.1/\x.1<b/\x.2.1.length=64
def Il(bs:List Int):∀(pre:List Nat) {d:Dk} {s:Int} {lo:Int},d.1.2.1=false->-1<=(d.1.1:Int)->0<=lo->lo<=s->s+(pre.length:Int)<=d.2.2.1.length->oA d.2.2.2.1 lo s->
  (∃(f:Int) (w:List (Int×List UInt8×Unit)),-1<=f/\oA w lo (s+pre.length)/\gb bs d s pre=(((f,false,()),d.2.1,CF bs d.2.2.1 s pre,w,()),0))\/
  (∃(n:List aF) (w:List (Int×List UInt8×Unit)),n.length=d.2.2.1.length/\oA w lo (s+pre.length)/\gb bs d s pre=(((-1,true,()),d.2.1,n,w,()),9))
 |[],d,s,lo,h,hf,_,_,_,hw=>by
  refine .inl ⟨d.1.1,d.2.2.2.1,hf,by rw[hI,show s+((0:Nat):Int)=s by omega];exact hw,?_⟩;rw[gb,CF,<-h]
 |i :: r,d,s,lo,h,hf,h0,h1,h2,hw=>by
  rw[ao]at h2;rw[gb];rcases CC (a:=s) h hf (by omega) (by omega) (vA bs i)with⟨f,k1,k2⟩|k
  ·rw[k2,if_pos rfl]
   have:=Il bs r (d:=((f,false,()),d.2.1,d.2.2.1.set s.toNat (cB (bytesOf (cT (t:=.int .u8) bs 64 i))),d.2.2.2.1++[(s,cB (bytesOf (cT (t:=.int .u8) bs 64 i)),())],())) (s:=s+1) (lo:=lo) rfl k1 h0 (by omega) (by show _<=((d.2.2.1.set _ _).length:Int);rw[au];omega) (by
    intro x hx;rcases ar.1 hx with hx|hx
    ·have:=hw x hx;exact⟨this.1,by omega,this.2.2⟩
    ·rw[bo.1 hx];exact⟨h1,by show s<s+1;omega,qW (vA bs i)⟩)
   rw[ao,show s+((r.length+1:Nat):Int)=s+1+(r.length:Int) by omega];rcases this with h|⟨n,w,h1,h2⟩
   ·exact .inl h
   ·exact .inr ⟨n,w,h1.trans (au ..),h2⟩
  ·right
   rw[k,if_neg (by show ¬(9:Int)=0;decide)];refine⟨d.2.2.1,d.2.2.2.1,rfl,fun x hx =>?_,rfl⟩;have:=hw x hx;rw[ao];exact⟨this.1,by omega,this.2.2⟩
def zT{c:Int}{w:List (Int×List UInt8×Unit)}{k:List aF}{a b:Int}(ha:0<=a)(hw:oA w a b){i:Nat}(hi:(i:Int)<a\/b<=(i:Int)):∀n,n<=w.length->nth .str (ei c w k n) i=nth .str k i
 |0,_=>rfl
 |n+1,hn=>by
  rw[ei];have ih:=zT (c:=c) (k:=k) ha hw hi n (by omega);split
  ·have:=hw _ (gF (t:=du) (xs:=w) (i:=n) (by omega))
   rw[iS (t:=.str) (by omega),ih]
  ·exact ih
def zU{c:Int}{w:List (Int×List UInt8×Unit)}{k:List aF}{a b:Int}(hw:oA w a b)(hk:∀i,i<k.length->(nth .str k i).length=64):∀n,n<=w.length->∀i,i<k.length->(nth .str (ei c w k n) i).length=64
 |0,_=>hk
 |n+1,hn=>fun i hi=>by
  rw[ei];have ih:=zU (c:=c) hw hk n (by omega) i hi;split
  ·have:=hw _ (gF (t:=du) (xs:=w) (i:=n) (by omega))
   by_cases e:(nth du w n).1.toNat=i
   ·rw[e,ki (t:=.str) (by rw[ly];exact hi)];exact this.2.2
   ·rw[iS (t:=.str) e];exact ih
  ·exact ih
def zV{d:Dk}{r:Nat}{l:List (D aA)}(h:nT d r l){w:List (Int×List UInt8×Unit)}{n:List aF}{m:Nat}(hm:m<=55)(hw:oA w (2+((1-r % 2:Nat):Int)*55) (2+((1-r % 2:Nat):Int)*55+(m:Int)))(c:Int) :
  cY (eM ((-1,true,()),d.2.1,n,w,()) c) r l:=by
 have e:eM ((-1,true,()),d.2.1,n,w,()) c=((-1,false,()),ei c w d.2.1 w.length,ei c w d.2.1 w.length,[],()):=rfl;rw[e];have hs:=h.nK;have hk:d.2.1=(l9 d).2.2.1:=h.kept;refine hs.move ⟨rfl,rfl,?_,fun i hi =>?_,rfl⟩ rfl fun i hi =>?_
 ·show 112<=(ei c w d.2.1 w.length).length
  rw[ly,hk];exact hs.fT.len
 ·have hi:i<(ei c w d.2.1 w.length).length:=hi
  rw[ly]at hi;refine zU hw ?_ _ (ak _) i hi;rw[hk];exact hs.fT.sec
 ·show nth .str (ei c w d.2.1 w.length) i=_
  rw[zT (by omega) hw (by omega) _ (ak _),hk]
def Gm(d:Dk):Prop:=d.2.1.length=d.2.2.1.length/\∀i,i<d.2.2.2.1.length->0<=((nth du d.2.2.2.1 i).1:Int)/\((nth du d.2.2.2.1 i).1:Int)<(d.2.2.1.length:Int)
def yc{d:Dk}(h:d.2.1.length=d.2.2.1.length){a b:Int}(hw:oA d.2.2.2.1 a b)(ha:0<=a)(hb:b<=d.2.2.1.length):Gm d:=⟨h,fun i hi=>by
 have:=hw _ (gF (t:=du) hi);exact⟨bx ha this.1,Int.lt_of_lt_of_le this.2.1 hb⟩⟩
def Im(c a:Int)(x:aF)(k:List aF):ei c [(a,x,())] k 1=k\/ei c [(a,x,())] k 1=k.set a.toNat x:=by
 rw[ei];split
 ·right;rfl
 ·left;rfl
def Io{d:Dk}{r:Nat}{l l':List (D aA)}(h:nT d r l)(hf:∀e∈l',aL e=0)(hn:l'.length<=3)(hr:r+1<=1000000000) :
  ((bV d r l').2=0/\nT (bV d r l').1 (r+1) l')\/((bV d r l').2=9/\(bV d r l').1.1.2.1=true/\Gm (bV d r l').1/\∀c,cY (eM (bV d r l').1 c) r l\/cY (eM (bV d r l').1 c) (r+1) l'):=by
 have hb:=oX hf;have ht:=xg hf;have hs:(cI l').length<=2256:=by have:=nJ hf;omega
 have hlen:112<=d.2.2.1.length:=h.nK.fT.len;obtain⟨p,hp,hpd⟩:∃p:Nat,p<=1/\p=(r+1) % 2:=⟨_,by omega,rfl⟩
 have hm:((r:Int)+1).tmod 2=(p:Int):=by rw[b8 (by omega)];omega
 have hq:p=1-r % 2:=by omega
 have hN:(de l').length=dD (cI l').length 64:=by unfold de;rw[hR,ht,pg]
 have hN2:dD (cI l').length 64<=36:=by unfold dD;omega
 have ew:∀x:Dk,eH l' r x (de l')=gb (aZ (cI l')) x (2+(p:Int)*55) (de l'):=fun x=>by unfold eH;rw[ht,hm]
 have ef:∀x:Dk,pW l' r x=bC (eH l' r x (de l')).1:=fun _=>rfl
 have eh:∀x:Dk,nh l' r x=bB (pW l' r x).1 (p:Int) (cV ((r:Int)+1) (cI l').length):=fun x=>by unfold nh;rw[ht,hm]
 obtain⟨hk0,hk1⟩:=EH h.nK hf hn hr;have g:=h.nK.fT;obtain⟨s1,s2,s3,s4,s5⟩:=vy (aZ (cI l')) (de l') (s:=2+(p:Int)*55) g (by omega) (by show _<=(d.2.2.1.length:Int);rw[hN];omega);have s6:=xj (aZ (cI l')) (de l') (s:=2+(p:Int)*55) g (by omega) (by show _<=(d.2.2.1.length:Int);rw[hN];omega);rw[<-ew]at s1 s2 s3 s4 s5 s6;obtain⟨N,hNd⟩:∃N,N=CF (aZ (cI l')) d.2.2.1 (2+(p:Int)*55) (de l'):=⟨_,rfl⟩
 have s6:(eH l' r (l9 d) (de l')).1.2.2.1=N:=by rw[hNd];exact s6
 rw[s6]at s3 s4 s5;have s3:N.length=d.2.2.1.length:=s3;have hNsec:∀i,i<N.length->(nth .str N i).length=64:=by have:=s2.sec;rw[s6]at this;exact this
 obtain⟨t1,t2,t3⟩:=ku s2;obtain⟨u1,u2,u3⟩:=kr t3 (a:=(p:Int)) (s:=cV ((r:Int)+1) (cI l').length) (by omega) (by rw[t2,s6,s3];omega) (by rw[ng];decide);obtain⟨v1,v2,v3⟩:=ku u3;have hfin:(bV (l9 d) r l').1.2.2.1=N.set p (cB (cV ((r:Int)+1) (cI l').length)):=by
  have:bV (l9 d) r l'=bC (nh l' r (l9 d)).1:=by
   unfold bV;rw[if_neg (not_not_intro hb),if_neg (not_not_intro s1),if_neg (not_not_intro (show(pW l' r (l9 d)).2=0 from t1)),if_neg (not_not_intro (by rw[eh];exact u1))]
  rw[this,eh,ef,v2,u2,t2,s6,bb]
 have hout:∀i,i=r % 2\/i=1-r % 2\/(2+r % 2*55<=i/\i<2+r % 2*55+55)->nth .str N i=nth .str (l9 d).2.2.1 i:=fun i hi=>by
  apply s5;rw[hN];omega
 have atN:∀x:Dk,x.1=(-1,false,())->x.2.1=N->x.2.2.1=N->x.2.2.2.1=[]->cY x r l:=fun x e1 e2 e3 e4=>by
  refine h.nK.move ⟨by rw[e1],by rw[e1],by rw[e3,s3];exact hlen,by rw[e3];exact hNsec,by rw[e2,e3]⟩ e4 fun i hi=>by rw[e3];exact hout i hi
 have KF:∀x:Dk,x.1=(-1,false,())->x.2.1=x.2.2.1->x.2.2.1=N.set p (cB (cV ((r:Int)+1) (cI l').length))->x.2.2.2.1=[]->cY x (r+1) l':=fun x e1 e2 e3 e4=>by
  refine hk1.move ⟨by rw[e1],by rw[e1],?_,fun i hi =>?_,by rw[e2]⟩ e4 fun i _=>by rw[e3,hfin]
  ·rw[e3,au,s3];exact hlen
  ·have:=hk1.fT.sec i
   rw[hfin,<-e3]at this;exact this hi
 rcases Il (aZ (cI l')) (de l') (d:=d) (s:=2+(p:Int)*55) (lo:=2+(p:Int)*55) h.down h.gB (by omega) (b5 _) (by rw[hN];omega) (by rw[h.quiet];intro x hx;cases hx)with⟨f,w,f1,w1,k⟩|⟨n,w,wn,w1,k⟩
 case inr=>
  rw[<-ew]at k;right;have ek:bV d r l'=(((-1,true,()),d.2.1,n,w,()),9):=by
   unfold bV;rw[if_neg (not_not_intro hb),k,if_pos (show(9:Int)≠0 by decide)]
  rw[ek];refine⟨rfl,rfl,yc (by show d.2.1.length=n.length;rw[h.kept,wn]) w1 (by omega) (by show _<=(n.length:Int);rw[wn,hN];omega),fun c =>.inl (zV h (m:=(de l').length) (by omega) ?_ c)⟩;rw[<-hq];exact w1
 rw[<-ew,<-hNd]at k;have hw0:(eH l' r d (de l')).2=0:=by rw[k]
 rcases CE (d:=((f,false,()),d.2.1,N,w,())) rfl f1 with⟨f2,f3,k2⟩|k2
 case inr=>
  right;have ek:bV d r l'=(((-1,true,()),d.2.1,N,w,()),9):=by
   unfold bV;rw[if_neg (not_not_intro hb),if_neg (not_not_intro hw0),ef,k,k2,if_pos (show(9:Int)≠0 by decide)]
  rw[ek];refine⟨rfl,rfl,yc (by show d.2.1.length=N.length;rw[h.kept,s3]) w1 (by omega) (by show _<=(N.length:Int);rw[s3,hN];omega),fun c =>.inl (zV h (m:=(de l').length) (by omega) ?_ c)⟩;rw[<-hq];exact w1
 have hfl:pW l' r d=(((f2,false,()),N,N,[],()),0):=by rw[ef,k];exact k2
 rcases CC (d:=((f2,false,()),N,N,[],())) (a:=(p:Int)) (s:=cV ((r:Int)+1) (cI l').length) rfl f3 (by omega) (by show _<(N.length:Int);rw[s3];omega) (by rw[ng];decide)with⟨f4,f5,k3⟩|k3
 case inr=>
  right;have ek:bV d r l'=(((-1,true,()),N,N,[],()),9):=by
   unfold bV;rw[if_neg (not_not_intro hb),if_neg (not_not_intro hw0),hfl,if_neg (not_not_intro rfl),eh,hfl,k3,if_pos (show(9:Int)≠0 by decide)]
  rw[ek];exact⟨rfl,rfl,⟨rfl,fun i hi=>absurd hi (c7 _)⟩,fun c =>.inl (atN _ rfl rfl rfl rfl)⟩
 have hhd:nh l' r d=(((f4,false,()),N,N.set p (cB (cV ((r:Int)+1) (cI l').length)),[((p:Int),cB (cV ((r:Int)+1) (cI l').length),())],()),0):=by
  rw[eh,hfl,k3,bb];rfl
 have ek0:bV d r l'=bC (nh l' r d).1:=by
  unfold bV;rw[if_neg (not_not_intro hb),if_neg (not_not_intro hw0),if_neg (not_not_intro (by rw[hfl])),if_neg (not_not_intro (by rw[hhd]))]
 rcases CE (d:=((f4,false,()),N,N.set p (cB (cV ((r:Int)+1) (cI l').length)),[((p:Int),cB (cV ((r:Int)+1) (cI l').length),())],())) rfl f5 with⟨f6,f7,k4⟩|k4
 ·left
  rw[ek0,hhd,k4];exact⟨rfl,rfl,f7,rfl,rfl,KF _ rfl rfl rfl rfl⟩
 ·right
  rw[ek0,hhd,k4];refine⟨rfl,rfl,yc (a:=(p:Int)) (b:=(p:Int)+1) (au ..).symm (fun x hx=>by rw[bo.1 hx];exact⟨b5 _,by show(p:Int)<(p:Int)+1;omega,qW (by rw[ng];decide)⟩) (by omega) (by show _<=((N.set _ _).length:Int);rw[au,s3];omega),fun c =>?_⟩;rcases Im c (p:Int) (cB (cV ((r:Int)+1) (cI l').length)) N with e|e
  ·exact .inl (atN _ rfl e e rfl)
  ·refine .inr (KF _ rfl rfl (e.trans (by rw[bb])) rfl)
structure dG (x:Sh) (m:List (D aA)) (k:Nat):Prop where
 list:x.1.2.1=m
 names:(m.map (·.1)).Nodup
 l8:∃r:Nat,(x.1.1:Int)=(r:Int)/\r<=2+k/\nT x.2 r m
structure vB (d:Dk) (a b:List (D aA)) (k:Nat):Prop where
 down:d.1.2.1=true
 pre:Gm d
 an:(a.map (·.1)).Nodup
 bn:(b.map (·.1)).Nodup
 keeps:∀c,∃r:Nat,r<=2+k/\(cY (eM d c) r a\/cY (eM d c) r b)
def dG.next{x:Sh}{m:List (D aA)}{k:Nat}(h:dG x m k):dG x m (k+1):=⟨h.list,h.names,let⟨r,h1,h2,h3⟩:=h.l8;⟨r,h1,by omega,h3⟩⟩
def qX{x:Sh}{m l:List (D aA)}{k:Nat}(h:dG x m k)(hk:k<=1000)(hf:∀e∈l,aL e=0)(hl:l.length<=3)(hn:(l.map (·.1)).Nodup) :
  ((jw x l).2=0/\dG (jw x l).1 l (k+1))\/((jw x l).2=9/\vB (jw x l).1.2 m l (k+1)):=by
 obtain⟨r,h1,h2,h3⟩:=h.l8;unfold jw;rw[show(x.1.1:Int)=(r:Int)from h1];rcases Io h3 hf hl (by omega)with⟨k1,k2⟩|⟨k1,k2,kp,k3⟩
 ·left
  rw[if_pos k1];exact⟨k1,rfl,hn,r+1,rfl,by omega,k2⟩
 ·right
  refine⟨k1,k2,kp,h.names,hn,fun c =>?_⟩;rcases k3 c with k4|k4
  ·exact⟨r,by omega,.inl k4⟩
  ·exact⟨r+1,by omega,.inr k4⟩
def vC{x:Sh}{m:List (D aA)}{k:Nat}(h:dG x m k)(hk:k<=1000)(e:D aA) :
  ((bY x e).2=(eZ m e).2/\dG (bY x e).1 (eZ m e).1 (k+1))\/((bY x e).2=9/\(eZ m e).2=0/\vB (bY x e).1.2 m (eZ m e).1 (k+1)):=by
 obtain⟨r,h1,h2,h3⟩:=h.l8;have hl:=h.list;have h3:=h3.nK;by_cases hf:aL e=0
 ·rcases pY m e.1 with⟨i,i1,i2,i3,i4⟩|⟨j1,j2⟩
  ·rw[x8 hf (by rw[hl,i4];omega),hl,i4,qV (by omega) i1 i2 i3,bb]
   rcases qX h hk (l:=m.set i e) (Cv h3.iZ hf) (by rw[au];exact h3.gT) (by rw[zS i1 i3];exact h.names)with z|z
   ·exact .inl z
   ·exact .inr ⟨z.1,rfl,z.2⟩
  ·by_cases c:(m.length:Int)=3
   ·rw[vu hf (by rw[hl,j2];omega) (by rw[hl];exact c),sJ (by omega) j1 c]
    exact .inl ⟨rfl,h.next⟩
   ·rw[tG hf (by rw[hl,j2];omega) (by rw[hl];exact c),hl,oy (by omega) j1 c]
    have hn:((m++[e]).map (·.1)).Nodup:=by
     rw[dp,zl];refine⟨h.names,by simp,fun a ha b hb hab =>?_⟩;rw[zm,bo]at hb;exact vz j1 (by rw[<-hb,<-hab];exact ha)
    rcases qX h hk (l:=m++[e]) (fun y hy=>by
     rcases ar.1 hy with hy|hy
     ·exact h3.iZ y hy
     ·rw[bo.1 hy];exact hf) (by rw[aj,cc];have:=h3.gT;omega) hn with z|z
    ·exact .inl z
    ·exact .inr ⟨z.1,rfl,z.2⟩
 ·have:=ri e
  rw[sG hf,qU (by omega)];exact .inl ⟨rfl,h.next⟩
def sM{x:Sh}{m:List (D aA)}{k:Nat}(h:dG x m k)(hk:k<=1000)(s:aF) :
  ((dY x s).2=(fj m s).2/\dG (dY x s).1 (fj m s).1 (k+1))\/((dY x s).2=9/\(fj m s).2=0/\vB (dY x s).1.2 m (fj m s).1 (k+1)):=by
 obtain⟨r,h1,h2,h3⟩:=h.l8;have hl:=h.list;have h3:=h3.nK;rcases pY m s with⟨i,i1,i2,i3,i4⟩|⟨j1,j2⟩
 ·have e:=Cy h.names i1 i3
  have el:(m.eraseIdx i).length=m.length-1:=by rw[List.length_eraseIdx,if_pos i1]
  have ed:fj m s=(m.eraseIdx i,0):=by unfold fj;rw[if_neg (by rw[e,el];omega),e]
  have es:dY x s=jw x (m.eraseIdx i):=by unfold dY;rw[if_pos (by rw[hl,i4];omega),hl,i4,bb]
  rw[es,ed];rcases qX h hk (l:=m.eraseIdx i) (fun y hy=>h3.iZ y (List.mem_of_mem_eraseIdx hy)) (by rw[el];have:=h3.gT;omega) (h.names.sublist ((List.eraseIdx_sublist m i).map _))with z|z
  ·exact .inl z
  ·exact .inr ⟨z.1,rfl,z.2⟩
 ·have e:=xi (vz j1)
  have ed:fj m s=(m,5):=by unfold fj;rw[if_pos (by rw[e])]
  have es:dY x s=(x,5):=by unfold dY;rw[if_neg (by rw[hl,j2];omega)]
  rw[es,ed];exact .inl ⟨rfl,h.next⟩
def Au{d:Dk}(h:d.2.2.2.1=[])(c:Int):eM d c=((-1,false,()),d.2.1,d.2.1,[],()):=by unfold eM;rw[h];rfl
def Av{d:Dk}{r:Nat}{l:List (D aA)}(h:nT d r l)(c:Int):cY (eM d c) r l:=by
 rw[Au h.quiet,h.kept];exact h.nK
def Ip{d:Dk}{r:Nat}{l:List (D aA)}(h:cY d r l)(hk:d.2.1=d.2.2.1)(n:Int):nT (xU d n) r l:=by
 refine⟨h.fT.down,?_,hk,h.quiet,?_⟩
 ·show -1<=xL n (-1);unfold xL;split <;> omega
 ·have e:l9 (xU d n)=((-1,false,()),d.2.2.1,d.2.2.1,[],()):=rfl
  rw[e];exact h.move ⟨rfl,rfl,h.fT.len,h.fT.sec,rfl⟩ rfl fun i _=>rfl
def dG.M7{x:Sh}{m:List (D aA)}{k:Nat}(h:dG x m k):Gm x.2:=by
 obtain⟨r,h1,h2,h3⟩:=h.l8;exact⟨by rw[h3.kept],fun i hi=>by rw[h3.quiet]at hi;exact absurd hi (c7 _)⟩
def dG.gT{x:Sh}{m:List (D aA)}{k:Nat}(h:dG x m k):x.1.2.1.length<=3:=by rw[h.list];let⟨_,_,_,h3⟩:=h.l8;exact h3.nK.gT
def dG.tI{x:Sh}{m:List (D aA)}{k:Nat}(h:dG x m k)(hk:k<=1000):x.1.2.1.length<=99/\0<=(x.1.1:Int)/\(x.1.1:Int)<=1000000000/\bO x.2 1000000:=by
 obtain⟨r,h1,h2,h3⟩:=h.l8;refine⟨bh h.gT (by decide),by omega,by omega,h3.gB,by rw[h3.quiet];exact a8 _,by rw[h3.kept]⟩
def aP(f:Int):mr (aJ f)=f:=by
 unfold aJ;split
 ·rename_i h;rw[h];rfl
 ·rfl
def df(l:List (D aA)):List (D aA):=(dE l).map fun s=>(gz l s).1
def oY{l:List (D aA)}{i:Nat}(h:i<(dE l).length):((dE l).take i).map (fun s=>(gz l s).1)++[(gz l (nth .str (dE l) i)).1]=((dE l).take (i+1)).map fun s=>(gz l s).1:=by
 rw[gZ (t:=.str) h,dp];rfl
def J5{l:List (D aA)}(hn:(l.map (·.1)).Nodup){e:D aA}(h:e∈l):(gz l e.1).1=e:=by
 obtain⟨i,hi,rfl⟩:=iq (t:=aA) h;rcases pY l (nth aA l i).1 with⟨j,j1,j2,j3,j4⟩|⟨j1,j2⟩
 ·rw[x9 (by omega),j4,bb]
  have hij:j=i:=by
   apply aw;intro hne;have e1:(l.map (·.1))[j]?=some (nth aA l i).1:=by rw[List.getElem?_map,lU (t:=aA) j1,<-j3];rfl
   have e2:(l.map (·.1))[i]?=some (nth aA l i).1:=by rw[List.getElem?_map,lU (t:=aA) hi];rfl
   exact hne ((List.getElem?_inj (by rw[cz];exact j1) hn).1 (e1.trans e2.symm))
  rw[hij]
 ·exact absurd rfl (j1 i hi)
def sN{l:List (D aA)}(hn:(l.map (·.1)).Nodup):df l=l:=by
 unfold df dE;rw[dd];exact(zi fun e he=>J5 hn he).trans (List.map_id _)
def get_at{l:List (D aA)}{s:aF}{i:Nat}(hi:i<l.length)(hq:∀j,j<i->(nth aA l j).1≠s)(he:(nth aA l i).1=s):(gz l s).1=nth aA l i:=by
 have hf:=qR hi hq he;rw[x9 (by omega),hf,bb]
def get_none{l:List (D aA)}{s:aF}(h:∀j,j<l.length->(nth aA l j).1≠s):(gz l s).1=cE aA:=by
 rw[H7 (by rw[l7 h];decide)]
def bS(d:Dk)(c:Int):Dk:=hC (⟨eM d c,rfl⟩:∃y,y=eM d c)
def mM(d:Dk)(c:Int):bS d c=eM d c:=hG (⟨eM d c,rfl⟩:∃y,y=eM d c)
def kz(c:Int)(d:Dk)(a b:List (D aA)):Prop:=∃g:List (D aA),(g=a\/g=b)/\dz (((aX (bS d c)).1.1,(aX (bS d c)).1.2,()),bS d c) g 100
def sO{d:Dk}{r:Nat}{l:List (D aA)}(h:cY d r l)(hn:(l.map (·.1)).Nodup){k:Nat}(hr:r<=2+k):dz (((aX d).1.1,(aX d).1.2,()),d) l k:=by
 rw[h.opens];exact⟨rfl,hn,r,rfl,hr,h⟩
def dG.ends{x:Sh}{m:List (D aA)}{k:Nat}(h:dG x m k)(hk:k<=100)(c:Int):kz c x.2 m m:=by
 obtain⟨r,h1,h2,h3⟩:=h.l8;exact⟨m,.inl rfl,sO (by rw[mM];exact Av h3 c) h.names (by omega)⟩
def vB.ends{d:Dk}{a b:List (D aA)}{k:Nat}(h:vB d a b k)(hk:k<=100)(c:Int):kz c d a b:=by
 obtain⟨r,h1,h2|h2⟩:=h.keeps c
 ·exact⟨a,.inl rfl,sO (by rw[mM];exact h2) h.an (by omega)⟩
 ·exact⟨b,.inr rfl,sO (by rw[mM];exact h2) h.bn (by omega)⟩
def nz(s:aF):D aA:=(s,[([122,122],9,0,())],[],())
def Gn{s:aF}(h:aH s=0):aL (nz s)=0:=by
 have e:aL (nz [122,122])=0:=by decide
 have hz:¬aH [122,122] > 0:=by decide
 have hs:¬aH s > 0:=by omega
 exact(if_neg hs).trans ((if_neg hz).symm.trans e)
def Gp{e:D aA}(h:aL e=0):aH e.1=0:=by
 have:=eY e.1;unfold aL at h;split at h
 ·exact h
 ·omega
def jx(g:List (D aA)):aF:=if g.length=3 then(nth aA g 0).1 else[122,122]
def dU{x:Sh}{g:List (D aA)}{k:Nat}(h:dz x g k)(hk:k<=1000):(bY x (nz (jx g))).2=0/\dz (bY x (nz (jx g))).1 (eZ g (nz (jx g))).1 (k+1):=by
 obtain⟨r,h1,h2,h3⟩:=h.at;have hf:aL (nz (jx g))=0:=by
  apply Gn;unfold jx;split
  ·exact Gp (h3.iZ _ (gF (t:=aA) (by omega)))
  ·decide
 obtain⟨a,b⟩:=Cw h hk (nz (jx g));refine⟨?_,b⟩;rw[a];rcases pY g (nz (jx g)).1 with⟨i,i1,i2,i3,i4⟩|⟨j1,j2⟩
 ·rw[qV (by omega) i1 i2 i3]
 ·by_cases c:(g.length:Int)=3
  ·exfalso
   have hr:jx g=(nth aA g 0).1:=by unfold jx;rw[if_pos (by omega)]
   exact j1 0 (by omega) (by show _=jx g;rw[hr])
  ·rw[oy (by omega) j1 c]
def Gq{d:Dk}(h:(bC d).2=0):(bC d).1.2.1=(bC d).1.2.2.1:=by
 by_cases c:(stepOf d).2=0
 ·rw[yX c]
 ·rw[ui c]at h;exact absurd h c
def CG:fN.2.2.1=fN.2.2.2.1:=by
 have e:fm (nw 112)=eA (nw 112):=iY _;have h0:(eA (nw 112)).2=0:=by rw[<-e];exact(nk (oz (b5 _))).1
 show(fm (nw 112)).1.2.1=(fm (nw 112)).1.2.2.1;rw[e];unfold eA at h0 ⊢;split at h0
 ·cases h0
 ·split at h0
  ·rename_i c;exact absurd h0 c
  ·split at h0
   ·rename_i c;exact absurd h0 c
   ·split at h0
    ·rename_i c;exact absurd h0 c
    ·rename_i c1 c2 c3 c4
     rw[if_neg c1,if_neg c2,if_neg c3,if_neg c4];exact Gq h0
def Iq(n:Int):dG (fN.1,xU fN.2 n) [] 0:=by
 obtain⟨r,h1,h2,h3⟩:=jU.at;refine⟨rfl,zo,r,?_,h2,Ip h3 CG n⟩;rw[show fN.1=_ from h1]
def dG.self{x:Sh}{m:List (D aA)}{k:Nat}(h:dG x m k):dG x x.1.2.1 k:=by rw[h.list];exact h
def zW(m:List (D aA))(e:D aA):(eZ m e).2≠9:=by
 unfold eZ;split
 ·show aL e≠9
  intro h;unfold aL at h;have hn:aH e.1=0\/aH e.1=1\/aH e.1=3:=by
   unfold aH;split
   ·exact .inr (.inl rfl)
   ·split
    ·exact .inr (.inr rfl)
    ·exact .inl rfl
  have hst:∀l:List (D aE),gG l≠9:=by
   intro l;induction l with
   |nil=>intro h;cases h
   |cons p r ih=>
    have hp:cP p≠9:=by
     have hm:aH p.1=0\/aH p.1=1\/aH p.1=3:=by
      unfold aH;split
      ·exact .inr (.inl rfl)
      ·split
       ·exact .inr (.inr rfl)
       ·exact .inl rfl
     unfold cP;split
     ·omega
     ·split <;> decide
    unfold gG;split
    ·exact ih
    ·exact hp
  have hpt:∀(n:Nat) (l:List Pt),gu n l≠9:=by
   intro n l;induction l with
   |nil=>intro h;cases h
   |cons p r ih=>
    unfold gu;split
    ·exact ih
    ·unfold cK;split <;> decide
  split at h
  ·omega
  ·split at h
   ·cases h
   ·split at h
    ·exact hst _ h
    ·exact hpt _ _ h
 ·split
  ·show(2:Int)≠9;decide
  ·show(0:Int)≠9;decide
def xk(m:List (D aA))(s:aF):(fj m s).2≠9:=by
 unfold fj;split
 ·show(5:Int)≠9;decide
 ·show(0:Int)≠9;decide
def Ir{x:Sh}{k:Nat}(h:dG x x.1.2.1 k)(hk:k<=1000){e:D aA}(hn:(bY x e).2=(eZ x.1.2.1 e).2):dG (bY x e).1 (eZ x.1.2.1 e).1 (k+1):=by
 rcases vC h hk e with z|z
 ·exact z.2
 ·rw[z.1,z.2.1]at hn;cases hn
def cC{x:Sh}{k:Nat}(h:dG x x.1.2.1 k)(hk:k<=1000){e:D aA}(hn:(bY x e).2=9):vB (bY x e).1.2 x.1.2.1 (eZ x.1.2.1 e).1 (k+1):=by
 rcases vC h hk e with z|z
 ·rw[hn]at z;exact absurd z.1.symm (zW _ _)
 ·exact z.2.2
def J6{x:Sh}{k:Nat}(h:dG x x.1.2.1 k)(hk:k<=1000){e:D aA}(hn:(bY x e).2≠9):(bY x e).2=(eZ x.1.2.1 e).2:=by
 rcases vC h hk e with z|z
 ·exact z.1
 ·exact absurd z.1 hn
def EJ{x:Sh}{k:Nat}(h:dG x x.1.2.1 k)(hk:k<=1000){s:aF}(hn:(dY x s).2=(fj x.1.2.1 s).2):dG (dY x s).1 (fj x.1.2.1 s).1 (k+1):=by
 rcases sM h hk s with z|z
 ·exact z.2
 ·rw[z.1,z.2.1]at hn;cases hn
def bP{x:Sh}{k:Nat}(h:dG x x.1.2.1 k)(hk:k<=1000){s:aF}(hn:(dY x s).2=9):vB (dY x s).1.2 x.1.2.1 (fj x.1.2.1 s).1 (k+1):=by
 rcases sM h hk s with z|z
 ·rw[hn]at z;exact absurd z.1.symm (xk _ _)
 ·exact z.2.2
def Is{x:Sh}{k:Nat}(h:dG x x.1.2.1 k)(hk:k<=1000){s:aF}(hn:(dY x s).2≠9):(dY x s).2=(fj x.1.2.1 s).2:=by
 rcases sM h hk s with z|z
 ·exact z.1
 ·exact absurd z.1 hn
noncomputable abbrev KP (c:Int) (d:Dk):Sh:=(((aX (bS d c)).1.1,(aX (bS d c)).1.2,()),bS d c)
def kz.iZ{c:Int}{d:Dk}{a b:List (D aA)}(h:kz c d a b):bO (bS d c) 1000000/\∀i,i<(bS d c).2.2.1.length->(nth .str (bS d c).2.2.1 i).length=64:=let⟨_,_,hb⟩:=h;⟨hb.fJ,hb.sec⟩
def kz.err{c:Int}{d:Dk}{a b:List (D aA)}(h:kz c d a b):(aX (bS d c)).2=0:=let⟨_,_,hb⟩:=h;hb.fA
def dz.small{x:Sh}{m:List (D aA)}{k:Nat}(h:dz x m k):x.1.2.1.length<=1000/\∀i,i<x.1.2.1.length->(nth aA x.1.2.1 i).2.1.length<=1000000/\(nth aA x.1.2.1 i).2.2.1.length<=1000000:=⟨bh h.gT (by decide),h.each⟩
def dz.jj{x:Sh}{m:List (D aA)}{k:Nat}(h:dz x m k):(aX x.2).1.2.length<=1000/\∀i,i<(aX x.2).1.2.length->(nth aA (aX x.2).1.2 i).2.1.length<=1000000/\(nth aA (aX x.2).1.2 i).2.2.1.length<=1000000:=by rw[h.ja];exact h.small
def kz.small{c:Int}{d:Dk}{a b:List (D aA)}(h:kz c d a b):(aX (bS d c)).1.2.length<=1000/\∀i,i<(aX (bS d c)).1.2.length->(nth aA (aX (bS d c)).1.2 i).2.1.length<=1000000/\(nth aA (aX (bS d c)).1.2 i).2.2.1.length<=1000000:=let⟨_,_,hb⟩:=h;hb.small
def kz.two{c:Int}{d:Dk}{a b:List (D aA)}(h:kz c d a b):df (aX (bS d c)).1.2=a\/df (aX (bS d c)).1.2=b:=by
 obtain⟨g,hg,hb⟩:=h;have e:(aX (bS d c)).1.2=g:=hb.list;rw[e,sN hb.names];exact hg
def kz.pre{c:Int}{d:Dk}{a b:List (D aA)}(h:kz c d a b):(aX (bS d c)).1.2.length<=99/\0<=((aX (bS d c)).1.1:Int)/\((aX (bS d c)).1.1:Int)<=1000000000/\bO (bS d c) 1000000:=let⟨_,_,hb⟩:=h;hb.tI (by decide)
def kz.dU{c:Int}{d:Dk}{a b:List (D aA)}(h:kz c d a b)(hn:¬((df (aX (bS d c)).1.2).length:Int)=3):(bY (KP c d) (nz [122,122])).2=0/\∃m,dz (bY (KP c d) (nz [122,122])).1 m 101:=by
 obtain⟨g,hg,hb⟩:=h;have e:(aX (bS d c)).1.2=g:=hb.list;rw[e,sN hb.names]at hn;have hr:jx g=[122,122]:=by unfold jx;rw[if_neg (by omega)]
 have:=Mrl.dU hb (by decide);rw[hr]at this;exact⟨this.1,_,this.2⟩
def kz.ep{c:Int}{d:Dk}{a b:List (D aA)}(h:kz c d a b)(hn:((df (aX (bS d c)).1.2).length:Int)=3):(bY (KP c d) (nz (nth aA (df (aX (bS d c)).1.2) 0).1)).2=0/\∃m,dz (bY (KP c d) (nz (nth aA (df (aX (bS d c)).1.2) 0).1)).1 m 101:=by
 obtain⟨g,hg,hb⟩:=h;have e:(aX (bS d c)).1.2=g:=hb.list;have ha:df (aX (bS d c)).1.2=g:=by rw[e,sN hb.names]
 rw[ha]at hn ⊢;have hr:jx g=(nth aA g 0).1:=by unfold jx;rw[if_pos (by omega)]
 have:=Mrl.dU hb (by decide);rw[hr]at this;exact⟨this.1,_,this.2⟩
end Go.Mrl

