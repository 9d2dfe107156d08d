/- A part of the proof that the law LoaderSaysCard holds of the given program: facts that are used there. -/
import Derived.Test.YtgokjhhcfemnhabGreatDoorPart1
import Derived.Deep.Heap
import Derived.Room.AppendFits
import Derived.Lib.UnsafeStr
import Derived.Lib.SplitLaws
import Derived.Lib.ItoaNum
import Derived.Lib.AtoiAll
set_option linter.unusedSimpArgs false
set_option linter.unusedVariables false
set_option linter.defProp false
noncomputable section
open True renaming intro->aa
open Go.Lib renaming itoa->ab,trimSuffix->ae,decDigits->ag,hasPrefix->ax,trimPrefix->a7,index->br,parseUint10->bt,atoiAll->cm,splitK->dk,strCells->dq,strCells_length->dT
open List renaming take->af,mem_cons->ah,drop->ai,map_cons->aq,length_append->az,mem_append->bb,length_take->bc,all_eq_true->bh,drop_eq_nil_of_le->bj,replicate->bk,take_of_length_le->bm,filter_cons->bn,length->bo,mem_map->bp,pairwise_cons->bu,mem_map_of_mem->bw,range->b6,flatMap_cons->b9,mem_of_getElem?->cd,any_eq_true->cf,take_length->cj,mem_cons_of_mem->ck,mem_of_mem_take->cn,take_add_one->cp,getElem_of_mem->ct,range_succ->cu,length_cons->cw,append_assoc->c6,mem_range->da,any_eq_false->db,all_eq_false->dd,nodup_cons->dh,length_map->di,isPrefixOf->dj,length_singleton->dm,cons_append->dn,length_pos_iff->dx,map_map->ec,getElem_take->ej,mem_singleton->eo,drop_zero->er,mem_append_left->eu,take_append_drop->ew,size_toArray->ez,foldl_append->fb,drop_eq_getElem_cons->fo,ext_getElem->fp,nil_append->fq,mem_filter->fr,nodup_append->fs,take_succ_cons->ft,take_zero->fw,length_nil->fy,mem_flatMap->ga
open Int renaming not_lt->aj,le_refl->av,toNat->ay,le_trans->b8,ofNat_inj->cz,not_le->dp,tmod_eq_emod_of_nonneg->ds,toNat_natCast->du,fdiv_eq_ediv_of_nonneg->fm,le_sub_one_of_lt->fu
open BitVec renaming ofInt->ak,ofInt_natCast->dr,toNat_and->fj,toNat_ofNat->fk
open Nat renaming zero_le->ao,le_refl->ar,le_succ->a8,min->bg,lt_or_ge->bq,not_lt->b7,mod_lt->cg,mod_eq_of_lt->cq,le_trans->cx,xor_lt_two_pow->dc,min_eq_left->df,strongRecOn->dw,zero_add->dz,testBit_two_pow_mul->ef,lt_of_lt_of_le->eg,pow_le_pow_right->eh,eq_of_testBit_eq->fc,testBit_and->fe,testBit_div_two_pow->fg,testBit_lt_two_pow->fh,testBit_xor->fl,min_eq_right->gb
open Classical renaming byContradiction->au,choose->cr,choose_spec->dt
open Go.IntKind renaming wrap->aw,u64->bf,signed->bz,bits->b5,u32->ch,u8->c1,min->c7,max->c8,i64->ee
open Bool renaming and_eq_true->ba,or_eq_true->cc,not_eq_true'->dy,or_eq_false_iff->ed,eq_iff_iff->ei,not_eq_true->fv,and_false->fz
open Go.Op renaming bytesLess->bd
open Go.Value renaming int->bx
open UInt8 renaming ofNat->cy,toNat_inj->dv,lt_iff_toNat_lt->ek,toNat_ofNat'->e9
open Option.some renaming inj->de,injEq->ep
open List.Perm renaming swap->en
open Option renaming bind_some->et
open Go.World renaming block_lt_of_cell?->ey
open Go.Builtin renaming append_->e8
namespace Go.Vg
open Go.RowKit
section
variable{X:Ext}{P:Program}{aU:List Ob}{args:List Cl}
def E0{a:CD args}{x:PD aU}{ν:List Nat}{st:St}{K:SV->St->VC}:∀{alts:List (Alt aU args)},(Ag a x ν st K alts).holds->∀al∈alts,(Kb al a x ν st K).holds
 |[],_,al,h=>by simp at h
 |[al0],h,al,ha=>by simp at ha;subst ha;exact h
 |al0 :: al1 :: r,h,al,ha=>by
  rcases ah.1 ha with e|ha
  ·subst e;exact h.1
  ·exact E0 h.2 al ha
def HH{a:CD args}{x:PD aU}{vs:List dC}{st:St}:∀{alts:List (Alt aU args)},(uO a x vs st alts).holds->∃al∈alts,∃ν,
  nodupB ν=true/\xC 0 aU al.bS ν=true/\(al.cv=false\/(uK aU=true/\iv al.bS=true/\la al.res=true))/\al.ok a x/\
  nC al.cv (mf al.res st vs).2.aH al.bS ν al.res (mf al.res st vs).1=some (al.ret a x)/\fE al.cv (mf al.res st vs).2.aH al.bS ν al.bS ν=some (al.out a x)/\
  (∀p∈nS al.bS (al.out a x) al.res (mf al.res st vs).1,p)/\(∀p∈jX al.bS (al.out a x) (mf al.res st vs).2.aH al.bS ν,p)
 |[],h=>h.elim
 |al :: r,h=>by
  have rest:(uO a x vs st r).holds->∃al'∈al :: r,∃ν,
    nodupB ν=true/\xC 0 aU al'.bS ν=true/\(al'.cv=false\/(uK aU=true/\iv al'.bS=true/\la al'.res=true))/\al'.ok a x/\
    nC al'.cv (mf al'.res st vs).2.aH al'.bS ν al'.res (mf al'.res st vs).1=some (al'.ret a x)/\fE al'.cv (mf al'.res st vs).2.aH al'.bS ν al'.bS ν=some (al'.out a x)/\
    (∀p∈nS al'.bS (al'.out a x) al'.res (mf al'.res st vs).1,p)/\(∀p∈jX al'.bS (al'.out a x) (mf al'.res st vs).2.aH al'.bS ν,p):=fun h=>by
   obtain⟨al',h1,h2⟩:=HH h;exact⟨al',by simp[h1],h2⟩
  simp only[uO]at h;split at h
  ·rename_i ν hν
   split at h
   ·rename_i b y hc hb hy
    simp only[ba,cc,dy]at hc;obtain⟨h1,h2,h3⟩:=hc;have hall:=xl h;have k3:al.ok a x/\y=al.out a x/\b=al.ret a x:=hall _ (List.mem_append_right _ (by simp));obtain⟨k4,k5,k6⟩:=k3;subst k5;subst k6;obtain⟨k1,_⟩:=kB.1 hall;obtain⟨k1,k2⟩:=kB.1 k1;exact⟨al,by simp,ν,h1,h2,h3,k4,hb,hy,k1,k2⟩
   ·exact rest h
  ·exact rest h
def HI{B:Cx}{f:FuncId}{pre:CD args->PD aU->Prop}{alts:List (Alt aU args)}
  {O:aK}{st:St}{loc:Nat->Loc}{w:World}{aem:List dC}{vs:List Value}{K:SV->St->VC}(g:Good B.eT X (aC O st loc w))(hO:fT O w)(ha:dE B.eT (aC O st loc w) aem vs)
  {ν:List Nat}{a:CD args}{x:PD aU}(hnd:nodupB ν=true)(hga:nC false st.aH aU ν args aem=some a)(hx:fE false st.aH aU ν aU ν=some x)
  (hp1:∀p∈nS aU x args aem,p)(hp2:∀p∈jX aU x st.aH aU ν,p)(hpre:pre a x)(hK:(Ag a x ν st K alts).holds)
  (hcall:fM args a->∀(O':aK) (loc0:Nat->Loc),Good B.eT X (aC O' (mh aU args a x) loc0 w)->fT O' w->dE B.eT (aC O' (mh aU args a x) loc0 w) (zY (iw aU x (upto 0 aU.length)) args a) vs->vs.length=args.length->
   Calls P f vs.toArray w fun e w'=>∃rs us' st' locE,e=.returned (xA us')/\(uO a x rs st' alts).holds/\dE B.eT (aC O' st' locE w') rs us'/\Good B.eT X (aC O' st' locE w')/\Tr (aC O' (mh aU args a x) loc0 w) (aC O' st' locE w')) :
  Calls P f vs.toArray w fun e w'=>∃v sv st' loc',e=.returned v/\(K sv st').holds/\st'.env=st.env/\Good B.eT X (aC O st' loc' w')/\
   Tr (aC O st loc w) (aC O st' loc' w')/\eL B.eT (aC O st' loc' w') sv v:=by
 have hvals:=Hw g hx hga ha hp1;have hobsl:=pr hx
 let us:=upto 0 aU.length
 have hul:ν.length=us.length:=by rw[xn];exact hobsl.symm
 let O':aK:=fun b off=>O b off\/∃n oc,look st.aH n=some oc/\n∉ν/\b∈(loc n).bs/\oc.lo<=off
 let st0:=mh aU args a x
 have hOin':fT O' w:=by
  rintro b off (h|⟨n,oc,h1,_,h2,_⟩)
  ·exact hO b off h
  ·exact(g.obj n oc h1).2.inside b h2
 have hlo:∀n∈ν,∀oc,look st.aH n=some oc->uK aU=true->oc.lo=0:=by
  intro n hn oc h1 h2;obtain⟨o,oc',y,k1,k2,k3⟩:=lI hx hn;rw[h1]at k2;cases k2;have:=(nt k3 (fun _ =>.any)).2.2.2 (fun t=>HG h2 k1) rfl;cases oc <;> first|rfl|exact(this _ _ rfl).elim
 have hν:∀n∈ν,∃oc,look st.aH n=some oc:=fun n hn=>let⟨_,oc,_,_,k,_⟩:=lI hx hn;⟨oc,k⟩
 let loc0:=fU us (ν.map loc) loc
 have hf0:∀k oc,look st0.aH k=some oc->∃(i n:Nat) (o:Ob) (y:OD o) (oc0:OC),ν[i]?=some n/\us[i]?=some k/\aU[i]?=some o/\look st.aH n=some oc0/\lf false st.aH aU ν o oc0=some y/\oc=rG (iw aU x us) o y/\loc0 k=loc n:=by
  intro k oc hk;obtain⟨i,n,o,y,oc0,k1,k2,k3,k4,k5,k6,_⟩:=qY hx (qX (X:=X) g hx hx hp2) hul hk;exact⟨i,n,o,y,oc0,k1,k2,k3,k4,k5,k6,lH (mv _ _) k2 (by simp[k1])⟩
 have hA0:∀b o,(aC O' st0 loc0 w).A b o->(aC O st loc w).A b o:=by
  rintro b off ((h|⟨n,oc,h1,_,h2,h3⟩)|⟨k,oc,h1,h2,h3⟩)
  ·exact .inl h
  ·exact .inr ⟨n,oc,h1,h2,h3⟩
  ·obtain⟨i,n,o,y,oc0,_,_,_,k4,k5,k6,k7⟩:=hf0 k oc h1
   refine .inr ⟨n,oc0,k4,by simp only[aC]at h2;rw[k7]at h2;exact h2,?_⟩;rcases BQ (f:=iw aU x us) k5 with e|e
   ·rw[<-e,<-k6];exact h3
   ·cases e
 have hown0:∀b,(aC O' st0 loc0 w).owns b->∃n∈ν,b∈(loc n).bs:=by
  rintro b ⟨k,oc,h1,h2⟩;obtain⟨i,n,o,y,oc0,k1,_,_,_,_,_,k7⟩:=hf0 k oc h1;exact⟨n,cd k1,by simp only[aC]at h2;rw[k7]at h2;exact h2⟩
 obtain⟨g0,laid0⟩:=J8 (X:=X) g hx hp2 hnd (O2:=O') (ν2:=us) (rest:=[]) (locR:=loc) (st2:=st0) (mv _ _) hul
  (by simp[st0,mh,us]) (fun n hn=>by have:=xm hn;simp[st0,mh];omega)
  (fun n hn b hb off=>by
   obtain⟨oc,k⟩:=hν n hn;rintro(h|⟨m,oc',h1,h2,h3,_⟩)
   ·exact g.out n oc b off k hb h
   ·exact h2 (by rw[<-g.apart n m oc oc' b k h1 hb h3];exact hn))
  (fun n hn b hb m oc h=>by simp[look]at h) (fun m oc h=>by simp[look]at h) (fun m m' oc oc' b h=>by simp[look]at h) (fun m oc b off h=>by simp[look]at h) (.inr hA0)
  (fun b hb h=>by
   obtain⟨n,hn,hbn⟩:=hown0 b h;obtain⟨oc,k⟩:=hν n hn;exact g.lU.2 b hb ⟨n,oc,k,hbn⟩)
 have hargs:dE B.eT (aC O' st0 loc0 w) (zY (iw aU x us) args a) vs:=KY (S:=aC O st loc w) (S':=aC O' st0 loc0 w) rfl (fun k v hk=>z7 laid0 hk) (.inr hA0) hvals;have hcalls:=hcall (BU hvals) O' loc0 g0 hOin' hargs (xD hvals);refine hcalls.mono ?_;rintro e w' ⟨rs,us',st',locE,he,hk,hr,gE',trE'⟩;obtain⟨al,hal,ν',hnd',hkept,hcv,hokal,hret,hout,hc1,hc2⟩:=HH hk;obtain⟨tF,gE,_,kF⟩:=xE al.res rs gE';generalize hst2:(mf al.res st' rs).2=st2 at*;generalize hrs2:(mf al.res st' rs).1=rs2 at*;have trE:=trE'.trans tF;have hrE:=kF us' hr;have hKal:=E0 hK al hal;unfold Kb at hKal;split at hKal
 case h_2=>exact hKal.elim
 rename_i hn1;simp only[ba]at hn1;obtain⟨hnd1,hbel⟩:=hn1;have hKal:=hKal hokal;generalize hν1:ox aU al.bS ν st.next=ν1 at*;have hl1:ν'.length=ν1.length:=by rw[<-hν1,rL];exact(pr hout).symm
 generalize hst1:({env:=st.env,aH:=mQ (iw al.bS (al.out a x) ν1) al.bS (al.out a x) ν1++sC st.aH ν,next:=st.next+al.bS.length}:St)=st1 at hKal;have h1env:st1.env=st.env:=by rw[<-hst1]
 have h1objs:st1.aH=mQ (iw al.bS (al.out a x) ν1) al.bS (al.out a x) ν1++sC st.aH ν:=by rw[<-hst1]
 have h1next:st1.next=st.next+al.bS.length:=by rw[<-hst1]
 let loc1:=fU ν1 (ν'.map locE) loc
 have hf1:∀m oc,look st1.aH m=some oc->(∃(i n:Nat) (o:Ob) (y:OD o) (oc0:OC),ν'[i]?=some n/\ν1[i]?=some m/\al.bS[i]?=some o/\look st2.aH n=some oc0/\lf al.cv st2.aH al.bS ν' o oc0=some y/\
   oc=rG (iw al.bS (al.out a x) ν1) o y/\loc1 m=locE n)\/(m∉ν1/\m∉ν/\look st.aH m=some oc/\loc1 m=loc m):=by
  intro m oc hm;rw[h1objs,dZ]at hm;split at hm
  ·rename_i oc' hm'
   cases hm;obtain⟨i,n,o,y,oc0,k1,k2,k3,k4,k5,k6,_⟩:=qY hout (qX (X:=X) gE hout hout hc2) hl1 hm';exact .inl ⟨i,n,o,y,oc0,k1,k2,k3,k4,k5,k6,lH hnd1 k2 (by simp[k1])⟩
  ·rename_i hm'
   have hnin:m∉ν1:=fun hmem=>by
    obtain⟨oc1,h2⟩:=qD (f:=iw al.bS (al.out a x) ν1) (x:=al.out a x) (by rw[<-hν1,rL]) hmem;rw[h2]at hm';cases hm'
   rw[og]at hm;split at hm
   ·cases hm
   ·rename_i hmn
    exact .inr ⟨hnin,hmn,hm,nr hnin⟩
 have hownE:∀n∈ν',∀b∈(locE n).bs,(aC O' st2 locE w').owns b:=by
  intro n hn b hb;obtain⟨_,oc,_,_,k,_⟩:=lI hout hn;exact⟨n,oc,k,hb⟩
 have hblk:∀m oc,look st.aH m=some oc->m∉ν->∀b∈(loc m).bs,¬(aC O' st0 loc0 w).owns b:=by
  intro m oc h1 h2 b hb' ho;obtain⟨n,hn,hbn⟩:=hown0 b ho;obtain⟨oc',k⟩:=hν n hn;have:=g.apart n m oc' oc b k h1 hbn hb';exact h2 (by rw[<-this];exact hn)
 have hA1:al.cv=false->∀b o,(aC O st1 loc1 w').A b o->(aC O' st2 locE w').A b o:=by
  rintro hcv0 b off (h|⟨m,oc,h1,h2,h3⟩)
  ·exact .inl (.inl h)
  ·rcases hf1 m oc h1 with⟨i,n,o,y,oc0,k1,k2,k3,k4,k5,k6,k7⟩|⟨k1,k2,k3,k4⟩
   ·refine .inr ⟨n,oc0,k4,by simp only[aC]at h2;rw[k7]at h2;exact h2,?_⟩
    rcases BQ (f:=iw al.bS (al.out a x) ν1) k5 with e|e
    ·rw[<-e,<-k6];exact h3
    ·rw[hcv0]at e;cases e
   ·exact .inl (.inr ⟨m,oc,k3,k2,by simp only[aC]at h2;rw[k4]at h2;exact h2,h3⟩)
 have hkeep:∀(m i:Nat),ν1[i]?=some m->m<st.next->∃o o',aU[i]?=some o/\al.bS[i]?=some o'/\px o o'=true/\ν[i]?=some m:=by
  intro m i h1 h2;rw[<-hν1]at h1;rcases sE h1 with h3|h3
  ·exact h3
  ·omega
 have hT:Tr (aC O st loc w) (aC O st1 loc1 w'):={
  O:=rfl
  next:=by simp only[aC];omega
  os:=trE.os
  output:=trE.output
  size:=trE.size
  own:=by
   rintro b ⟨m,oc,h1,h2⟩;rcases hf1 m oc h1 with⟨i,n,o,y,oc0,k1,k2,k3,k4,k5,k6,k7⟩|⟨k1,k2,k3,k4⟩
   ·simp only[aC]at h2;rw[k7]at h2
    rcases trE.own b (hownE n (cd k1) b h2)with h3|h3
    ·obtain⟨n',hn',hb'⟩:=hown0 b h3
     obtain⟨oc',k⟩:=hν n' hn';exact .inl ⟨n',oc',k,hb'⟩
    ·exact .inr h3
   ·simp only[aC]at h2;rw[k4]at h2;exact .inl ⟨m,oc,k3,h2⟩
  cell:=by
   intro b off v hna hcell;obtain⟨h1,h2⟩:=trE.cell b off v (fun h=>hna (hA0 b off h)) hcell;refine⟨h1,fun h3 =>?_⟩;rcases hcv with hcv|⟨hnt,_,_⟩
   ·exact h2 (hA1 hcv b off h3)
   ·rcases h3 with h3|⟨m,oc,h3,h4,h5⟩
    ·exact hna (.inl h3)
    ·rcases hf1 m oc h3 with⟨i,n,o,y,oc0,k1,k2,k3,k4,k5,k6,k7⟩|⟨k1,k2,k3,k4⟩
     ·simp only[aC]at h4;rw[k7]at h4
      rcases trE.own b (hownE n (cd k1) b h4)with h6|h6
      ·obtain⟨n',hn',hb'⟩:=hown0 b h6
       obtain⟨oc',k⟩:=hν n' hn';exact hna (.inr ⟨n',oc',k,hb',by rw[hlo n' hn' oc' k hnt];exact ao _⟩)
      ·have:=ey _ _ hcell
       simp only[aC]at this h6;omega
     ·simp only[aC]at h4;rw[k4]at h4;exact hna (.inr ⟨m,oc,k3,h4,h5⟩)
  block:=fun b hb' ho=>trE.block b hb' fun h=>ho (by
   obtain⟨n,hn,hbn⟩:=hown0 b h;obtain⟨oc,k⟩:=hν n hn;exact⟨n,oc,k,hbn⟩)
  loc:=by
   intro m hm hfix;by_cases hin:m∈ν1
   ·obtain⟨i,hi⟩:=List.getElem?_of_mem hin
    obtain⟨o,o',e1,e2,e3,e4⟩:=hkeep m i hi hm;have hiE:i<ν'.length:=by rw[hl1];exact bN hi
    have hn':ν'[i]?=some ν'[i]:=List.getElem?_eq_getElem hiE;have hni:=EZ hkept e1 e2 e3 hn';rw[dz]at hni;have e5:loc1 m=locE i:=by
     have:=lH (d:=loc) hnd1 hi (ls:=ν'.map locE) (l:=locE i) (by simp[hn',hni]);exact this
    have hui:us[i]?=some i:=by have:=DA aU.length 0 i (bN e1);simpa using this
    have e6:loc0 i=loc m:=lH (mv _ _) hui (by simp[e4]);have e7:=trE.loc i (show i<st0.next by simp[st0,mh];exact bN e1) (fun t ys hy=>by
     obtain⟨j,n,o2,y,oc0,k1,k2,k3,k4,k5,k6,k7⟩:=hf0 i _ hy;have hj:j=i:=sx (mv _ _) k2 hui;subst hj;rw[e1]at k3;cases k3;cases o <;> simp[rG]at k6;cases o' <;> simp[px]at e3)
    show(loc1 m).v=(loc m).v/\(_->loc1 m=loc m);rw[e5,<-e6];refine⟨e7.1,fun hr=>e7.2 fun t z hy =>?_⟩;obtain⟨j,n,o2,y,oc0,k1,k2,k3,k4,k5,k6,k7⟩:=hf0 i _ hy;have hj:j=i:=sx (mv _ _) k2 hui;subst hj;rw[e4]at k1;cases k1;cases o2 <;> simp[rG]at k6;obtain⟨rfl,rfl,_⟩:=k6;obtain⟨z',rfl⟩:=(nt k5 (fun _ =>.any)).2.1 _ _ rfl;exact hr _ _ k4
   ·exact p8 (nr hin)
  kind:=by
   intro m oc' hm hob;rcases hf1 m oc' hob with⟨i,n,o,y,oc0,k1,k2,k3,k4,k5,k6,k7⟩|⟨k1,k2,k3,k4⟩
   ·obtain⟨o0,o',e1,e2,e3,e4⟩:=hkeep m i k2 hm
    rw[k3]at e2;cases e2;have hui:us[i]?=some i:=by have:=DA aU.length 0 i (bN e1);simpa using this
    obtain⟨oc2,h2⟩:=qD (f:=iw aU x us) (x:=x) (ms:=us) (by rw[xn]) (cd hui);obtain⟨j,n2,o2,y2,oc3,j1,j2,j3,j4,j5,j6,j7⟩:=hf0 i oc2 (by simpa[st0,mh]using h2);have hj:j=i:=sx (mv _ _) j2 hui;subst hj;rw[e1]at j3;cases j3;rw[e4]at j1;cases j1;refine⟨oc3,j4,?_⟩;cases o0 <;> cases o <;> simp[px]at e3
    ·subst e3
     obtain⟨cs,rfl⟩:=(nt j5 (fun _ =>.any)).1 _ _ rfl;rw[k6];rfl
    ·rename_i kp t kp' t'
     cases kp <;> cases kp' <;> simp at e3;have e3:=Ty.eq_of_beq e3;subst e3;obtain⟨xs,rfl⟩:=(nt j5 (fun _ =>.any)).2.2.1 _ _ rfl rfl;rw[k6];rfl
    ·obtain⟨e3,e4⟩:=e3
     have e4:=Ty.eq_of_beq e4;subst e3;subst e4;obtain⟨z,rfl⟩:=(nt j5 (fun _ =>.any)).2.1 _ _ rfl;rw[k6];exact⟨rfl,rfl⟩
   ·refine⟨oc',k3,?_⟩
    cases oc' <;> simp[bD,aC,k4]}
 obtain⟨g1,laid1⟩:=J8 (X:=X) gE hout hc2 hnd' (O2:=O) (ν2:=ν1) (rest:=sC st.aH ν) (locR:=loc) (st2:=st1) hnd1 hl1 h1objs
  (fun n hn=>by rw[h1next];exact sV hbel hn)
  (fun n hn b hb' off h=>by
   obtain⟨_,oc,_,_,k,_⟩:=lI hout hn;exact gE.out n oc b off k hb' (.inl h))
  (fun n hn b hb' m oc h1 h2 h3=>by
   rw[og]at h1;split at h1
   ·cases h1
   ·rename_i hmn
    rcases trE.own b (hownE n hn b hb')with h4|h4
    ·exact hblk m oc h1 hmn b h3 h4
    ·have:=(g.obj m oc h1).2.inside b h3
     simp only[aC]at this h4;omega)
  (fun m oc h1 h2=>by
   rw[og]at h1;split at h1
   ·cases h1
   ·rename_i hmn
    obtain⟨k1,k2⟩:=g.obj m oc h1;refine⟨by rw[h1next];simp only[aC]at k1;omega,k2.tr hT fun b hb' =>?_⟩;exact trE.block b (k2.inside b hb') (hblk m oc h1 hmn b hb'))
  (fun m m' oc oc' b h1 h2 _ _ h3 h4=>by
   rw[og]at h1 h2;split at h1
   ·cases h1
   ·split at h2
    ·cases h2
    ·exact g.apart m m' oc oc' b h1 h2 h3 h4)
  (fun m oc b off h1 _ h2=>by
   rw[og]at h1;split at h1
   ·cases h1
   ·exact g.out m oc b off h1 h2)
  (by
   rcases hcv with hcv|⟨_,hcv,_⟩
   ·exact .inr (hA1 hcv)
   ·exact .inl hcv)
  (g.lU.tr hT).2
 have hres:=Hw gE hout hret hrE hc1;refine⟨_,_,st1,loc1,he,hKal,h1env,g1,hT,Af (KY (S:=aC O' st2 locE w') (S':=aC O st1 loc1 w') rfl (fun k v hk=>z7 laid1 hk) ?_ hres)⟩;rcases hcv with hcv|⟨_,_,hcv⟩
 ·exact .inr (hA1 hcv)
 ·exact .inl hcv
def Yv{B:Cx}{Γ:List (FuncId×(Bool×aX))}(hok:bL P B X Γ){f:FuncId}{fn:Func}{c:Code}(hf:P.funcs[f]?=some fn)(hb:fn.body=some c)(hN:args.length<=fn.ntmps){anns:CD args->PD aU->cU}
  {pre:CD args->PD aU->Prop}{alts:List (Alt aU args)}(h:∀a x,fM args a->pre a x->(cO B Γ fn (anns a x) aU args alts a x).holds)
  {O:aK}{st:St}{loc:Nat->Loc}{w:World}{aem:List dC}{vs:List Value}{K:SV->St->VC}(g:Good B.eT X (aC O st loc w))(hO:fT O w)(ha:dE B.eT (aC O st loc w) aem vs)
  {ν:List Nat}{a:CD args}{x:PD aU}(hnd:nodupB ν=true)(hga:nC false st.aH aU ν args aem=some a)(hx:fE false st.aH aU ν aU ν=some x)
  (hp1:∀p∈nS aU x args aem,p)(hp2:∀p∈jX aU x st.aH aU ν,p)(hpre:pre a x)(hK:(Ag a x ν st K alts).holds) :
  Calls P f vs.toArray w fun e w'=>∃v sv st' loc',e=.returned v/\(K sv st').holds/\st'.env=st.env/\Good B.eT X (aC O st' loc' w')/\
   Tr (aC O st loc w) (aC O st' loc' w')/\eL B.eT (aC O st' loc' w') sv v:=by
 refine HI (B:=B) (pre:=pre) g hO ha hnd hga hx hp1 hp2 hpre hK fun hwf O' loc0 g0 hOin' hargs hlen =>?_
 have hcode:codeOf fn=c:=by unfold codeOf;rw[hb];rfl
 have hvc:=h a x hwf hpre;unfold cO at hvc;rw[hcode]at hvc;exact vA (X:=X) (hok fn.ntmps) hf hb (by rfl) (anns a x) (O:=O') (loc:=loc0) (w:=w) (args:=vs.toArray) (st:=mh aU args a x)
  (by rw[ez,hlen];exact hN) g0 hOin'
  (fun t sv ht=>by
   obtain⟨_,v,k1,k2⟩:=vB 0 hargs t sv ht;exact⟨v,by simpa using k1,k2⟩) hvc
def aZ{B:Cx}{Γ:List (FuncId×(Bool×aX))}(hok:bL P B X Γ){f:FuncId}{fn:Func}(hf:P.funcs[f]?=some fn)(hg:q7 fn args.length=true)(anns:CD args->PD aU->cU)
  {pre:CD args->PD aU->Prop}{alts:List (Alt aU args)}(h:∀a x,fM args a->pre a x->(cO B Γ fn (anns a x) aU args alts a x).holds) :
  bY P B.eT X f false (aW aU args pre alts):=by
 simp only[q7,ba,dy]at hg;obtain⟨⟨h1,h2⟩,h3⟩:=hg;obtain⟨c,hc⟩:=Option.isSome_iff_exists.1 h1;refine⟨⟨fn,hf,by rw[hc];rfl,h2⟩,fun O st loc w aem vs K hK g hO ha =>?_⟩;unfold aW at hK;obtain⟨t1,g1,e1,k1⟩:=xE args aem g;simp only at hK;split at hK
 case h_2=>exact hK.elim
 rename_i ν hν;split at hK
 case h_2=>exact hK.elim
 rename_i a x hnd hga hx;obtain⟨hp,hpre,hK⟩:=Dx hK;obtain⟨hp1,hp2⟩:=kB.1 hp;refine(Yv hok hf hc (Nat.le_of_ble_eq_true h3) h g1 hO (k1 vs ha) hnd hga hx hp1 hp2 hpre hK).mono ?_;rintro e w' ⟨v,sv,st',loc',q1,q2,q3,q4,q5,q6⟩;exact⟨v,sv,st',loc',q1,q2,q3.trans e1,(fun hq=>by cases hq),q4,t1.trans q5,q6⟩
end
end Go.Vg

namespace Go.Vg
@[reducible] def aP:Ty:=.prod .str (.prod (.int .i64) (.prod .bool .unit))
@[reducible] def bA:Ty:=.prod (.int .i64) (.prod (.int .i64) .unit)
@[reducible] def aQ:Ty:=.prod (.int .i64) (.prod (.int .i64) (.prod (.int .i64) (.prod .str (.prod .bool .unit))))
@[reducible] def aN:Ty:=.prod (.int .i64) (.prod (.int .i64) (.prod (.int .i64) .unit))
@[reducible] def aG:Ty:=.prod .str (.prod (.int .i64) (.prod (.int .i64) .unit))
@[reducible] def aA:Ty:=.prod (.slice .str) (.prod (.slice (.int .i64)) (.prod (.slice aP) (.prod (.slice aQ) .unit)))
@[reducible] def aB:Ty:=.prod .str (.prod (.slice aG) (.prod (.slice aN) .unit))
@[reducible] def jI:Ty:=.prod .str (.prod .str (.prod .str (.prod (.int .i64) (.prod (.int .u64) (.prod aB .unit)))))
@[reducible] def cE:Ty:=.prod .str (.prod (.int .i64) (.prod (.slice (.int .i64)) .unit))
@[reducible] def kJ:Ty:=.prod (.int .i64) (.prod .str .unit)
@[reducible] def aaL:Ty:=.prod (.slice .str) (.prod (.slice .str) (.prod (.slice kJ) (.prod (.int .i64) (.prod .bool .unit))))
@[reducible] def dF:Ty:=.prod .str (.prod .str (.prod (.int .i64) .unit))
@[reducible] def PY:Ty:=.prod (.slice dF) (.prod (.int .i64) .unit)
def bl :
  (∀(p:Prop) [Decidable p],(decide p=true)=p)/\(∀(p:Prop) [Decidable p],(decide p=false)=¬p)/\
  (∀(α:Type) [BEq α] [LawfulBEq α] (a b:α),((a == b)=true)=(a=b))/\(∀(α:Type) [BEq α] [LawfulBEq α] (a b:α),((a == b)=false)=¬a=b)/\
  (∀(α:Type) [BEq α] [LawfulBEq α] (a b:α),((a != b)=true)=¬a=b)/\(∀(α:Type) [BEq α] [LawfulBEq α] (a b:α),((a != b)=false)=(a=b))/\
  (∀b:Bool,((!b)=true)=(b=false))/\(∀b:Bool,((!b)=false)=(b=true))/\(∀b:Bool,(¬b=true)=(b=false))/\(∀b:Bool,(¬b=false)=(b=true))/\
  (∀a b:Bool,((a&&b)=true)=(a=true/\b=true))/\(∀a b:Bool,((a || b)=true)=(a=true\/b=true))/\
  (∀a b:Bool,((a&&b)=false)=(a=false\/b=false))/\(∀a b:Bool,((a || b)=false)=(a=false/\b=false))/\
  (∀a b:Int,(¬a<b)=(b<=a))/\(∀a b:Int,(¬a<=b)=(b<a)):=by
 refine⟨?_,?_,?_,?_,?_,?_,?_,?_,?_,?_,?_,?_,?_,?_,?_,?_⟩ <;> intros <;> first|(simp;done)|(rename_i a b;cases a <;> cases b <;> simp)
end Go.Vg

namespace Go.Vg
open Go.RowKit
def Yw{w:World}{b i:Nat}{c:Array Value}{T:TypeId}{v:Value}(hb:w.heap[b]?=some (.cells c T (0,0))):(w.setCell ⟨b,i,none⟩ v).heap[b]?=some (.cells (c.setIfInBounds i v) T (0,0)):=by
 simp[World.setCell,Array.getElem?_modify,hb]
def abl{P:Program}{w:World}{t u ty e:TypeId}{i:TypeInfo}(ht:P.underlying t=some (.slice e))(hu:P.underlying u=some .string)(hi:P.info? e=some i)(hz:i.zero=some (.int .u8 0))
  (hsize:i.size=1)(hby:i.bytes=1){v:Value}{xs:List Value}(hown:w.ownsRow 0 e 1 v xs.length xs)(hcap:∀a n c,v=.slice (some a) n c->0<c)(s:ByteArray)(hlen:xs.length+s.size<=140737488355328) :
  ∃v' w',(e8 #[t,u] ty #[v,.string s]).run P w=.ok v' w'/\w'.ownsRow 0 e 1 v' (xs.length+s.size) (xs++dq s)/\w.grownBy w' v.ownBlock/\(∀a n c,v'=.slice (some a) n c->0<c)/\
   (∀g,v'.ownBlock=some g->v.ownBlock=some g\/w.heap.size<=g):=by
 rcases hown.2 with⟨rfl,h0⟩|⟨g,cap,cur,rfl,hbg,hg,hnc,hcm,hcs,htake⟩
 ·have hown':w.ownsRow w.heap.size e 1 (.slice none 0 0) xs.length xs:=⟨hown.1,.inl ⟨rfl,h0⟩⟩
  obtain⟨v',w',h1,h2,h3,h4⟩:=Lib.run_append_own_string (P:=P) w w.heap.size t u ty e i ht hu hi hz hsize hby _ _ _ hown' s (by unfold maxLen;omega) hlen (ar _);rcases h2.2 with⟨rfl,h6⟩|⟨g,cap,cur,rfl,k1,k2,k3,k4⟩
  ·exact⟨_,w',h1,⟨h2.1,.inl ⟨rfl,h6⟩⟩,h3,(fun a n c hh=>by cases hh),(fun g hh=>by cases hh)⟩
  ·refine⟨_,w',h1,⟨h2.1,.inr ⟨g,cap,cur,rfl,ao _,k2,k3,k4⟩⟩,h3,fun a n c hh =>?_,fun g' hh=>by cases hh;exact .inr k1⟩
   cases hh;by_cases hs:s.size=0
   ·have:=h4.2 ⟨rfl,hs⟩;cases this
   ·omega
 ·have hc0:=hcap _ _ _ rfl
  by_cases hroom:xs.length+s.size<=cap
  ·obtain⟨w',h1,h2,h3⟩:=Lib.run_append_fits_string (P:=P) w 0 t u ty e i ht hu hi hsize _ _ _ _ hown s hc0 hroom
   exact⟨_,w',h1,h2,h3,(fun a n c hh=>by cases hh;exact hc0),(fun g' hh =>.inl hh)⟩
  ·have holds:∀j u,xs[j]?=some u->w.cell? ((⟨g,0,none⟩:Addr).add j)=some u:=hown.cells (g:=g) rfl
   have hr:=Lib.run_append_grow_string (P:=P) w t u ty e i (.int .u8 0) ht hu hi hz ⟨g,0,none⟩ xs.length cap xs (by rw[hsize];simp) holds s (by omega) (by omega) (by rw[hby];exact growslice_fits (by omega) (by omega));have hge:=grownCap_ge w (xs.length+s.size) cap e;have hcm':grownCap w (xs.length+s.size) cap e<=maxLen:=grownCap_le_maxLen w (xs.length+s.size) cap e (by unfold maxLen;omega);refine⟨_,_,hr,⟨by simp[dT],.inr ⟨w.heap.size,_,_,rfl,ao _,heap_alloc_new w.drew _,hge,hcm',?_,?_⟩⟩,⟨rfl,rfl,rfl,by simp,fun k hk _=>Go.Deep.blk_alloc_lt w.drew _ k hk⟩,(fun a n c hh=>by cases hh;omega),(fun g' hh=>by cases hh;exact .inr (ar _))⟩
   ·have hz1:(bx c1 0).cells.size=1:=rfl
    simp only[Array.size_append,ez,size_zeroCells,hz1,dT];omega
   ·simp only[Array.toList_append,c6]
    rw[<-c6];have:(xs++dq s).length=(xs.length+s.size)*1:=by simp[dT]
    rw[<-this];exact List.take_left
def Cd{P:Program}{w w':World}{ops:Array Oper}{rest:List Oper}{o:Oper}{a:Act}{Q:Exit->Act->World->Prop}(hgd:o.guard=none)(sl x:Operand)(t u:TypeId)
  (ho:o.op=.call {callee:=.builtin .append,args:=#[sl,x],argTypes:=#[t,u]}){v v' y:Value}(hs:a.eval sl=v)(hx:a.eval x=y)
  (hr:(e8 #[t,u] o.type #[v,y]).run P w=.ok v' w')(h:wpList P ops Q rest (a.put o.dst v') w'):wpList P ops Q (o :: rest) a w:=by
 refine wpList_plain hgd fun K hK =>?_
 unfold Oper.wp execOp;simp only[ho,resolve,invoke,builtin,Sem.run_bind,Sem.run_pure,Result.andThen_ok,List.map_toArray,aq,List.map_nil,hs,hx,hr];exact hK _ _ h
structure Kept (b:Nat) (v:Value) (w w':World):Prop where
 os:w'.os=w.os
 output:w'.output=w.output
 size:w.heap.size<=w'.heap.size
 block:∀k,k<w.heap.size->k≠b->v.ownBlock≠some k->w'.heap[k]?=w.heap[k]?
structure RD (v:Value) (w w':World):Prop where
 os:w'.os=w.os
 output:w'.output=w.output
 size:w'.heap.size=w.heap.size
 block:∀k,v.ownBlock≠some k->w'.heap[k]?=w.heap[k]?
def N2{w:World}{g n c:Nat}{m:Nat}:RD (.slice (some ⟨g,0,none⟩) n c) w (w.drew.freeze ⟨g,0,none⟩ m):=by
 unfold World.freeze;split
 ·exact⟨rfl,rfl,rfl,fun _ _=>rfl⟩
 ·refine⟨rfl,rfl,by simp,fun k hk =>?_⟩
  have:k≠g:=fun e=>hk (by rw[e];rfl)
  simp only[Array.getElem?_modify];rw[if_neg (fun e=>this e.symm)];rfl
def tV(T e:Nat):aX:=fun args st K=>
 match args with
 |[.one (.gA n),.one (.d .str s)]=>match look st.aH n with
  |some (.ext 2 t x)=>match h:Ty.beq t me with
   |true =>.and ((cX h x).2.1=(T:Int)/\(cX h x).2.2.1=(e:Int)/\(cX h x).1.length+s.length<=140737488355328)
     (K (.oJ [.one (.d (.int .i64) (s.length:Int)),.one (.d .err .nil)]) (setObj st n (.ext 2 me ((cX h x).1++bT s,(T:Int),(e:Int),()))))
   |false =>.ff
  |_ =>.ff
 |_ =>.ff
def sF(T e:Nat):aX:=fun args st K=>
 match args with
 |[.one (.gA n)]=>match look st.aH n with
  |some (.ext 2 t x)=>match h:Ty.beq t me with
   |true =>.and ((cX h x).2.1=(T:Int)/\(cX h x).2.2.1=(e:Int)) (K (.s (.one (.d .str (bytesOf (cX h x).1)))) (bH st n))
   |false =>.ff
  |_ =>.ff
 |_ =>.ff
def Ah(T e:Nat):aX:=fun args st K=>
 match args with
 |[.one (.gA n)]=>match look st.aH n with
  |some (.ext 2 t x)=>match h:Ty.beq t me with
   |true =>.and ((cX h x).2.1=(T:Int)/\(cX h x).2.2.1=(e:Int)) (K (.s (.one (.d (.int .i64) ((cX h x).1.length:Int)))) st)
   |false =>.ff
  |_ =>.ff
 |_ =>.ff
section
variable{P:Program}{eT:TypeId}{X:Ext}{f:FuncId}
def K7{O:aK}{st:St}{loc:Nat->Loc}{w:World}(g:Good eT X (aC O st loc w)){n:Nat}{x:D me}(hob:look st.aH n=some (.ext 2 me x)){v:Value}(hv:CR eT (aC O st loc w) (.gA n) v) :
  ∃b p u,v=.pointer (some ⟨b,0,none⟩)/\acs x (loc n) w b p u:=by
 obtain⟨h0,b,p,u,hD⟩:=X.TZ.1 (g.obj n _ hob).2;exact⟨b,p,u,(hv.2 _ hob rfl).trans hD.lv,hD⟩
def xF(s:List UInt8):bytesOf (bT s)=s:=by
 induction s with
 |nil=>rfl
 |cons c r ih=>
  simp only[bytesOf,bT,aq,ec]at ih ⊢;rw[ih];simp
def RE{xs:List Int}(h:∀y∈xs,0<=(y:Int)/\(y:Int)<=255):bT (bytesOf xs)=xs:=by
 induction xs with
 |nil=>rfl
 |cons y r ih=>
  have h1:=h y (by simp);have h2:=ih fun z hz=>h z (by simp[hz])
  simp only[bT,bytesOf,ec,aq]at h2 ⊢;rw[h2];congr 1;simp only[e9];omega
def RG(s:List UInt8):∀y∈bT s,0<=(y:Int)/\(y:Int)<=255:=by
 intro y hy;simp only[bT,bp]at hy;obtain⟨c,_,rfl⟩:=hy;have:=c.toNat_lt;omega
def Yx{xs:List Int}(h:∀y∈xs,0<=(y:Int)/\(y:Int)<=255):xs.map (bx .u8)=(bytesOf xs).map fun c=>bx .u8 c.toNat:=by
 conv=>lhs;rw[<-RE h]
 simp[bT]
def E1{T e:Nat}(hfn:∃fn,P.funcs[f]?=some fn/\fn.body.isNone=false/\(fn.name == "runtime.NumGoroutine")=false)
  (H:∀(b:Nat) (p v:Value) (xs:List Value) (s:ByteArray) (w:World),w.heap[b]?=some (.cells #[p,v] T (0,0))->(p=.pointer none\/p=.pointer (some ⟨b,0,none⟩))->w.ownsRow 0 e 1 v xs.length xs->v.ownBlock≠some b->
   (∀a n c,v=.slice (some a) n c->0<c)->xs.length+s.size<=140737488355328->
   Calls P f #[.pointer (some ⟨b,0,none⟩),.string s] w fun r w'=>r=.returned (.tuple #[.int .i64 s.size,.nilIface])/\
    ∃v',w'.heap[b]?=some (.cells #[.pointer (some ⟨b,0,none⟩),v'] T (0,0))/\w'.ownsRow 0 e 1 v' (xs.length+s.size) (xs++dq s)/\v'.ownBlock≠some b/\Kept b v w w'/\
     (∀a n c,v'=.slice (some a) n c->0<c)/\(∀g,v'.ownBlock=some g->v.ownBlock=some g\/w.heap.size<=g)) :
  bY P eT X f false (tV T e):=by
 refine⟨hfn,fun O st loc w args vs K hs g hO ha =>?_⟩;unfold tV at hs;split at hs
 case h_2=>exact hs.elim
 rename_i n s;split at hs
 case h_2=>exact hs.elim
 rename_i t x hob;split at hs
 case h_2=>exact hs.elim
 rename_i ht;have ht':=Ty.eq_of_beq ht;subst ht';rw[lA]at hs;obtain⟨⟨hT,he,hlen⟩,hs⟩:=hs
 match vs,ha with
 |[v0,v1],.cons h0 (.cons h1 .nil)=>
 obtain⟨b,p,u,rfl,hD⟩:=K7 g hob h0;obtain⟨rfl,hsl⟩:=kZ.1 (show CR eT _ (.d .str s) v1 from h1);have hsz:(⟨s.toArray⟩:ByteArray).size=s.length:=by simp[ByteArray.size]
 have hT':x.2.1.toNat=T:=by rw[hT];rfl
 have he':x.2.2.1.toNat=e:=by rw[he];rfl
 have hheap:=hD.heap;have hrow:=hD.row;rw[hT']at hheap;rw[he']at hrow;refine(H b p u (x.1.map (bx .u8)) ⟨s.toArray⟩ w hheap hD.ptr (by simpa using hrow) hD.ne hD.cap (by simpa[hsz]using hlen)).mono ?_;rintro r w' ⟨rfl,v',k1,k2,k3,k4,k5,k6⟩;have hlt:b<w.heap.size:=(Array.getElem?_eq_some_iff.1 hheap).1;obtain⟨tr1,g1⟩:=ry (S:=aC O st loc w) (S':=aC O (setObj st n (.ext 2 me (x.1++bT s,(T:Int),(e:Int),()))) (cM loc n ⟨.pointer (some ⟨b,0,none⟩),b :: v'.ownBlock.toList⟩) w') (n:=n)
  (oc:=.ext 2 me x) (oc':=.ext 2 me (x.1++bT s,(T:Int),(e:Int),())) (l':=⟨.pointer (some ⟨b,0,none⟩),b :: v'.ownBlock.toList⟩) g rfl hO hob
  (fun m=>qn st n m _) (fun _=>rfl) rfl (fun _=>⟨hD.lv.symm,fun h=>(h _ _ rfl).elim⟩) ⟨rfl,rfl⟩ k4.os k4.output k4.size
  (fun b' h1 h2=>k4.block b' h1 (fun e=>h2 (by simp only[aC];rw[hD.bs,e];simp)) (fun e=>h2 (by simp only[aC];rw[hD.bs,e];simp)))
  (fun b' o v _ ho=>by simp[OC.lo]at ho)
  (fun b' hb'=>by
   rcases ah.1 hb' with rfl|hb'
   ·exact .inl ⟨by simp only[aC];rw[hD.bs];simp,ar _⟩
   ·have hb':v'.ownBlock=some b':=by simpa using hb'
    rcases k6 b' hb' with h|h
    ·exact .inl ⟨by simp only[aC];rw[hD.bs,h];simp,ar _⟩
    ·exact .inr h)
 have g1:=g1 (X.TZ.2 ⟨rfl,b,.pointer (some ⟨b,0,none⟩),v',rfl,.inr rfl,k1,by
  have e1:x.1.map (bx .u8)++dq ⟨s.toArray⟩=(x.1++bT s).map (bx .u8):=by rw[Cm,List.map_append]
  have e2:(x.1.map (bx .u8)).length+(⟨s.toArray⟩:ByteArray).size=(x.1++bT s).length:=by simp[hsz,bT]
  rw[e1,e2]at k2;exact k2,rfl,k3,(fun y hy=>by
   rcases bb.1 hy with h|h
   ·exact hD.u8 y h
   ·exact RG s y h),k5⟩)
 refine⟨_,_,_,_,rfl,hs,rfl,(fun hh=>by cases hh),g1,tr1,⟨[.int .i64 (⟨s.toArray⟩:ByteArray).size,.nilIface],rfl,.cons ?_ (.cons ?_ .nil)⟩⟩
 ·refine dG.2 ⟨by rw[hsz],?_⟩
  simp only[c7,c8,bz,b5];unfold aI at hsl;constructor <;> simp <;> omega
 ·exact ph.2 rfl
def RH{O:aK}{st:St}{loc:Nat->Loc}{w w':World}(g:Good eT X (aC O st loc w)){n:Nat}{oc0:OC}(hn:look st.aH n=some oc0)(h0:oc0.lo=0)
  (hos:w'.os=w.os)(hout:w'.output=w.output)(hsz:w.heap.size<=w'.heap.size)(hb:∀b,b<w.heap.size->b∉(loc n).bs->w'.heap[b]?=w.heap[b]?) :
  Tr (aC O st loc w) (aC O (bH st n) loc w')/\Good eT X (aC O (bH st n) loc w'):=by
 have hob:∀m oc,look (bH st n).aH m=some oc->m≠n/\look st.aH m=some oc:=by
  intro m oc h;simp only[bH]at h;rw[nB]at h;split at h
  ·cases h
  ·rename_i hne;exact⟨fun e=>hne e.symm,h⟩
 have hA:∀b o,(aC O (bH st n) loc w').A b o->(aC O st loc w).A b o:=by
  rintro b o (h|⟨m,oc,h1,h2⟩)
  ·exact .inl h
  ·exact .inr ⟨m,oc,(hob _ _ h1).2,h2⟩
 have ht:Tr (aC O st loc w) (aC O (bH st n) loc w'):={
  O:=rfl
  next:=ar _
  os:=hos
  output:=hout
  size:=hsz
  own:=fun b h=>by obtain⟨m,oc,h1,h2⟩:=h;exact .inl ⟨m,oc,(hob _ _ h1).2,h2⟩
  cell:=fun b o v h1 h2=>by
   have hlt:=ey w _ h2;refine⟨?_,fun h=>h1 (hA b o h)⟩;show w'.cell? _=_;rw[World.cell?_of_block (w:=w) (w':=w') (a:=⟨b,o,none⟩) (hb b hlt fun hm=>h1 (.inr ⟨n,oc0,hn,hm,by rw[h0];exact ao _⟩))];exact h2
  block:=fun b h1 h2=>hb b h1 fun hm=>h2 ⟨n,oc0,hn,hm⟩
  loc:=fun _ _ _=>p8 rfl
  kind:=fun m oc _ h=>⟨oc,(hob _ _ h).2,by cases oc <;> simp[bD,aC]⟩}
 refine⟨ht,⟨fun m oc h =>?_,fun m1 m2 oc1 oc2 b h1 h2 h3 h4 =>?_,fun m oc b off h1 h2 =>?_,g.lU.tr ht⟩⟩
 ·obtain⟨hne,h⟩:=hob _ _ h
  obtain⟨h1,h2⟩:=g.obj m oc h;exact⟨h1,h2.tr ht fun b hbm=>hb b (h2.inside b hbm) fun hbn=>hne (g.apart m n oc oc0 b h hn hbm hbn)⟩
 ·exact g.apart m1 m2 oc1 oc2 b (hob _ _ h1).2 (hob _ _ h2).2 h3 h4
 ·exact g.out m oc b off (hob _ _ h1).2 h2
def DC{T e:Nat}(hfn:∃fn,P.funcs[f]?=some fn/\fn.body.isNone=false/\(fn.name == "runtime.NumGoroutine")=false)
  (H:∀(b:Nat) (p v:Value) (l:List UInt8) (w:World),w.heap[b]?=some (.cells #[p,v] T (0,0))->w.ownsRow 0 e 1 v l.length (l.map fun c=>bx .u8 c.toNat)->(∀a n c,v=.slice (some a) n c->0<c)->
   Calls P f #[.pointer (some ⟨b,0,none⟩)] w fun r w'=>r=.returned (.string ⟨l.toArray⟩)/\RD v w w') :
  bY P eT X f false (sF T e):=by
 refine⟨hfn,fun O st loc w args vs K hs g hO ha =>?_⟩;unfold sF at hs;split at hs
 case h_2=>exact hs.elim
 rename_i n;split at hs
 case h_2=>exact hs.elim
 rename_i t x hob;split at hs
 case h_2=>exact hs.elim
 rename_i ht;have ht':=Ty.eq_of_beq ht;subst ht';rw[lA]at hs;obtain⟨⟨hT,he⟩,hs⟩:=hs
 match vs,ha with
 |[v0],.cons h0 .nil=>
 obtain⟨b,p,u,rfl,hD⟩:=K7 g hob h0;have hT':x.2.1.toNat=T:=by rw[hT];rfl
 have he':x.2.2.1.toNat=e:=by rw[he];rfl
 have hheap:=hD.heap;have hrow:=hD.row;rw[hT']at hheap;rw[he',Yx hD.u8,show x.1.length=(bytesOf x.1).length by simp[bytesOf]]at hrow;refine(H b p u (bytesOf x.1) w hheap hrow hD.cap).mono ?_;rintro r w' ⟨rfl,k⟩;obtain⟨tr1,g1⟩:=RH (w':=w') g hob rfl k.os k.output (by rw[k.size];exact ar _) (fun b' _ h2=>k.block b' fun e=>h2 (by rw[hD.bs,e];simp));refine⟨_,_,_,_,rfl,hs,rfl,(fun hh=>by cases hh),g1,tr1,?_⟩;refine(kZ (eT:=eT) (S:=aC O (bH st n) loc w')).2 ⟨rfl,?_⟩;rcases hrow.2 with⟨_,h⟩|⟨_,cap,_,_,_,_,h1,h2,_⟩
 ·rw[h];exact ao _
 ·unfold maxLen at h2;unfold aI;omega
def JS{T e:Nat}(hfn:∃fn,P.funcs[f]?=some fn/\fn.body.isNone=false/\(fn.name == "runtime.NumGoroutine")=false)
  (H:∀(b:Nat) (p q:Value) (a:Option Addr) (n c:Nat) (w:World),w.heap[b]?=some (.cells #[p,.slice a n c] T (0,0))->
   Calls P f #[.pointer (some ⟨b,0,none⟩)] w fun r w'=>r=.returned (.int .i64 n)/\w'=w) :
  bY P eT X f true (Ah T e):=by
 refine⟨hfn,fun O st loc w args vs K hs g hO ha =>?_⟩;unfold Ah at hs;split at hs
 case h_2=>exact hs.elim
 rename_i n;split at hs
 case h_2=>exact hs.elim
 rename_i t x hob;split at hs
 case h_2=>exact hs.elim
 rename_i ht;have ht':=Ty.eq_of_beq ht;subst ht';rw[lA]at hs;obtain⟨⟨hT,he⟩,hs⟩:=hs
 match vs,ha with
 |[v0],.cons h0 .nil=>
 obtain⟨b,p,u,rfl,hD⟩:=K7 g hob h0;have hT':x.2.1.toNat=T:=by rw[hT];rfl
 have hheap:=hD.heap;rw[hT']at hheap;obtain⟨a,c,rfl,hl⟩:∃a c,u=.slice a x.1.length c/\x.1.length<=aI:=by
  rcases hD.row.2 with⟨rfl,h⟩|⟨g',cap,cur,h,_,_,h1,h2,_⟩
  ·exact⟨none,0,by rw[h],by rw[h];exact ao _⟩
  ·exact⟨_,_,h,by unfold maxLen at h2;unfold aI;omega⟩
 refine(H b p p a x.1.length c w hheap).mono ?_;rintro r w' ⟨rfl,rfl⟩;refine⟨_,_,_,loc,rfl,hs,rfl,fun _=>Below.refl _ _,g,Tr.refl _,?_⟩;refine(dG (eT:=eT) (S:=aC O st loc w')).2 ⟨rfl,?_⟩;unfold aI at hl;simp only[c7,c8,bz,b5];constructor <;> simp <;> omega
end
end Go.Vg

namespace Go.Mrl
open Go.Vg
def small(c:UInt8):Bool:=decide ((97:Int)<=c.toNat)&&decide ((c.toNat:Int)<=122)
def other(c:UInt8):Bool:=(decide ((48:Int)<=c.toNat)&&decide ((c.toNat:Int)<=57)) || ((c.toNat:Int) == 95)
def ko(i:Nat)(c:UInt8):Bool:=!small c&&((i:Int) == 0 || !other c)
def wC(s:List UInt8):Bool:=(b6 s.length).any fun i=>ko i (bR s i)
def aJ(s:List UInt8):Int:=if s.length<1\/8<s.length then 1 else if wC s=true then 3 else 0
def aL(n:Int):aS:=if n=0 then .nil else .no n
def fJ:aS->Int->Bool
 |.nil,n=>n == 0
 |.no m,n=>decide (n > 0)&&m == n
 |.other,_=>false
def jj:aS->Int
 |.nil=>0
 |.no m=>m
 |.other =>-1
def pV{n:Int}(h:0<=n):fJ (aL n) n=true:=by
 unfold aL;split
 ·rename_i e;subst e;rfl
 ·simp[fJ];omega
def cQ(s:List UInt8):0<=aJ s:=by
 unfold aJ;split
 ·decide
 ·split <;> decide
def N3{s:List UInt8}{i:Nat}(h:i<s.length)(hb:ko i (bR s i)=true):wC s=true:=by
 simp only[wC,cf,da];exact⟨i,h,hb⟩
def K8{s:List UInt8}(h:∀i,i<s.length->ko i (bR s i)=false):wC s=false:=by
 simp only[wC,db,da];intro i hi;rw[h i hi];simp
def Ai{s:List UInt8}{i:Nat}(h:i<s.length):s[i]?=some (bR s i):=by
 rw[wg (List.getElem?_eq_getElem h),List.getElem?_eq_getElem h]
def yP{s:List UInt8}(h:s.length<1\/8<s.length):aJ s=1:=by unfold aJ;rw[if_pos h]
def jN{s:List UInt8}{i:Nat}(h:¬(s.length<1\/8<s.length))(hi:i<s.length)(hb:ko i (bR s i)=true):aJ s=3:=by
 unfold aJ;rw[if_neg h,if_pos (N3 hi hb)]
def wD{s:List UInt8}(h:¬(s.length<1\/8<s.length))(hb:∀i,i<s.length->ko i (bR s i)=false):aJ s=0:=by
 unfold aJ;rw[if_neg h,if_neg (by rw[K8 hb];decide)]
def nu{i:Nat}{c:UInt8}:ko i c=true↔¬(97<=c.toNat/\c.toNat<=122)/\(i=0\/¬((48<=c.toNat/\c.toNat<=57)\/c.toNat=95)):=by
 simp only[ko,small,other,ba,dy,Bool.and_eq_false_iff,cc,ed,decide_eq_false_iff_not,beq_iff_eq,beq_eq_false_iff_ne];omega
def mJ{i:Nat}{c:UInt8}:ko i c=false↔¬(¬(97<=c.toNat/\c.toNat<=122)/\(i=0\/¬((48<=c.toNat/\c.toNat<=57)\/c.toNat=95))):=by
 rw[<-nu];simp
def qt{s:List UInt8}{i:Nat}(h:∀j,j<i->ko j (bR s j)=false)(hb:ko i (bR s i)=false):∀j,j<i+1->ko j (bR s j)=false:=by
 intro j hj;rcases bq j i with hlt|hge
 ·exact h j hlt
 ·obtain rfl:j=i:=by omega
  exact hb
def oU(h:Nat)(c:UInt8):Nat:=((16*h+c.toNat) % 4294967296 % 268435456)^^^(16*((16*h+c.toNat) % 4294967296 / 268435456))
def kq(s:List UInt8):Nat:=s.foldl oU 0
def N4(h:Nat)(c:UInt8):oU h c<268435456:=by
 unfold oU;have h1:(16*h+c.toNat) % 4294967296 % 268435456<2^28:=cg _ (by decide);have h2:16*((16*h+c.toNat) % 4294967296 / 268435456)<2^28:=by
  have:(16*h+c.toNat) % 4294967296<4294967296:=cg _ (by decide);omega
 exact dc h1 h2
def DD(s:List UInt8):kq s<268435456:=by
 rcases List.eq_nil_or_concat s with rfl|⟨l,a,rfl⟩
 ·decide
 ·simp only[kq,List.concat_eq_append,fb,List.foldl_cons,List.foldl_nil];exact N4 _ _
def E2{s:List UInt8}{i:Nat}(h:i<s.length):kq (s.take (i+1))=oU (kq (s.take i)) (bR s i):=by
 rw[cp,Ai h];simp[kq]
def bv_and{n a b:Nat}(ha:a<2^n):(ak n (a:Int)&&&ak n (b:Int)).toNat=a&&&b % 2^n:=by
 simp[dr,cq ha]
def UE{n a b:Nat}(ha:a<2^n)(hb:b<2^n):(ak n (a:Int)^^^ak n (b:Int)).toNat=a^^^b:=by
 simp[dr,cq ha,cq hb]
def E3{a:Nat}(h:a<4294967296):ch.wrap (a:Int)=a:=rC (by simp[c7,c8,bz,b5];omega)
def acR{a:Nat}(h:a<9223372036854775808):ee.wrap (a:Int)=a:=rC (by simp[c7,c8,bz,b5];omega)
def abm(a:Nat):ch.wrap (a:Int)=((a % 4294967296:Nat):Int):=by
 simp[aw,bz,b5]
 try omega
def UF{x:Nat}(hx:x<4294967296):x&&&4026531840=268435456*(x / 268435456):=by
 apply fc;intro i;rw[fe,show(4026531840:Nat)=2^28*(2^4-1)from by decide,show(268435456:Nat)=2^28 from by decide,ef,ef,Nat.testBit_two_pow_sub_one,fg];by_cases h:28<=i
 ·rw[show i-28+28=i from by omega]
  by_cases h2:i-28<4
  ·simp[h,h2]
  ·rw[fh (x:=x) (i:=i) (eg hx (eh (n:=2) (i:=32) (j:=i) (by decide) (by omega)))];simp
 ·simp[h]
def UG{x:Nat}(hx:x<4294967296):(ak 32 ((x^^^16*(x / 268435456):Nat):Int)&&&~~~ ak 32 ((268435456*(x / 268435456):Nat):Int)).toNat=(x % 268435456)^^^(16*(x / 268435456)):=by
 have hq:x / 268435456<16:=by omega
 have h1:x^^^16*(x / 268435456)<2^32:=dc hx (by omega);rw[fj,BitVec.toNat_not,dr,dr,fk,fk,cq h1,cq (by omega)];apply fc;intro i;rw[show 2^32-1-268435456*(x / 268435456)=2^32-(268435456*(x / 268435456)+1)from by omega,fe,Nat.testBit_two_pow_sub_succ (by omega),fl,fl,
  show(268435456:Nat)=2^28 from by decide,Nat.testBit_mod_two_pow,ef,fg]
 by_cases h:i<28
 ·simp[h,show ¬28<=i from by omega,show i<32 from by omega]
 ·have h16:(16*(x / 2^28)).testBit i=false:=by
   apply fh;exact eg (show _<2^28 by omega) (eh (by decide) (by omega))
  rw[h16];by_cases h2:i<32
  ·simp[h,h2,show 28<=i from by omega]
  ·simp[h,h2]
def UH{h:Nat}{c:UInt8}(hh:h<268435456){x1 x3 x4 x5 x6 x7:Int}
  (e1:x1=aw ch ((h:Int)*(2:Int)^min (ay (4:Int)) 32))(e3:x3=aw ch (x1+(c.toNat:Int)))
  (e4:x4=aw ch (((ak 32 x3&&&ak 32 (4026531840:Int)).toNat:Nat):Int))
  (e5:x5=Int.fdiv x4 ((2:Int)^min (ay (24:Int)) 32))
  (e6:x6=aw ch (((ak 32 x3^^^ak 32 x5).toNat:Nat):Int))
  (e7:x7=aw ch (((ak 32 x6&&&~~~ak 32 x4).toNat:Nat):Int)) :
  x7=(oU h c:Int):=by
 have hc:=c.toNat_lt;have h1:x1=((16*h:Nat):Int):=by
  rw[e1,show(h:Int)*(2:Int)^min (ay (4:Int)) 32=((16*h:Nat):Int)from by rw[show min (ay (4:Int)) 32=4 from by decide];omega,E3 (by omega)]
 have h3:x3=(((16*h+c.toNat) % 4294967296:Nat):Int):=by
  rw[e3,h1,show((16*h:Nat):Int)+(c.toNat:Int)=((16*h+c.toNat:Nat):Int)from by omega,abm]
 generalize hx:(16*h+c.toNat) % 4294967296=x at h3;have hxl:x<4294967296:=by omega
 have h4:x4=((268435456*(x / 268435456):Nat):Int):=by
  rw[e4,h3,show(4026531840:Int)=((4026531840:Nat):Int)from rfl,bv_and (by omega),show(4026531840:Nat) % 2^32=4026531840 from by decide,UF hxl,E3 (by omega)]
 have h5:x5=((16*(x / 268435456):Nat):Int):=by
  rw[e5,h4,show min (ay (24:Int)) 32=24 from by decide,fm _ (by decide)];omega
 have hxor:x^^^16*(x / 268435456)<2^32:=dc hxl (by omega);have h6:x6=((x^^^16*(x / 268435456):Nat):Int):=by
  rw[e6,h3,h5,UE (by omega) (by omega),E3 hxor]
 have hlow:(x % 268435456)^^^(16*(x / 268435456))<2^28:=dc (cg _ (by decide)) (by omega);rw[e7,h6,h4,UG hxl,E3 (by omega)];unfold oU;rw[hx]
def rh3{h:Nat}{c:UInt8}{x1 x3:Int}(e1:x1=16*(h:Int))(e3:x3=(x1+(c.toNat:Int)).tmod 4294967296):x3=(((16*h+c.toNat) % 4294967296:Nat):Int):=by
 rw[e3,e1,ds (by omega)];omega
def rh4{x:Nat}{x3 x4:Int}(h3:x3=(x:Int))(e4:x4=x3.tdiv 268435456):x4=((x / 268435456:Nat):Int):=by
 rw[e4,h3,Int.tdiv_eq_ediv_of_nonneg (by omega)];omega
def RI{h:Nat}{c:UInt8}{x1 x3 x4 x5 x6 x7:Int}(e1:x1=16*(h:Int))(e3:x3=(x1+(c.toNat:Int)).tmod 4294967296)(e4:x4=x3.tdiv 268435456)(e5:x5=x3.tmod 268435456)
  (e6:x6=16*x4)(e7:x7=aw ee (((ak 64 x5^^^ak 64 x6).toNat:Nat):Int)):x7=(oU h c:Int):=by
 have hc:=c.toNat_lt;have h3:=rh3 e1 e3;generalize hx:(16*h+c.toNat) % 4294967296=x at h3;have hxl:x<4294967296:=by omega
 have h4:=rh4 h3 e4;have h5:x5=((x % 268435456:Nat):Int):=by rw[e5,h3,ds (by omega)];omega
 have h6:x6=((16*(x / 268435456):Nat):Int):=by rw[e6,h4];omega
 have hlow:(x % 268435456)^^^(16*(x / 268435456))<2^28:=dc (cg _ (by decide)) (by omega);rw[e7,h5,h6,UE (by omega) (by omega),acR (by omega)];unfold oU;rw[hx]
def iG(p:D aP->Prop)(l:List (D aA))(i k:Nat):Prop:=
 i<l.length/\k<(nth aA l i).2.2.1.length/\p (nth aP (nth aA l i).2.2.1 k)
def yQ(s:List UInt8)(x:D aP):Prop:=x.1=s
def mZ(s:List UInt8)(x:D aP):Prop:=x.1=s/\x.2.2.1=false
def ahead(i k i' k':Nat):Prop:=i<i'\/(i=i'/\k<k')
def wE(p:D aP->Prop)(l:List (D aA))(i k:Nat):Prop:=∀i' k',ahead i' k' i k->¬iG p l i' k'
def nV(p:D aP->Prop)(l:List (D aA))(i k:Nat):Prop:=iG p l i k/\wE p l i k
def Aj{p:D aP->Prop}{l:List (D aA)}{i k i' k':Nat}(h:nV p l i k)(h':nV p l i' k'):i=i'/\k=k':=by
 have h1:¬ahead i k i' k':=fun a=>h'.2 i k a h.1
 have h2:¬ahead i' k' i k:=fun a=>h.2 i' k' a h'.1
 unfold ahead at h1 h2;omega
def Ak{p:D aP->Prop}{l:List (D aA)}{i k:Nat}(h:iG p l i k):∃i k,nV p l i k:=by
 have hi:∀n,∀i,i<=n->∀k,iG p l i k->∃i,(∃k,iG p l i k)/\∀j,j<i->∀k,¬iG p l j k:=by
  intro n;induction n with
  |zero=>intro i hi k h;exact⟨i,⟨k,h⟩,fun j hj=>by omega⟩
  |succ n ih=>
   intro i hi k h;by_cases c:∃j,j<i/\∃k,iG p l j k
   ·obtain⟨j,hj,k,hk⟩:=c
    exact ih j (by omega) k hk
   ·exact⟨i,⟨k,h⟩,fun j hj k hk=>c ⟨j,hj,k,hk⟩⟩
 obtain⟨i0,⟨k0,h0⟩,hmin⟩:=hi i i (ar _) k h;have hk:∀n,∀k,k<=n->iG p l i0 k->∃k,iG p l i0 k/\∀j,j<k->¬iG p l i0 j:=by
  intro n;induction n with
  |zero=>intro k hk h;exact⟨k,h,fun j hj=>by omega⟩
  |succ n ih=>
   intro k hk h;by_cases c:∃j,j<k/\iG p l i0 j
   ·obtain⟨j,hj,h2⟩:=c
    exact ih j (by omega) h2
   ·exact⟨k,h,fun j hj h2=>c ⟨j,hj,h2⟩⟩
 obtain⟨k1,h1,h2⟩:=hk k0 k0 (ar _) h0;refine⟨i0,k1,h1,fun i' k' ha hp =>?_⟩;rcases ha with ha|⟨rfl,ha⟩
 ·exact hmin i' ha k' hp
 ·exact h2 k' ha hp
open Classical in
def dR(x:List (D aA)×List UInt8):Int×Int:=
 if h:∃p:Nat×Nat,nV (mZ x.2) x.1 p.1 p.2 then(((cr h).1:Nat),((cr h).2:Nat))
 else if h:∃p:Nat×Nat,nV (yQ x.2) x.1 p.1 p.2 then(((cr h).1:Nat),((cr h).2:Nat))
 else(-1,-1)
def tW{l:List (D aA)}{s:List UInt8}{i k:Nat}(h:nV (mZ s) l i k):dR (l,s)=((i:Int),(k:Int)):=by
 have hx:∃p:Nat×Nat,nV (mZ s) l p.1 p.2:=⟨(i,k),h⟩
 unfold dR;rw[dif_pos hx];have:=Aj h (dt hx);rw[<-this.1,<-this.2]
def xG{l:List (D aA)}{s:List UInt8}{i k:Nat}(hn:∀i k,¬iG (mZ s) l i k)(h:nV (yQ s) l i k):dR (l,s)=((i:Int),(k:Int)):=by
 have hx:∃p:Nat×Nat,nV (yQ s) l p.1 p.2:=⟨(i,k),h⟩
 unfold dR;rw[dif_neg (fun⟨p,h⟩=>hn p.1 p.2 h.1),dif_pos hx];have:=Aj h (dt hx);rw[<-this.1,<-this.2]
def xH{l:List (D aA)}{s:List UInt8}(hn:∀i k,¬iG (yQ s) l i k):dR (l,s)=(-1,-1):=by
 unfold dR;rw[dif_neg (fun⟨p,h⟩=>hn p.1 p.2 ⟨h.1.1,h.1.2.1,h.1.2.2.1⟩),dif_neg (fun⟨p,h⟩=>hn p.1 p.2 h.1)]
def N5(l:List (D aA))(s:List UInt8):(∃i k:Nat,dR (l,s)=((i:Int),(k:Int))/\nV (mZ s) l i k)\/
  (∃i k:Nat,dR (l,s)=((i:Int),(k:Int))/\nV (yQ s) l i k/\∀i k,¬iG (mZ s) l i k)\/
  (dR (l,s)=(-1,-1)/\∀i k,¬iG (yQ s) l i k):=by
 by_cases h1:∃i k,iG (mZ s) l i k
 ·obtain⟨i,k,h⟩:=h1
  obtain⟨i,k,h⟩:=Ak h;exact .inl ⟨i,k,tW h,h⟩
 ·have h1':∀i k,¬iG (mZ s) l i k:=fun i k h=>h1 ⟨i,k,h⟩
  by_cases h2:∃i k,iG (yQ s) l i k
  ·obtain⟨i,k,h⟩:=h2
   obtain⟨i,k,h⟩:=Ak h;exact .inr (.inl ⟨i,k,xG h1' h,h,h1'⟩)
  ·have h2':∀i k,¬iG (yQ s) l i k:=fun i k h=>h2 ⟨i,k,h⟩
   exact .inr (.inr ⟨xH h2',h2'⟩)
def kj(l:List (D aA))(s:List UInt8)(i k:Nat)(a b:Int):Prop:=
 wE (mZ s) l i k/\((a= -1/\b= -1/\wE (yQ s) l i k)\/∃i0 k0:Nat,a=i0/\b=k0/\nV (yQ s) l i0 k0)
def kj.start(l:List (D aA))(s:List UInt8):kj l s 0 0 (-1) (-1):=
 ⟨fun i' k' h=>by unfold ahead at h;omega,.inl ⟨rfl,rfl,fun i' k' h=>by unfold ahead at h;omega⟩⟩
def wE.next{p:D aP->Prop}{l:List (D aA)}{i k:Nat}(h:wE p l i k)(hn:¬iG p l i k):wE p l i (k+1):=by
 intro i' k' ha hp;by_cases e:i'=i/\k'=k
 ·rw[e.1,e.2]at hp;exact hn hp
 ·exact h i' k' (by unfold ahead at*;omega) hp
def kj.skip{l:List (D aA)}{s:List UInt8}{i k:Nat}{a b:Int}(h:kj l s i k a b)(hn:¬(nth aP (nth aA l i).2.2.1 k).1=s):kj l s i (k+1) a b:=by
 refine⟨h.1.next fun hp=>hn hp.2.2.1,?_⟩;rcases h.2 with⟨h1,h2,h3⟩|h3
 ·exact .inl ⟨h1,h2,h3.next fun hp=>hn hp.2.2⟩
 ·exact .inr h3
def kj.acS{l:List (D aA)}{s:List UInt8}{i k:Nat}{a b:Int}(h:kj l s i k a b)(hi:i<l.length)(hk:k<(nth aA l i).2.2.1.length)
  (hs:(nth aP (nth aA l i).2.2.1 k).1=s)(hw:(nth aP (nth aA l i).2.2.1 k).2.2.1=false):dR (l,s)=((i:Int),(k:Int)):=
 tW ⟨⟨hi,hk,hs,hw⟩,h.1⟩
def kj.GG{l:List (D aA)}{s:List UInt8}{i k:Nat}{a b:Int}(h:kj l s i k a b)(hi:i<l.length)(hk:k<(nth aA l i).2.2.1.length)
  (hs:(nth aP (nth aA l i).2.2.1 k).1=s)(hw:¬(nth aP (nth aA l i).2.2.1 k).2.2.1=false)(ha:a<0):kj l s i (k+1) (i:Int) (k:Int):=by
 refine⟨h.1.next fun hp=>hw hp.2.2.2,.inr ⟨i,k,rfl,rfl,⟨hi,hk,hs⟩,?_⟩⟩;rcases h.2 with⟨_,_,h3⟩|⟨i0,k0,h1,_⟩
 ·exact h3
 ·omega
def kj.more{l:List (D aA)}{s:List UInt8}{i k:Nat}{a b:Int}(h:kj l s i k a b)
  (hw:¬(nth aP (nth aA l i).2.2.1 k).2.2.1=false)(ha:¬a<0):kj l s i (k+1) a b:=by
 refine⟨h.1.next fun hp=>hw hp.2.2.2,?_⟩;rcases h.2 with⟨h1,_,_⟩|h3
 ·omega
 ·exact .inr h3
def wE.row{p:D aP->Prop}{l:List (D aA)}{i k:Nat}(h:wE p l i k)(hk:(nth aA l i).2.2.1.length<=k):wE p l (i+1) 0:=by
 intro i' k' ha hp;refine h i' k' ?_ hp;unfold ahead at*;by_cases e:i'=i
 ·subst e;have:=hp.2.1;omega
 ·omega
def kj.row{l:List (D aA)}{s:List UInt8}{i k:Nat}{a b:Int}(h:kj l s i k a b)(hk:(nth aA l i).2.2.1.length<=k):kj l s (i+1) 0 a b:=by
 refine⟨h.1.row hk,?_⟩;rcases h.2 with⟨h1,h2,h3⟩|h3
 ·exact .inl ⟨h1,h2,h3.row hk⟩
 ·exact .inr h3
def wE.all{p:D aP->Prop}{l:List (D aA)}{i k:Nat}(h:wE p l i k)(hi:l.length<=i):∀i k,¬iG p l i k:=
 fun i' k' hp=>h i' k' (by have:=hp.1;unfold ahead;omega) hp
def kj.done{l:List (D aA)}{s:List UInt8}{i k:Nat}{a b:Int}(h:kj l s i k a b)(hi:l.length<=i):dR (l,s)=(a,b):=by
 rcases h.2 with⟨rfl,rfl,h3⟩|⟨i0,k0,rfl,rfl,h3⟩
 ·exact xH (h3.all hi)
 ·exact xG (h.1.all hi) h3
def jD{p:Nat->Prop}{n:Nat}(h:∀j,j<n->p j)(hn:p n):∀j,j<n+1->p j:=by
 intro j hj;by_cases e:j=n
 ·rw[e];exact hn
 ·exact h j (by omega)
def tw{l:List (D aA)}{s:List UInt8}(h:0<=(dR (l,s)).1):(dR (l,s)).1<l.length/\0<=(dR (l,s)).2/\(dR (l,s)).2<(nth aA l (dR (l,s)).1.toNat).2.2.1.length/\
  (nth aP (nth aA l (dR (l,s)).1.toNat).2.2.1 (dR (l,s)).2.toNat).1=s:=by
 rcases N5 l s with⟨i0,k0,e,f⟩|⟨i0,k0,e,f,n⟩|⟨e,n⟩
 ·rw[e];obtain⟨h1,h2,h3⟩:=f.1;exact⟨by simp only;omega,by simp only;omega,by simp only[du];omega,h3.1⟩
 ·rw[e];obtain⟨h1,h2,h3⟩:=f.1;exact⟨by simp only;omega,by simp only;omega,by simp only[du];omega,h3⟩
 ·rw[e]at h;simp at h
end Go.Mrl
namespace Go.Mrl
open Go.Vg
end Go.Mrl
namespace Go.Mrl
open Go.Vg
end Go.Mrl

namespace Go.Mrl
open Go.Vg
end Go.Mrl
namespace Go.Mrl
open Go.Vg
end Go.Mrl
namespace Go.Mrl
open Go.Vg
end Go.Mrl
namespace Go.Mrl
open Go.Vg
def sW(n:Nat)(f:Nat->Bool):List Bool:=(b6 n).map f
def pW(n:Nat)(f:Nat->Bool):(sW n f).length=n:=by simp[sW]
def xI{n i:Nat}{f:Nat->Bool}(h:i<n):(sW n f)[i]?=some (f i):=by simp[sW,List.getElem?_range h]
def DE{n i:Nat}{f:Nat->Bool}(h:i<n):nth .bool (sW n f) i=f i:=gD (t:=.bool) (xI h)
def Yy{n i:Nat}{f:Nat->Bool}(v:Bool):(sW n f).set i v=sW n (fun j=>if j=i then v else f j):=by
 apply List.ext_getElem?;intro j;rw[List.getElem?_set];by_cases hj:j<n
 ·rw[xI hj]
  by_cases e:i=j
  ·subst e;rw[if_pos rfl,if_pos (by rw[pW];exact hj),xI hj,if_pos rfl]
  ·rw[if_neg e,xI hj,if_neg (fun h=>e h.symm)]
 ·have h1:∀g:Nat->Bool,(sW n g)[j]?=none:=fun g=>List.getElem?_eq_none (by rw[pW];omega)
  rw[h1,h1];split
  ·rw[pW,if_neg (by omega)]
  ·rfl
def K9{n:Nat}{f g:Nat->Bool}(h:∀i,i<n->f i=g i):sW n f=sW n g:=
 List.map_congr_left fun i hi=>h i (da.1 hi)
end Go.Mrl
namespace Go.Mrl
open Go.Vg
end Go.Mrl
namespace Go.Mrl
open Go.Vg
end Go.Mrl

namespace Go.Mrl
open Go.Vg
def jv(a b:Int×Int×Unit):Bool:=decide (a.2.1<=0) || (decide (b.2.1<=0) || (decide (a.1+a.2.1<=b.1) || decide (b.1+b.2.1<=a.1)))
def vC{a b:Int×Int×Unit}:jv a b=true↔a.2.1<=0\/b.2.1<=0\/a.1+a.2.1<=b.1\/b.1+b.2.1<=a.1:=by simp[jv]
def Al{a b:Int×Int×Unit}:jv a b=false↔0<a.2.1/\0<b.2.1/\b.1<a.1+a.2.1/\a.1<b.1+b.2.1:=by simp[jv]
def cP(n:Int):Int:=(n+15) / 16*16
def qG(r:Int×Int×Unit):Prop:=-1000000<=r.1/\r.1<=1000000/\-1000000<=r.2.1/\r.2.1<=1000000
def jm(r:D bA)(l:List (D bA)):Bool:=l.all (jv r)
def oV{t:Ty}{xs:List (D t)}{i:Nat}(h:i<xs.length):xs[i]?=some (nth t xs i):=by
 rw[List.getElem?_eq_getElem h,<-gD (List.getElem?_eq_getElem h)]
def eO{t:Ty}{xs:List (D t)}{i:Nat}(h:i<xs.length):nth t xs i∈xs:=by
 have:=oV (t:=t) h;exact cd this
def gT{t:Ty}{xs:List (D t)}{x:D t}(h:x∈xs):∃i,i<xs.length/\nth t xs i=x:=by
 obtain⟨i,hi,e⟩:=ct h;exact⟨i,hi,by rw[<-e];exact gD (List.getElem?_eq_getElem hi)⟩
def E4{r:D bA}{l:List (D bA)}(h:∀j,j<l.length->jv r (nth bA l j)=true):jm r l=true:=by
 unfold jm;rw[bh];intro x hx;obtain⟨i,hi,e⟩:=gT hx;rw[<-e];exact h i hi
def CA{r:D bA}{l:List (D bA)}{j:Nat}(h:j<l.length)(hf:jv r (nth bA l j)=false):jm r l=false:=by
 unfold jm;rw[dd];exact⟨_,eO h,by rw[hf];decide⟩
def UI{r:D bA}{l:List (D bA)}(h:jm r l=false):∃x∈l,jv r x=false:=by
 unfold jm at h;rw[dd]at h;obtain⟨x,hx,e⟩:=h;exact⟨x,hx,by simpa using e⟩
def gP(l:List (D bA))(many:Int):Nat->Int->Int
 |0,at_=>at_
 |n+1,at_=>if jm (at_,many,()) l=true then at_ else gP l many n (at_+16)
def fR:List (D bA)->List Int->List Int->Option (List Int)
 |_,[],out=>some out
 |l,n :: r,out=>if 256<gP l (cP n) 40 0+cP n then none else fR (l++[(gP l (cP n) 40 0,cP n,())]) r (out++[gP l (cP n) 40 0])
def DF(s:List Int):Bool:=s.any fun(n:Int)=>decide (n<1) || decide (40<n)
def DG(l:List (D bA)):Bool:=l.any fun(r:Int×Int×Unit)=>decide (r.1<0) || (decide (256<r.1) || (decide (r.2.1<0) || decide (256<r.2.1)))
def cC(x:List Int×List (D bA)):List Int×aS:=
 if 6<x.1.length\/20<x.2.length then([],.no 2)else if DF x.1=true\/DG x.2=true then([],.no 1)else
  match fR x.2 x.1 []with
  |some o=>(o,.nil)
  |none=>([],.no 8)
def PZ{t:Ty}{xs:List (D t)}{p:D t->Bool}{i:Nat}(h:i<xs.length)(hp:p (nth t xs i)=true):xs.any p=true:=by
 rw[cf];exact⟨_,eO h,hp⟩
def P0{t:Ty}{xs:List (D t)}{p:D t->Bool}(h:∀i,i<xs.length->p (nth t xs i)=false):xs.any p=false:=by
 rw[db];intro x hx;obtain⟨i,hi,e⟩:=gT hx;rw[<-e,h i hi];decide
def oW{l:List (D bA)}{s out:List Int}{k:Nat}(h:k<s.length):fR l (s.drop k) out=
  if 256<gP l (cP (nth (.int .i64) s k)) 40 0+cP (nth (.int .i64) s k)then none
  else fR (l++[(gP l (cP (nth (.int .i64) s k)) 40 0,cP (nth (.int .i64) s k),())]) (s.drop (k+1)) (out++[gP l (cP (nth (.int .i64) s k)) 40 0]):=by
 have e:s.drop k=nth (.int .i64) s k :: s.drop (k+1):=by
  rw[fo h];congr 1;exact(gD (t:=.int .i64) (List.getElem?_eq_getElem h)).symm
 rw[e];rfl
def CB{l:List (D bA)}{s out:List Int}{k:Nat}(h:s.length<=k):fR l (s.drop k) out=some out:=by
 rw[bj h];rfl
def ke(r:Int×Int×Unit):Prop:=0<=r.1/\r.1<=256/\0<=r.2.1/\r.2.1<=256
def ke.qG{r:Int×Int×Unit}(h:ke r):Mrl.qG r:=by
 obtain⟨h1,h2,h3,h4⟩:=h;refine⟨?_,?_,?_,?_⟩ <;> omega
def HJ{l:List (D bA)}{at_ many:Int}(hl:∀x∈l,ke x)(h:jm (at_,many,()) l=false):at_<512:=by
 obtain⟨x,hx,e⟩:=UI h;obtain⟨h1,h2,h3,h4⟩:=hl x hx;obtain⟨h5,h6,h7,h8⟩:=Al.1 e;have h8:at_<x.1+x.2.1:=h8;omega
def se{l:List (D bA)}{many at_:Int}{n:Nat}(h:jm (at_,many,()) l=true):gP l many n at_=at_:=by
 cases n with
 |zero=>rfl
 |succ n=>rw[gP,if_pos h]
def HK{l:List (D bA)}{many at_:Int}{n:Nat}(h:jm (at_,many,()) l=false):gP l many (n+1) at_=gP l many n (at_+16):=by
 rw[gP,if_neg (by rw[h];decide)]
def eE{n:Int}(h1:1<=n)(h2:n<=40):16<=cP n/\cP n<=48:=by unfold cP;omega
end Go.Mrl
namespace Go.Mrl
open Go.Vg
def vD{s:List Int}{l:List (D bA)}(h:6<s.length\/20<l.length):cC (s,l)=([],.no 2):=by
 unfold cC;rw[if_pos h]
def vE{s:List Int}{l:List (D bA)}(h:¬(6<s.length\/20<l.length)){i:Nat}(hi:i<s.length)(hb:¬(1<=(nth (.int .i64) s i:Int)/\(nth (.int .i64) s i:Int)<=40)):cC (s,l)=([],.no 1):=by
 unfold cC;rw[if_neg h,if_pos];refine .inl (PZ (t:=.int .i64) hi ?_);simp only[cc,decide_eq_true_eq];generalize nth (.int .i64) s i=x at hb;have hb:¬(1<=(x:Int)/\(x:Int)<=40):=hb;dsimp only[D]at*;omega
def tX{s:List Int}{l:List (D bA)}(h:¬(6<s.length\/20<l.length)){i:Nat}(hi:i<l.length)(hb:¬ke (nth bA l i)):cC (s,l)=([],.no 1):=by
 unfold cC;rw[if_neg h,if_pos];refine .inr (PZ (t:=bA) hi ?_);simp only[cc,decide_eq_true_eq];unfold ke at hb;dsimp only[D]at*;omega
def sG{s:List Int}{l:List (D bA)}(h:¬(6<s.length\/20<l.length))(hs:∀j,j<s.length->1<=(nth (.int .i64) s j:Int)/\(nth (.int .i64) s j:Int)<=40)(ht:∀j,j<l.length->ke (nth bA l j)) :
  cC (s,l)=match fR l s []with|some o=>(o,.nil)|none=>([],.no 8):=by
 unfold cC;rw[if_neg h,if_neg];rintro(e|e)
 ·have:DF s=false:=P0 (t:=.int .i64) fun i hi=>by
   have:=hs i hi;simp only[ed,decide_eq_false_iff_not];dsimp only[D]at*;omega
  rw[this]at e;cases e
 ·have:DG l=false:=P0 (t:=bA) fun i hi=>by
   have:=ht i hi;unfold ke at this;simp only[ed,decide_eq_false_iff_not];dsimp only[D]at*;omega
  rw[this]at e;cases e
end Go.Mrl
namespace Go.Mrl
open Go.Vg
def La{l:List (Int×Int×Unit)}{r:Int×Int×Unit}(h:∀y∈l,ke y)(hr:ke r):∀y∈l++[r],ke y:=by
 intro y hy;rcases bb.1 hy with hy|hy
 ·exact h y hy
 ·simp at hy;rw[hy];exact hr
end Go.Mrl
namespace Go.Mrl
open Go.Vg
def ta(l:List (Int×Int×Unit))(p:Int):Bool:=l.any fun r=>decide (r.1<=p)&&decide (p<r.1+r.2.1)
def l7(l:List (Int×Int×Unit)):List Bool:=sW 600 fun p=>ta l p
def P1(U:List Bool)(p:Int):Bool:=decide (600<=p) || !(nth .bool U p.toNat)
def jO(U:List Bool)(at_:Int)(k:Nat):Bool:=(b6 k).all fun q=>P1 U (at_+q)
def oD(U:List Bool)(many:Int):Nat->Int->Int
 |0,at_=>at_
 |n+1,at_=>if jO U at_ many.toNat=true then at_ else oD U many n (at_+16)
def jP(U:List Bool)(at_:Int)(k:Nat):List Bool:=sW 600 fun p=>nth .bool U p || (decide (at_<=p)&&decide ((p:Int)<at_+k))
def tY(l:List (Int×Int×Unit)):(l7 l).length=600:=pW _ _
def q8(U:List Bool)(at_:Int)(k:Nat):(jP U at_ k).length=600:=pW _ _
def HM{l:List (Int×Int×Unit)}{p:Nat}(h:p<600):nth .bool (l7 l) p=ta l p:=DE h
def JT{a b:List Bool}(hl:a.length=b.length)(h:∀i,i<a.length->nth .bool a i=nth .bool b i):a=b:=by
 apply fp hl;intro i h1 h2;have:=h i h1;rw[show nth .bool a i=a[i]from gD (t:=.bool) (List.getElem?_eq_getElem h1),show nth .bool b i=b[i]from gD (t:=.bool) (List.getElem?_eq_getElem h2)]at this;exact this
def E5{U:List Bool}{at_:Int}(h:U.length=600):jP U at_ 0=U:=by
 apply JT (by rw[q8,h]);intro i hi;rw[q8]at hi;unfold jP;rw[DE hi];have:(decide (at_<=(i:Int))&&decide ((i:Int)<at_+((0:Nat):Int)))=false:=by simp <;> omega
 rw[this,Bool.or_false]
def HN{U:List Bool}{at_:Int}{k:Nat}(h0:0<=at_)(_:at_+k<600):(jP U at_ k).set (at_+k).toNat true=jP U at_ (k+1):=by
 unfold jP;rw[Yy];refine K9 fun i hi =>?_
 by_cases e:i=(at_+k).toNat
 ·rw[if_pos e]
  have:(decide (at_<=(i:Int))&&decide ((i:Int)<at_+((k+1:Nat):Int)))=true:=by simp;omega
  rw[this,Bool.or_true]
 ·rw[if_neg e]
  congr 1;by_cases h1:at_<=(i:Int)
  ·by_cases h2:(i:Int)<at_+k
   ·simp[h1,h2];omega
   ·simp[h1,h2];omega
  ·simp[h1]
def RJ(l:List (Int×Int×Unit))(r:Int×Int×Unit)(p:Int):ta (l++[r]) p=(ta l p || (decide (r.1<=p)&&decide (p<r.1+r.2.1))):=by
 simp[ta]
def E6{l:List (Int×Int×Unit)}{at_ many:Int}{k:Nat}(hk:(k:Int)=many):jP (l7 l) at_ k=l7 (l++[(at_,many,())]):=by
 unfold jP l7;refine K9 fun i hi =>?_
 rw[DE hi,RJ];simp only[hk]
def RL{l:List (D bA)}{i k:Nat}(hi:i<l.length)(hk:(k:Int)=(nth bA l i).2.1):jP (l7 (l.take i)) (nth bA l i).1 k=l7 (l.take (i+1)):=by
 have e:l.take (i+1)=l.take i++[nth bA l i]:=by
  rw[cp,oV (t:=bA) hi];rfl
 rw[e];exact E6 (l:=l.take i) hk
def xJ{U:List Bool}{at_:Int}{k:Nat}:jO U at_ (k+1)=(jO U at_ k&&P1 U (at_+k)):=by
 unfold jO;rw[cu,List.all_append];simp
def RM{U:List Bool}{at_:Int}{k n:Nat}(h:k<=n)(hf:jO U at_ k=false):jO U at_ n=false:=by
 induction n with
 |zero=>
  obtain rfl:k=0:=by omega
  exact hf
 |succ n ih=>
  by_cases e:k=n+1
  ·rw[<-e];exact hf
  ·rw[xJ,ih (by omega)];rfl
def E7{U:List Bool}{many at_:Int}{n:Nat}(h:jO U at_ many.toNat=true):oD U many n at_=at_:=by
 cases n with
 |zero=>rfl
 |succ n=>rw[oD,if_pos h]
def Yz{U:List Bool}{many at_:Int}{n:Nat}(h:jO U at_ many.toNat=false):oD U many (n+1) at_=oD U many n (at_+16):=by
 rw[oD,if_neg (by rw[h];decide)]
def E8{l:List (Int×Int×Unit)}{at_ many:Int}(hl:∀y∈l,ke y)(h0:0<=at_)(hm:0<many):jO (l7 l) at_ many.toNat=jm (at_,many,()) l:=by
 rw[ei];constructor
 ·intro h
  unfold jm;rw[bh];intro(x:Int×Int×Unit) hx;obtain⟨g1,g2,g3,g4⟩:=hl x hx;rw[vC];show many<=0\/x.2.1<=0\/at_+many<=x.1\/x.1+x.2.1<=at_;apply au;intro hn;have hc:0<x.2.1/\x.1<at_+many/\at_<x.1+x.2.1:=by omega
  have key:∀p:Int,at_<=p->p<at_+many->x.1<=p->p<x.1+x.2.1->False:=by
   intro p p1 p2 p3 p4;have:=bh.1 h (p-at_).toNat (da.2 (by omega));rw[show at_+((p-at_).toNat:Int)=p by omega]at this;unfold P1 at this;rw[HM (by omega),show((p.toNat:Nat):Int)=p by omega]at this;have hin:ta l p=true:=by
    unfold ta;rw[cf];exact⟨x,hx,by simp[p3,p4]⟩
   rw[hin]at this;simp at this;omega
  by_cases q:at_<=x.1
  ·exact key x.1 q (by omega) (by omega) (by omega)
  ·exact key at_ (by omega) (by omega) (by omega) (by omega)
 ·intro h
  unfold jO;rw[bh];intro q hq;have hq:=da.1 hq;unfold P1;by_cases h6:600<=at_+(q:Int)
  ·simp[h6]
  ·rw[HM (by omega),show(((at_+(q:Int)).toNat:Nat):Int)=at_+q by omega]
   have:ta l (at_+q)=false:=by
    unfold ta;rw[db];intro(x:Int×Int×Unit) hx;unfold jm at h;have:=vC.1 (bh.1 h x hx);simp only[ba,decide_eq_true_eq,not_and];have:many<=0\/x.2.1<=0\/at_+many<=x.1\/x.1+x.2.1<=at_:=this;omega
   rw[this];simp
def E9{l:List (Int×Int×Unit)}{many:Int}(hl:∀y∈l,ke y)(hm:0<many):∀(n:Nat) (at_:Int),0<=at_->oD (l7 l) many n at_=gP l many n at_:=by
 intro n;induction n with
 |zero=>intro at_ _;rfl
 |succ n ih=>
  intro at_ h0;unfold oD gP;rw[E8 hl h0 hm,ih _ (by omega)]
end Go.Mrl
namespace Go.Mrl
open Go.Vg
def N6{U:List Bool}{at_:Int}{k:Nat}(h:jO U at_ k=true)(h6:600<=at_+k):true=jO U at_ (k+1):=by
 rw[xJ,h];simp[P1,h6]
def N7{U:List Bool}{at_:Int}{k:Nat}(h:jO U at_ k=true)(h6:at_+k<600):(!(nth .bool U (at_+k).toNat))=jO U at_ (k+1):=by
 rw[xJ,h];have:decide (600<=at_+(k:Int))=false:=by simp;omega
 simp[P1,this]
def py(x:List Int×List (D bA)):List Int×Int:=((cC x).1,jj (cC x).2)
end Go.Mrl

namespace Go.Mrl
open Go.Vg
def vF{t:Ty}{a b:List (D t)}(hl:a.length=b.length)(h:∀i,i<a.length->nth t a i=nth t b i):a=b:=by
 apply fp hl;intro i h1 h2;have:=h i h1
 rwa [show nth t a i=a[i]from gD (List.getElem?_eq_getElem h1),show nth t b i=b[i]from gD (List.getElem?_eq_getElem h2)]at this
def mR(a b:List Int):Bool:=decide (a=b)
def lC(a b:List (List UInt8)):Bool:=decide (a=b)
def RN{a b:List Int}(hl:(a.length:Int)=b.length)(h:∀i,i<a.length->nth (.int .i64) a i=nth (.int .i64) b i):true=mR a b:=by
 rw[vF (t:=.int .i64) (by omega) h];simp[mR]
def UJ{a b:List Int}(hl:¬(a.length:Int)=b.length):false=mR a b:=by
 symm;simp only[mR,decide_eq_false_iff_not];intro e;exact hl (by rw[e])
def YA{a b:List Int}{i:Nat}(h:¬nth (.int .i64) a i=nth (.int .i64) b i):false=mR a b:=by
 symm;simp only[mR,decide_eq_false_iff_not];intro e;exact h (by rw[e])
def RO{a b:List (List UInt8)}(hl:(a.length:Int)=b.length)(h:∀i,i<a.length->nth .str a i=nth .str b i):true=lC a b:=by
 rw[vF (t:=.str) (by omega) h];simp[lC]
def UK{a b:List (List UInt8)}(hl:¬(a.length:Int)=b.length):false=lC a b:=by
 symm;simp only[lC,decide_eq_false_iff_not];intro e;exact hl (by rw[e])
def YB{a b:List (List UInt8)}{i:Nat}(h:¬nth .str a i=nth .str b i):false=lC a b:=by
 symm;simp only[lC,decide_eq_false_iff_not];intro e;exact h (by rw[e])
def ad6{α:Type}{p:Nat->α->Prop}{f:Nat->α}{k:Nat}(h:∀j,j<k->p j (f j))(hk:p k (f k)):∀j,j<k+1->p j (f j):=by
 intro j hj;by_cases e:j=k
 ·subst e;exact hk
 ·exact h j (by omega)
def Am{p:Nat->Prop}{k:Nat}(h:∀j,j<k->p j)(hk:p k):∀j,j<k+1->p j:=by
 intro j hj;by_cases e:j=k
 ·subst e;exact hk
 ·exact h j (by omega)
def q9{t:Ty}{a b:List (D t)}{i:Nat}:nth t (a++b) i=if i<a.length then nth t a i else nth t b (i-a.length):=by
 unfold nth;simp only[List.getD_eq_getElem?_getD,List.getElem?_append];split <;> rfl
def DH{t:Ty}{a:List (D t)}{n i:Nat}(h:i<n):nth t (a.take n) i=nth t a i:=by
 unfold nth;simp only[List.getD_eq_getElem?_getD,List.getElem?_take,if_pos h]
@[reducible] def iT:Ty:=.slice (.int .i64)
@[reducible] def nW:Ty:=.slice iT
abbrev Pt:=Int×Int×Int×Unit
abbrev Ws:=List (List Int)
def uP(w:Ws)(p:Pt):Prop:=0<=p.1/\p.1<w.length/\0<=p.2.1/\p.2.1<(nth iT w p.1.toNat).length
def tZ(w:Ws)(p:Pt):Ws:=w.set p.1.toNat ((nth iT w p.1.toNat).set p.2.1.toNat p.2.2.1)
def iU(w:Ws)(l:List Pt):Ws:=l.foldl tZ w
open Classical in
def jQ(x:Ws×List Pt):Ws×aS:=if ∀i,i<x.2.length->uP x.1 (nth aN x.2 i)then(iU x.1 x.2,.nil)else([],.no 1)
def lD{t:Ty}{l:List (D t)}{i j:Nat}{x:D t}(h:¬i=j):nth t (l.set i x) j=nth t l j:=by
 unfold nth;simp only[List.getD_eq_getElem?_getD];rw[List.getElem?_set_ne h]
def lE{t:Ty}{l:List (D t)}{i:Nat}{x:D t}(h:i<l.length):nth t (l.set i x) i=x:=by
 unfold nth;simp only[List.getD_eq_getElem?_getD];rw[List.getElem?_set_self h];rfl
def CC(w:Ws)(p:Pt):(tZ w p).length=w.length:=by simp[tZ]
def Lb(w:Ws)(p:Pt)(i:Nat):nth iT (tZ w p) i=if i<w.length/\p.1.toNat=i then(nth iT w i).set p.2.1.toNat p.2.2.1 else nth iT w i:=by
 unfold tZ;by_cases c:p.1.toNat=i
 ·subst c
  by_cases c2:p.1.toNat<w.length
  ·rw[if_pos ⟨c2,rfl⟩,lE (t:=iT) c2]
  ·rw[if_neg (fun h=>c2 h.1),List.set_eq_of_length_le (by omega)]
 ·rw[if_neg (fun h=>c h.2),lD (t:=iT) c]
def UL(w:Ws)(p:Pt)(i:Nat):(nth iT (tZ w p) i).length=(nth iT w i).length:=by
 rw[Lb];split <;> simp
def sf(l:List Pt):∀w:Ws,(iU w l).length=w.length:=by
 induction l with
 |nil=>intro w;rfl
 |cons p l ih=>intro w;show(iU (tZ w p) l).length=_;rw[ih,CC]
def An(l:List Pt):∀(w:Ws) (i:Nat),(nth iT (iU w l) i).length=(nth iT w i).length:=by
 induction l with
 |nil=>intro w i;rfl
 |cons p l ih=>intro w i;show(nth iT (iU (tZ w p) l) i).length=_;rw[ih,UL]
def UM(w:Ws)(l:List Pt)(p:Pt):iU w (l++[p])=tZ (iU w l) p:=by simp[iU]
def my{t:Ty}{l:List (D t)}{k:Nat}(h:k<l.length):l.take (k+1)=l.take k++[nth t l k]:=by
 rw[cp,oV h];rfl
def UN{w:Ws}{l:List Pt}{k:Nat}(h:k<l.length):tZ (iU w (l.take k)) (nth aN l k)=iU w (l.take (k+1)):=by
 rw[my (t:=aN) h,UM]
def wF{w:Ws}{l:List Pt}(h:∀i,i<l.length->uP w (nth aN l i)):jQ (w,l)=(iU w l,.nil):=by unfold jQ;rw[if_pos h]
def YC{w:Ws}{l:List Pt}{i:Nat}(hi:i<l.length)(h:¬uP w (nth aN l i)):jQ (w,l)=([],.no 1):=by
 unfold jQ;rw[if_neg (fun hh=>h (hh i hi))]
def mK(r:List Int)(i:Nat):List Pt->List Int
 |[]=>r
 |p :: l=>mK (if p.1=(i:Int)then r.set p.2.1.toNat p.2.2.1 else r) i l
def Ao(i:Nat)(p:Pt):∀(l:List Pt) (r:List Int),mK r i (l++[p])=if p.1=(i:Int)then(mK r i l).set p.2.1.toNat p.2.2.1 else mK r i l
 |[],_=>rfl
 |_ :: l,_=>Ao i p l _
def CE(i:Nat):∀(l:List Pt) (r:List Int),(mK r i l).length=r.length
 |[],_=>rfl
 |_ :: l,_=>by rw[mK,CE i l];split <;> simp
def UO{w:Ws}{i:Nat}(hi:i<w.length):∀{l:List Pt} (_:∀p∈l,0<=p.1),nth iT (iU w l) i=mK (nth iT w i) i l:=by
 intro l;induction l generalizing w with
 |nil=>intro _;rfl
 |cons p l ih=>
  intro h;show nth iT (iU (tZ w p) l) i=_;rw[ih (by rw[CC];exact hi) (fun q hq=>h q (by simp[hq])),Lb,mK];have hp:=h p (by simp);by_cases c:p.1=(i:Int)
  ·rw[if_pos ⟨hi,by omega⟩,if_pos c]
  ·rw[if_neg (fun h=>by omega),if_neg c]
def YD{r:List Int}{i k:Nat}{p:List Pt}(h:k<p.length)(e:(nth aN p k).1=(i:Int)):(mK r i (p.take k)).set (nth aN p k).2.1.toNat (nth aN p k).2.2.1=mK r i (p.take (k+1)):=by
 rw[my (t:=aN) h,Ao,if_pos e]
def UP{r:List Int}{i k:Nat}{p:List Pt}(h:k<p.length)(e:¬(nth aN p k).1=(i:Int)):mK r i (p.take k)=mK r i (p.take (k+1)):=by
 rw[my (t:=aN) h,Ao,if_neg e]
def YE{w:Ws}{l:List Pt}{i:Nat}(hi:i<w.length)(h:∀j,j<l.length->uP w (nth aN l j)):nth iT (jQ (w,l)).1 i=mK (nth iT w i) i l:=by
 rw[wF h];refine UO hi fun p hp =>?_
 obtain⟨j,hj,rfl⟩:=gT (t:=aN) hp;exact(h j hj).1
def YF{w:Ws}{l:List Pt}(h:(jQ (w,l)).2.isNil=true):∀i,i<l.length->uP w (nth aN l i):=by
 unfold jQ at h;split at h
 ·assumption
 ·cases h
def YG{w:Ws}{l:List Pt}(h:(jQ (w,l)).2.isNil=true):(jQ (w,l)).1.length=w.length:=by rw[wF (YF h)];exact sf l w
def Small(x:Int):Prop:=-1000000<=x/\x<=1000000
def Word(x:Int):Prop:=-2147483648<=x/\x<=2147483647
def aaM(o:D aA):Prop:=o.2.2.2.1.length<=10/\(∀i,i<o.2.2.1.length->Small (nth aP o.2.2.1 i).2.1)/\
 ∀i,i<o.2.2.2.1.length->Small (nth aQ o.2.2.2.1 i).1/\Word (nth aQ o.2.2.2.1 i).2.2.1
def jw(l:List (D aA)):Prop:=l.length<=8/\∀i,i<l.length->aaM (nth aA l i)
def lq(b:List Int):Prop:=∀i,i<b.length->0<=(nth (.int .i64) b i:Int)/\(nth (.int .i64) b i:Int)<=256
def pX(b:List Int)(i:Nat):Int:=nth (.int .i64) b i
def gU(l:List (D aA))(b:List Int)(t:D aQ):Int×aS:=
 if 0<=(dR (l,t.2.2.2.1)).1 then(pX b (dR (l,t.2.2.2.1)).1.toNat+(nth aP (nth aA l (dR (l,t.2.2.2.1)).1.toNat).2.2.1 (dR (l,t.2.2.2.1)).2.toNat).2.1,.nil)
 else if t.2.2.2.2.1=true then(0,.nil)else(0,.no 6)
def l8(b:List Int)(i:Int)(t:D aQ)(n:Int):Int×aS:=
 if t.2.1=(3:Int)then
  if n-(pX b i.toNat+t.1)< -500\/500<n-(pX b i.toNat+t.1)then(0,.no 7)
  else(n-(pX b i.toNat+t.1),.nil)
 else if n< -2147483648\/2147483647<n then(0,.no 7)else(n,.nil)
def fP(l:List (D aA))(b:List Int)(i:Int)(t:D aQ):Int×aS:=
 if t.2.1=(1:Int)then l8 b i t (pX b i.toNat+t.2.2.1)
 else if(gU l b t).2.isNil=true then l8 b i t ((gU l b t).1+t.2.2.1)else(0,(gU l b t).2)
def mc(l:List (D aA))(b:List Int)(i:Nat):List (D aQ)->List Pt->List Pt×aS
 |[],out=>(out,.nil)
 |t :: r,out=>if(fP l b i t).2.isNil=true then mc l b i r (out++[((i:Int),t.1,(fP l b i t).1,())])else([],(fP l b i t).2)
def kK(f:List Pt->List Pt×aS)(x:List Pt×aS):List Pt×aS:=if x.2.isNil=true then f x.1 else([],x.2)
def lX(l:List (D aA))(b:List Int):List (D aA)->Nat->List Pt->List Pt×aS
 |[],_,out=>(out,.nil)
 |o :: r,i,out=>kK (lX l b r (i+1)) (mc l b i o.2.2.2.1 out)
open Classical in
def eM(x:List (D aA)×List Int):List Pt×aS:=
 if ¬x.2.length=x.1.length then([],.no 3)else if lq x.2 then lX x.1 x.2 x.1 0 []else([],.no 1)
def iY{t:Ty}{l:List (D t)}{i:Nat}(h:i<l.length):l.drop i=nth t l i :: l.drop (i+1):=by
 rw[fo h];congr 1;have:=oV h;rw[List.getElem?_eq_getElem h]at this;exact de this
def HO{l:List (D aA)}{b:List Int}{i:Nat}{out:List Pt}(h:i<l.length) :
  lX l b (l.drop i) i out=kK (lX l b (l.drop (i+1)) (i+1)) (mc l b i ((nth aA l i).2.2.2.1.drop 0) out):=by
 rw[iY (t:=aA) h];rfl
def P2{l:List (D aA)}{b:List Int}{i:Nat}{out:List Pt}(h:l.length<=i):lX l b (l.drop i) i out=(out,.nil):=by
 rw[bj h];rfl
def wG{l:List (D aA)}{b:List Int}{i k:Nat}{ts:List (D aQ)}{out:List Pt}(h:k<ts.length)(hn:(fP l b i (nth aQ ts k)).2.isNil=true) :
  mc l b i (ts.drop k) out=mc l b i (ts.drop (k+1)) (out++[((i:Int),(nth aQ ts k).1,(fP l b i (nth aQ ts k)).1,())]):=by
 rw[iY (t:=aQ) h,mc,if_pos hn]
def rN{l:List (D aA)}{b:List Int}{i k:Nat}{ts:List (D aQ)}{out:List Pt}{f:List Pt->List Pt×aS}(h:k<ts.length)(hn:(fP l b i (nth aQ ts k)).2.isNil=false) :
  kK f (mc l b i (ts.drop k) out)=([],(fP l b i (nth aQ ts k)).2):=by
 rw[iY (t:=aQ) h,mc,if_neg (by simp[hn])];unfold kK;rw[if_neg (by simp[hn])]
def P3{l:List (D aA)}{b:List Int}{i k:Nat}{ts:List (D aQ)}{out:List Pt}{f:List Pt->List Pt×aS}(h:ts.length<=k):kK f (mc l b i (ts.drop k) out)=f out:=by
 rw[bj h];rfl
def oh{l:List (D aA)}{b:List Int}(h:b.length=l.length)(hb:lq b):eM (l,b)=lX l b l 0 []:=by unfold eM;rw[if_neg (by simpa using h),if_pos hb]
def Lc{l:List (D aA)}{b:List Int}(h:¬b.length=l.length):eM (l,b)=([],.no 3):=by unfold eM;rw[if_pos h]
def HP{l:List (D aA)}{b:List Int}{i:Nat}(h:b.length=l.length)(hi:i<b.length)(hn:¬(0<=(nth (.int .i64) b i:Int)/\(nth (.int .i64) b i:Int)<=256)):eM (l,b)=([],.no 1):=by
 unfold eM;rw[if_neg (by simpa using h),if_neg (fun hh=>hn (hh i hi))]
def nc{b:List Int}{n:Nat}{i:Int}(hb:lq b)(hl:b.length=n)(h0:0<=i)(h1:i<n):0<=(nth (.int .i64) b i.toNat:Int)/\(nth (.int .i64) b i.toNat:Int)<=256:=hb _ (by omega)
def Fa{l:List (D aA)}{s:List UInt8}(hm:jw l)(h:0<=(dR (l,s)).1):Small (nth aP (nth aA l (dR (l,s)).1.toNat).2.2.1 (dR (l,s)).2.toNat).2.1:=by
 have hf:=tw h;exact(hm.2 _ (by omega)).2.1 _ (by omega)
def pz{l:List (D aA)}{b:List Int}{t:D aQ}(h:0<=(dR (l,t.2.2.2.1)).1) :
  gU l b t=(nth (.int .i64) b (dR (l,t.2.2.2.1)).1.toNat+(nth aP (nth aA l (dR (l,t.2.2.2.1)).1.toNat).2.2.1 (dR (l,t.2.2.2.1)).2.toNat).2.1,.nil):=by unfold gU pX;rw[if_pos h]
def om{l:List (D aA)}{b:List Int}{t:D aQ}(h:(dR (l,t.2.2.2.1)).1<0)(hw:t.2.2.2.2.1=true):gU l b t=(0,.nil):=by unfold gU;rw[if_neg (by omega),if_pos hw]
def ua{l:List (D aA)}{b:List Int}{t:D aQ}(h:(dR (l,t.2.2.2.1)).1<0)(hw:t.2.2.2.2.1=false):gU l b t=(0,.no 6):=by unfold gU;rw[if_neg (by omega),if_neg (by simp[hw])]
def Ap{l:List (D aA)}{b:List Int}(t:D aQ)(hm:jw l)(hl:b.length=l.length)(hb:lq b) : -2000000<=(gU l b t).1/\(gU l b t).1<=2000000:=by
 by_cases h:0<=(dR (l,t.2.2.2.1)).1
 ·have h1:=nc hb hl h (tw h).1
  have h2:=Fa hm h;rw[pz h];unfold Small at h2;dsimp only[D]at*;omega
 ·cases hw:t.2.2.2.2.1 with
  |true=>rw[om (by omega) hw];simp
  |false=>rw[ua (by omega) hw];simp
def ub{l:List (D aA)}{b:List Int}{i:Int}{t:D aQ}(h:t.2.1=(1:Int)):fP l b i t=l8 b i t (nth (.int .i64) b i.toNat+t.2.2.1):=by unfold fP;rw[if_pos h];rfl
def mi{l:List (D aA)}{b:List Int}{i:Int}{t:D aQ}(h:¬t.2.1=(1:Int))(hn:(gU l b t).2.isNil=true):fP l b i t=l8 b i t ((gU l b t).1+t.2.2.1):=by unfold fP;rw[if_neg h,if_pos hn]
def P4{l:List (D aA)}{b:List Int}{i:Int}{t:D aQ}(h:¬t.2.1=(1:Int))(hn:(gU l b t).2.isNil=false):fP l b i t=(0,(gU l b t).2):=by unfold fP;rw[if_neg h,if_neg (by simp[hn])]
def DI{b:List Int}{i n:Int}{t:D aQ}(h:t.2.1=(3:Int))(hr:n-(nth (.int .i64) b i.toNat+t.1)< -500\/500<n-(nth (.int .i64) b i.toNat+t.1)):l8 b i t n=(0,.no 7):=by
 unfold l8 pX;rw[if_pos h,if_pos hr]
def GK{b:List Int}{i n m:Int}{t:D aQ}(h:t.2.1=(3:Int))(e:m=n-(nth (.int .i64) b i.toNat+t.1))(hr : -500<=m/\m<=500):l8 b i t n=(m,.nil):=by
 unfold l8 pX;rw[if_pos h,if_neg (by omega),e]
def uc{b:List Int}{i n:Int}{t:D aQ}(h:¬t.2.1=(3:Int))(hr:n< -2147483648\/2147483647<n):l8 b i t n=(0,.no 7):=by
 unfold l8;rw[if_neg h,if_pos hr]
def tx{b:List Int}{i n m:Int}{t:D aQ}(h:¬t.2.1=(3:Int))(e:m=n)(hr : -2147483648<=n/\n<=2147483647):l8 b i t n=(m,.nil):=by
 unfold l8;rw[if_neg h,if_neg (by omega),e]
def oq{out:List Pt}{i a m m':Int}(h:m=m'):out++[(i,a,m,())]=out++[(i,a,m',())]:=by rw[h]
def km(l:List (D aA))(s:List UInt8)(pass i k:Nat):Prop:=
 (pass=0->wE (mZ s) l i k)/\(pass=1->(∀i k,¬iG (mZ s) l i k)/\wE (yQ s) l i k)/\(2<=pass->∀i k,¬iG (yQ s) l i k)
def km.start(l:List (D aA))(s:List UInt8):km l s 0 0 0:=
 ⟨fun _ i' k' h=>by unfold ahead at h;omega,fun h=>by omega,fun h=>by omega⟩
def km.row{l:List (D aA)}{s:List UInt8}{pass i k:Nat}(h:km l s pass i k)(hk:(nth aA l i).2.2.1.length<=k):km l s pass (i+1) 0:=
 ⟨fun e=>(h.1 e).row hk,fun e=>⟨(h.2.1 e).1,(h.2.1 e).2.row hk⟩,h.2.2⟩
def km.pass{l:List (D aA)}{s:List UInt8}{pass i k:Nat}(h:km l s pass i k)(hi:l.length<=i):km l s (pass+1) 0 0:=by
 refine⟨fun e=>by omega,fun e =>?_,fun e =>?_⟩
 ·obtain rfl:pass=0:=by omega
  exact⟨(h.1 rfl).all hi,fun i' k' h=>by unfold ahead at h;omega⟩
 ·by_cases c:pass=1
  ·exact(h.2.1 c).2.all hi
  ·exact h.2.2 (by omega)
def km.next{l:List (D aA)}{s:List UInt8}{pass i k:Nat}(h:km l s pass i k)(hn:¬((nth aP (nth aA l i).2.2.1 k).1=s/\((nth aP (nth aA l i).2.2.1 k).2.2.1=true↔(pass:Int)=1))):km l s pass i (k+1):=by
 refine⟨fun e=>(h.1 e).next fun hp=>hn ⟨hp.2.2.1,?_⟩,fun e=>⟨(h.2.1 e).1,(h.2.1 e).2.next fun hp=>hn ⟨hp.2.2,?_⟩⟩,h.2.2⟩
 ·rw[hp.2.2.2];simp;omega
 ·subst e
  have:=(h.2.1 rfl).1 i k;cases c:(nth aP (nth aA l i).2.2.1 k).2.2.1 with
  |true=>simp
  |false=>exact absurd ⟨hp.1,hp.2.1,hp.2.2,c⟩ this
def km.found{l:List (D aA)}{s:List UInt8}{pass i k:Nat}(h:km l s pass i k)(hp:pass<2)(hi:i<l.length)(hk:k<(nth aA l i).2.2.1.length)(hs:(nth aP (nth aA l i).2.2.1 k).1=s)
  (hw:(nth aP (nth aA l i).2.2.1 k).2.2.1=true↔(pass:Int)=1):dR (l,s)=((i:Int),(k:Int)):=by
 by_cases c:pass=0
 ·subst c
  refine tW ⟨⟨hi,hk,hs,?_⟩,h.1 rfl⟩;cases c:(nth aP (nth aA l i).2.2.1 k).2.2.1 with
  |true=>have:=hw.1 c;simp at this
  |false=>rfl
 ·have h1:=h.2.1 (by omega)
  exact xG h1.1 ⟨⟨hi,hk,hs⟩,h1.2⟩
def km.done{l:List (D aA)}{s:List UInt8}{pass i k:Nat}(h:km l s pass i k)(hp:¬pass<2):dR (l,s)=(-1,-1):=xH (h.2.2 (by omega))
def Told(e:aS):Prop:=fJ e (jj e)=true
def HQ(b:List Int)(i n:Int)(t:D aQ):Told (l8 b i t n).2:=by
 unfold l8;split <;> split <;> rfl
def N8(l:List (D aA))(b:List Int)(t:D aQ):Told (gU l b t).2:=by
 unfold gU;split
 ·rfl
 ·split <;> rfl
def YH(l:List (D aA))(b:List Int)(i:Int)(t:D aQ):Told (fP l b i t).2:=by
 unfold fP;split
 ·exact HQ _ _ _ _
 ·split
  ·exact HQ _ _ _ _
  ·exact N8 _ _ _
def Ld(l:List (D aA))(b:List Int)(i:Nat):∀(ts:List (D aQ)) (out:List Pt),Told (mc l b i ts out).2
 |[],_=>rfl
 |t :: r,out=>by
  rw[mc];split
  ·exact Ld l b i r _
  ·exact YH _ _ _ _
def Le(l:List (D aA))(b:List Int):∀(os:List (D aA)) (i:Nat) (out:List Pt),Told (lX l b os i out).2
 |[],_,_=>rfl
 |o :: r,i,out=>by
  rw[lX];unfold kK;split
  ·exact Le l b r _ _
  ·exact Ld _ _ _ _ _
def DJ(x:List (D aA)×List Int):fJ (eM x).2 (jj (eM x).2)=true:=by
 unfold eM;split
 ·rfl
 ·split
  ·exact Le _ _ _ _ _
  ·rfl
def eB(n:Int):Bool:=decide (-2147483648<=n)&&decide (n<=2147483647)
def jR:List (List UInt8)->List (List UInt8)->Int
 |_,[]=>0
 |p,s :: r=>if aJ s > 0 then aJ s else if p.any (· == s)=true then 3 else jR (p++[s]) r
def lr:List Int->Int
 |[]=>0
 |n :: r=>if eB n=true then lr r else 1
def jn(n:Nat):List (D aP)->List (D aP)->Int
 |_,[]=>0
 |p,s :: r=>if aJ s.1 > 0 then aJ s.1 else if s.2.1<0\/s.2.1>=(n:Int)then 1 else if p.any (fun x=>x.1 == s.1)=true then 3 else jn n (p++[s]) r
def jx(a:Int):Option Int->Bool
 |some b=>decide (a<=b)
 |none=>false
def jS(n:Nat)(prev:Option Int)(t:D aQ):Int:=
 if t.1<0\/t.1>=(n:Int)\/eB t.2.2.1=false then 1
 else if t.2.1<1\/t.2.1 > 3\/jx t.1 prev=true then 3
 else if t.2.1=1 then(if t.2.2.2.1≠[]\/t.2.2.2.2.1=true then 3 else 0)
 else aJ t.2.2.2.1
def lF(n:Nat):Option Int->List (D aQ)->Int
 |_,[]=>0
 |prev,t :: r=>if jS n prev t≠0 then jS n prev t else lF n (some t.1) r
def gY(o:D aA):Prop:=o.1.length > 4\/o.2.1.length<1\/o.2.1.length > 40\/o.2.2.1.length > 8\/o.2.2.2.1.length > 6
instance(o:D aA):Decidable (gY o):=by unfold gY;infer_instance
def cK(o:D aA):Int:=
 if gY o then 2 else if jR [] o.1≠0 then jR [] o.1 else if lr o.2.1≠0 then lr o.2.1
 else if jn o.2.1.length [] o.2.2.1≠0 then jn o.2.1.length [] o.2.2.1 else lF o.2.1.length none o.2.2.2.1
def gI{t:Ty}{l:List (D t)}{i:Nat}(h:i<l.length):l.take (i+1)=l.take i++[nth t l i]:=by
 rw[cp];congr 1;unfold nth;simp[h]
def yR:∀(l p:List (List UInt8)),0<=jR p l
 |[],_=>av _
 |s :: r,p=>by
  unfold jR;split
  ·omega
  ·split
   ·decide
   ·exact yR r _
def yS:∀l:List Int,0<=lr l
 |[]=>av _
 |n :: r=>by
  unfold lr;split
  ·exact yS r
  ·decide
def ud(n:Nat):∀(l p:List (D aP)),0<=jn n p l
 |[],_=>av _
 |s :: r,p=>by
  unfold jn;split
  ·omega
  ·split
   ·decide
   ·split
    ·decide
    ·exact ud n r _
def N9(n:Nat)(p:Option Int)(t:D aQ):0<=jS n p t:=by
 unfold jS;split
 ·decide
 ·split
  ·decide
  ·split
   ·split <;> decide
   ·exact cQ _
def Aq(n:Nat):∀(l:List (D aQ)) (p:Option Int),0<=lF n p l
 |[],_=>av _
 |t :: r,p=>by
  unfold lF;split
  ·exact N9 n p t
  ·exact Aq n r _
def yT(o:D aA):0<=cK o:=by
 unfold cK;split
 ·decide
 ·split
  ·exact yR _ _
  ·split
   ·exact yS _
   ·split
    ·exact ud _ _ _
    ·exact Aq _ _ _
structure jU (l:List (List UInt8)) (i:Nat):Prop where
 le:i<=l.length
 eq:jR (l.take i) (l.drop i)=jR [] l
def jU.zero(l:List (List UInt8)):jU l 0:=⟨ao _,rfl⟩
def jU.fault{l:List (List UInt8)}{i:Nat}(h:jU l i)(hi:i<l.length)(hf:aJ (nth .str l i) > 0):jR [] l=aJ (nth .str l i):=by
 rw[<-h.eq,iY (t:=.str) hi];unfold jR;rw[if_pos hf]
def jU.dup{l:List (List UInt8)}{i:Nat}(h:jU l i)(hi:i<l.length)(hf:aJ (nth .str l i)<=0)(ha:(l.take i).any (· == nth .str l i)=true):jR [] l=3:=by
 rw[<-h.eq,iY (t:=.str) hi];unfold jR;rw[if_neg (by omega),if_pos ha]
def jU.next{l:List (List UInt8)}{i:Nat}(h:jU l i)(hi:i<l.length)(hf:aJ (nth .str l i)<=0)(ha:(l.take i).any (· == nth .str l i)=false):jU l (i+1):=by
 refine⟨hi,?_⟩;rw[<-h.eq,iY (t:=.str) hi,gI (t:=.str) hi]
 conv=>rhs;unfold jR
 rw[if_neg (by omega),if_neg (by rw[ha];decide)]
def jU.done{l:List (List UInt8)}{i:Nat}(h:jU l i)(hi:¬i<l.length):jR [] l=0:=by
 rw[<-h.eq,bj (by omega)];rfl
structure kU (l:List Int) (i:Nat):Prop where
 le:i<=l.length
 eq:lr (l.drop i)=lr l
def kU.zero(l:List Int):kU l 0:=⟨ao _,rfl⟩
def kU.fault{l:List Int}{i:Nat}(h:kU l i)(hi:i<l.length)(hf:eB (nth (.int .i64) l i)=false):lr l=1:=by
 rw[<-h.eq,iY (t:=.int .i64) hi];unfold lr;rw[if_neg (by rw[hf];decide)]
def kU.next{l:List Int}{i:Nat}(h:kU l i)(hi:i<l.length)(hf:eB (nth (.int .i64) l i)=true):kU l (i+1):=by
 refine⟨hi,?_⟩;rw[<-h.eq,iY (t:=.int .i64) hi]
 conv=>rhs;unfold lr
 rw[if_pos hf]
def kU.done{l:List Int}{i:Nat}(h:kU l i)(hi:¬i<l.length):lr l=0:=by
 rw[<-h.eq,bj (by omega)];rfl
structure kL (n:Nat) (l:List (D aP)) (i:Nat):Prop where
 le:i<=l.length
 eq:jn n (l.take i) (l.drop i)=jn n [] l
def kL.zero(n:Nat)(l:List (D aP)):kL n l 0:=⟨ao _,rfl⟩
def kL.fault{n:Nat}{l:List (D aP)}{i:Nat}(h:kL n l i)(hi:i<l.length)(hf:aJ (nth aP l i).1 > 0):jn n [] l=aJ (nth aP l i).1:=by
 rw[<-h.eq,iY (t:=aP) hi];unfold jn;rw[if_pos hf]
def kL.out{n:Nat}{l:List (D aP)}{i:Nat}(h:kL n l i)(hi:i<l.length)(hf:aJ (nth aP l i).1<=0)(ho:(nth aP l i).2.1<0\/(nth aP l i).2.1>=(n:Int)):jn n [] l=1:=by
 rw[<-h.eq,iY (t:=aP) hi];unfold jn;rw[if_neg (by omega),if_pos ho]
def kL.dup{n:Nat}{l:List (D aP)}{i:Nat}(h:kL n l i)(hi:i<l.length)(hf:aJ (nth aP l i).1<=0)(ho:¬((nth aP l i).2.1<0\/(nth aP l i).2.1>=(n:Int)))
  (ha:(l.take i).any (fun x=>x.1 == (nth aP l i).1)=true):jn n [] l=3:=by
 rw[<-h.eq,iY (t:=aP) hi];unfold jn;rw[if_neg (by omega),if_neg ho,if_pos ha]
def kL.next{n:Nat}{l:List (D aP)}{i:Nat}(h:kL n l i)(hi:i<l.length)(hf:aJ (nth aP l i).1<=0)(ho:¬((nth aP l i).2.1<0\/(nth aP l i).2.1>=(n:Int)))
  (ha:(l.take i).any (fun x=>x.1 == (nth aP l i).1)=false):kL n l (i+1):=by
 refine⟨hi,?_⟩;rw[<-h.eq,iY (t:=aP) hi,gI (t:=aP) hi]
 conv=>rhs;unfold jn
 rw[if_neg (by omega),if_neg ho,if_neg (by rw[ha];decide)]
def kL.done{n:Nat}{l:List (D aP)}{i:Nat}(h:kL n l i)(hi:¬i<l.length):jn n [] l=0:=by
 rw[<-h.eq,bj (by omega)];rfl
def kr(l:List (D aQ))(i:Nat):Option Int:=if i=0 then none else some (nth aQ l (i-1)).1
structure mz (n:Nat) (l:List (D aQ)) (i:Nat):Prop where
 le:i<=l.length
 eq:lF n (kr l i) (l.drop i)=lF n none l
def mz.zero(n:Nat)(l:List (D aQ)):mz n l 0:=⟨ao _,rfl⟩
def mz.fault{n:Nat}{l:List (D aQ)}{i:Nat}(h:mz n l i)(hi:i<l.length){f:Int}(hf:jS n (kr l i) (nth aQ l i)=f)(h0:f≠0):lF n none l=f:=by
 rw[<-h.eq,iY (t:=aQ) hi];unfold lF;rw[if_pos (by rw[hf];exact h0),hf]
def mz.next{n:Nat}{l:List (D aQ)}{i:Nat}(h:mz n l i)(hi:i<l.length)(hf:jS n (kr l i) (nth aQ l i)=0):mz n l (i+1):=by
 refine⟨hi,?_⟩;rw[<-h.eq,iY (t:=aQ) hi]
 conv=>rhs;unfold lF
 rw[if_neg (by rw[hf];decide)];rfl
def mz.done{n:Nat}{l:List (D aQ)}{i:Nat}(h:mz n l i)(hi:¬i<l.length):lF n none l=0:=by
 rw[<-h.eq,bj (by omega)];rfl
def xK{t:Ty}{l:List (D t)}{i j:Nat}{f:D t->Bool}(hj:j<i)(hi:i<=l.length)(h:f (nth t l j)=true):(l.take i).any f=true:=by
 rw[cf];refine⟨nth t l j,?_,h⟩;have:(l.take i)[j]?=some (nth t l j):=by
  rw[List.getElem?_take,if_pos hj];unfold nth;rw[List.getD_eq_getElem?_getD,List.getElem?_eq_getElem (by omega)];rfl
 exact cd this
def uQ{t:Ty}{l:List (D t)}{i:Nat}{f:D t->Bool}(h:∀j,j<i->f (nth t l j)=false):(l.take i).any f=false:=by
 rw[db];intro x hx;obtain⟨j,hj,rfl⟩:=ct hx;rw[bc]at hj;have:=h j (by omega);rw[ej];have e:nth t l j=l[j]'(by omega):=by unfold nth;simp[show j<l.length by omega]
 rw[e]at this;rw[this];decide
def contains_of{l:List (List UInt8)}{s:List UInt8}{y:Int}(h:(y= -1/\∀j,j<l.length->nth .str l j≠s)\/(0<=y/\y.toNat<l.length/\nth .str l y.toNat=s)):decide (y>=0)=l.any (· == s):=by
 rcases h with⟨rfl,h⟩|⟨h1,h2,h3⟩
 ·have:=uQ (t:=.str) (l:=l) (i:=l.length) (f:=(· == s)) fun j hj=>by simpa using h j hj
  rw[cj]at this;rw[this];rfl
 ·have:=xK (t:=.str) (l:=l) (i:=l.length) (f:=(· == s)) h2 (ar _) (by simpa using h3)
  rw[cj]at this;rw[this];simpa using h1
def CF{o:D aA}(h:gY o):cK o=2:=by unfold cK;rw[if_pos h]
def rb{o:D aA}(h:¬gY o){f:Int}(hf:jR [] o.1=f)(h0:f≠0):cK o=f:=by unfold cK;rw[if_neg h,if_pos (by rw[hf];exact h0),hf]
def Ar{o:D aA}(h:¬gY o)(h1:jR [] o.1=0){f:Int}(hf:lr o.2.1=f)(h0:f≠0):cK o=f:=by
 unfold cK;rw[if_neg h,if_neg (by rw[h1];decide),if_pos (by rw[hf];exact h0),hf]
def pY{o:D aA}(h:¬gY o)(h1:jR [] o.1=0)(h2:lr o.2.1=0){f:Int}(hf:jn o.2.1.length [] o.2.2.1=f)(h0:f≠0):cK o=f:=by
 unfold cK;rw[if_neg h,if_neg (by rw[h1];decide),if_neg (by rw[h2];decide),if_pos (by rw[hf];exact h0),hf]
def kM{o:D aA}(h:¬gY o)(h1:jR [] o.1=0)(h2:lr o.2.1=0)(h3:jn o.2.1.length [] o.2.2.1=0){f:Int}(hf:lF o.2.1.length none o.2.2.2.1=f):cK o=f:=by
 unfold cK;rw[if_neg h,if_neg (by rw[h1];decide),if_neg (by rw[h2];decide),if_neg (by rw[h3];decide),hf]
abbrev aD:=List UInt8
def pJ(a b:aD):Prop:=bd a b=true
def Lf(a:UInt8):¬a<a:=fun h=>by have:=ek.1 h;omega
def re:∀a:aD,¬pJ a a
 |[]=>fun h=>by cases h
 |a :: x=>fun h=>by
  unfold pJ at h;simp only[bd,cc,decide_eq_true_eq,ba]at h;rcases h with h|⟨_,h⟩
  ·exact Lf a h
  ·exact re x h
def As:∀{a b c:aD},pJ a b->pJ b c->pJ a c
 |a,[],_,h,_=>by unfold pJ at h;cases a <;> simp[bd]at h
 |_,_ :: _,[],_,h=>by unfold pJ at h;simp[bd]at h
 |[],_ :: _,_ :: _,_,_=>rfl
 |a :: x,b :: y,c :: z,h1,h2=>by
  unfold pJ at h1 h2 ⊢;simp only[bd,cc,decide_eq_true_eq,ba,beq_iff_eq]at h1 h2 ⊢;rcases h1 with h1|⟨rfl,h1⟩
  ·rcases h2 with h2|⟨rfl,h2⟩
   ·left;rw[ek]at*;omega
   ·exact .inl h1
  ·rcases h2 with h2|⟨rfl,h2⟩
   ·exact .inl h2
   ·exact .inr ⟨rfl,As h1 h2⟩
def uR:∀{a b:aD},¬pJ a b->¬pJ b a->a=b
 |[],[],_,_=>rfl
 |[],_ :: _,h,_=>(h rfl).elim
 |_ :: _,[],_,h=>(h rfl).elim
 |a :: x,b :: y,h1,h2=>by
  unfold pJ at h1 h2;simp only[bd,cc,decide_eq_true_eq,ba,beq_iff_eq,not_or,not_and]at h1 h2;have hab:a=b:=by
   apply dv.1;have h3:=h1.1;have h4:=h2.1;rw[ek]at h3 h4;omega
  subst hab;rw[uR (h1.2 rfl) (h2.2 rfl)]
def pZ(a b:aD):Prop:=¬pJ b a
def Lg(a:aD):pZ a a:=re a
def uS{a b:aD}(h:pJ a b):pZ a b:=fun h'=>re a (As h h')
def At{a b c:aD}(h1:pZ a b)(h2:pZ b c):pZ a c:=by
 intro h;by_cases hab:pJ a b
 ·exact h2 (As h hab)
 ·have:=uR hab h1;subst this;exact h2 h
def Lh{a b:aD}(h1:pZ a b)(h2:pZ b a):a=b:=uR h2 h1
def Au{a b:aD}(h1:pZ a b)(h2:a≠b):pJ a b:=au fun h=>h2 (uR h h1)
def yU:∀{a b:List aD},a.Perm b->a.Pairwise pZ->b.Pairwise pZ->a=b
 |[],b,hp,_,_=>hp.nil_eq
 |x :: a,[],hp,_,_=>by have:=hp.length_eq;simp at this
 |x :: a,y :: b,hp,ha,hb=>by
  have ha':=bu.1 ha;have hb':=bu.1 hb;have hxy:x=y:=by
   have h1:x∈y :: b:=hp.mem_iff.1 (by simp);have h2:y∈x :: a:=hp.mem_iff.2 (by simp);rcases ah.1 h1 with h1|h1
   ·exact h1
   ·rcases ah.1 h2 with h2|h2
    ·exact h2.symm
    ·exact Lh (ha'.1 y h2) (hb'.1 x h1)
  subst hxy;rw[yU (List.perm_cons x |>.1 hp) ha'.2 hb'.2]
def DK(x:aD):List aD->List aD
 |[]=>[x]
 |y :: r=>if bd y x=true then y :: DK x r else x :: y :: r
def sg(l:List aD):List aD:=l.foldr DK []
def Av(x:aD):∀l:List aD,(DK x l).Perm (x :: l)
 |[] =>.refl _
 |y :: r=>by
  unfold DK;split
  ·exact((Av x r).cons y).trans (en x y r)
  ·exact .refl _
def CG(x:aD):∀{l:List aD},l.Pairwise pZ->(DK x l).Pairwise pZ
 |[],_=>by simp[DK]
 |y :: r,h=>by
  have h':=bu.1 h;unfold DK;split
  ·rename_i c
   refine bu.2 ⟨fun z hz =>?_,CG x h'.2⟩;rcases ah.1 ((Av x r).mem_iff.1 hz)with rfl|hz
   ·exact uS c
   ·exact h'.1 z hz
  ·rename_i c
   have hxy:pZ x y:=c;refine bu.2 ⟨fun z hz =>?_,h⟩;rcases ah.1 hz with rfl|hz
   ·exact hxy
   ·exact At hxy (h'.1 z hz)
def Fb:∀l:List aD,(sg l).Perm l
 |[] =>.refl _
 |x :: l=>(Av x _).trans ((Fb l).cons x)
def Aw:∀l:List aD,(sg l).Pairwise pZ
 |[] =>.nil
 |x :: l=>CG x (Aw l)
def YI{a b:List aD}(hp:a.Perm b)(hs:a.Pairwise pZ):sg b=a:=yU ((Fb b).trans hp.symm) (Aw b) hs
def uT(l:List aD)(j:Nat):List aD:=(l.set j (nth .str l (j-1))).set (j-1) (nth .str l j)
def Li(l:List aD)(j:Nat):(uT l j).length=l.length:=by simp[uT]
def RP{l:List aD}{j:Nat}(h0:0<j)(h:j<l.length):(uT l j).Perm l:=by
 have e1:nth .str l (j-1)=l[j-1]:=gD (t:=.str) (List.getElem?_eq_getElem (by omega));have e2:nth .str l j=l[j]:=gD (t:=.str) (List.getElem?_eq_getElem h);unfold uT;rw[e1,e2];exact List.set_set_perm h (by omega)
def HR{l:List aD}{j k:Nat}(h0:0<j)(h:j<l.length):nth .str (uT l j) k=if k=j then nth .str l (j-1)else if k=j-1 then nth .str l j else nth .str l k:=by
 unfold uT;by_cases c:k=j-1
 ·subst c
  rw[lE (t:=.str) (by simp;omega),if_neg (by omega),if_pos rfl]
 ·rw[lD (t:=.str) (fun e=>c e.symm)]
  by_cases c2:k=j
  ·subst c2;rw[lE (t:=.str) h,if_pos rfl]
  ·rw[lD (t:=.str) (fun e=>c2 e.symm),if_neg c2,if_neg c]
def Ax(l:List aD)(i:Nat):Prop:=∀a b,a<b->b<i->pZ (nth .str l a) (nth .str l b)
def yV(l:List aD)(i j:Nat):Prop:=∀a b,a<b->b<=i->b≠j->pZ (nth .str l a) (nth .str l b)
def yV.start{l:List aD}{i:Nat}(h:Ax l i):yV l i i:=fun a b h1 h2 h3=>h a b h1 (by omega)
def yV.swap{l:List aD}{i j:Nat}(h:yV l i j)(h0:0<j)(hj:j<l.length)(hi:j<=i)(hlt:pJ (nth .str l j) (nth .str l (j-1))):yV (uT l j) i (j-1):=by
 intro a b h1 h2 h3;rw[HR h0 hj,HR h0 hj];by_cases cb:b=j
 ·subst cb
  rw[if_pos rfl,if_neg (by omega)];by_cases ca:a=b-1
  ·rw[if_pos ca];exact uS hlt
  ·rw[if_neg ca];exact h a (b-1) (by omega) (by omega) (by omega)
 ·rw[if_neg cb,if_neg h3]
  by_cases ca:a=j
  ·subst ca;rw[if_pos rfl];exact h (a-1) b (by omega) h2 cb
  ·rw[if_neg ca]
   by_cases ca2:a=j-1
   ·rw[if_pos ca2];exact h j b (by omega) h2 cb
   ·rw[if_neg ca2];exact h a b h1 h2 cb
def yV.done{l:List aD}{i j:Nat}(h:yV l i j)(hj:j=0\/¬pJ (nth .str l j) (nth .str l (j-1)))(hi:j<=i):Ax l (i+1):=by
 intro a b h1 h2;by_cases c:b=j
 ·subst c
  rcases hj with hj|hj
  ·omega
  ·by_cases ca:a=b-1
   ·rw[ca];exact hj
   ·exact At (h a (b-1) (by omega) (by omega) (by omega)) hj
 ·exact h a b h1 (by omega) c
def Oa{l:List aD}(h:Ax l l.length):l.Pairwise pZ:=by
 rw[List.pairwise_iff_getElem];intro i j hi hj hij;have:=h i j hij hj
 rwa [show nth .str l i=l[i]from gD (t:=.str) (List.getElem?_eq_getElem hi),show nth .str l j=l[j]from gD (t:=.str) (List.getElem?_eq_getElem hj)]at this
def UQ{l xs:List aD}(hp:l.Perm xs)(h:Ax l l.length):l=sg xs:=(YI hp (Oa h)).symm
abbrev Dk:=(Int×Bool×Unit)×(List (List UInt8)×(List (List UInt8)×(List (Int×List UInt8×Unit)×Unit)))
def Ay(x:Int×Int):Int×Int:=(0,x.1*x.2)
def fK(s:List UInt8):List UInt8:=s++bk (64-s.length) 0
def stepOf(d:Dk):Dk×Int:=
 if d.1.2.1=true then(d,9)else if d.1.1=0 then(((-1,true,()),d.2),9)else(((if 0<d.1.1 then d.1.1-1 else d.1.1,false,()),d.2),0)
def bZ(d:Dk)(at_:Int)(s:List UInt8):Dk×Int:=
 if at_<0\/(d.2.2.1.length:Int)<=at_\/64<s.length then(d,1)
 else if(stepOf d).2=0 then(((stepOf d).1.1,d.2.1,d.2.2.1.set at_.toNat (fK s),d.2.2.2.1++[(at_,fK s,())],()),0)else stepOf d
def sh(d:Dk)(at_:Int):List UInt8×Int:=
 if d.1.2.1=true then([],9)else if at_<0\/(d.2.2.1.length:Int)<=at_ then([],1)else(nth .str d.2.2.1 at_.toNat,0)
def cD(d:Dk):Dk×Int:=
 if(stepOf d).2=0 then(((stepOf d).1.1,d.2.2.1,d.2.2.1,[],()),0)else stepOf d
def acT(d:Dk)(n:Int):Dk:=((Rg n (-1),d.1.2.1,()),d.2)
def Kc(k:Int)(i:Nat):Prop:=(aw .u64 ((ak bf.bits (k.fdiv (2^(i % 64)))&&&ak bf.bits 1).toNat:Int))=1
open Classical in
def mA(k:Int)(wait:List (Int×List UInt8×Unit))(kept:List (List UInt8)):Nat->List (List UInt8)
 |0=>kept
 |n+1=>if Kc k n then(mA k wait kept n).set (nth kJ wait n).1.toNat (nth kJ wait n).2.1 else mA k wait kept n
def Lj(d:Dk)(k:Int):Dk:=
 ((-1,false,()),mA k d.2.2.2.1 d.2.1 d.2.2.2.1.length,mA k d.2.2.2.1 d.2.1 d.2.2.2.1.length,[],())
def DL(n:Int):Dk:=((-1,false,()),bk n.toNat (fK []),bk n.toNat (fK []),[],())
def Az(k:Int)(wait:List (Int×List UInt8×Unit))(kept:List (List UInt8)):∀n,(mA k wait kept n).length=kept.length
 |0=>rfl
 |n+1=>by unfold mA;split <;> simp[Az k wait kept n]
def fY(d:Dk):(stepOf d).1.2=d.2:=by
 unfold stepOf;split
 ·rfl
 ·split <;> rfl
def RQ(n:Nat):bytesOf (bk n 0)=bk n 0:=by
 unfold bytesOf;rw[List.map_replicate];rfl
def lQ{a:Int}(h0:0<=a)(h:a<18446744073709551616):bf.wrap a=a:=
 rC (by simp[c7,c8,bz,b5];omega)
def Lk{a:Int}(h0:0<=a)(h:a<18446744073709551616):(ak bf.bits a).toNat=a.toNat:=by
 rw[BitVec.toNat_ofInt];show(a % (2^64:Nat)).toNat=a.toNat;rw[Int.emod_eq_of_lt h0 (by simpa using h)]
def YJ{a x:Int}(hx:x=aw .u64 ((ak bf.bits a&&&ak bf.bits 4294967295).toNat:Int))(h0:0<=a)(h:a<4294967296):x=a:=by
 rw[fj,Lk h0 (by omega),Lk (by omega) (by omega)]at hx;rw[show(4294967295:Int).toNat=2^32-1 from rfl,Nat.and_two_pow_sub_one_eq_mod,cq (by omega),Int.toNat_of_nonneg h0,lQ h0 (by omega)]at hx;exact hx
def Ll{a x:Int}{n:Nat}(hx:x=a.fdiv (2^(min n bf.bits)))(hn:n=32)(h0:0<=a)(h:a<4294967296):x=0:=by
 subst hn;rw[show min 32 bf.bits=32 from rfl,fm _ (by decide),Int.ediv_eq_zero_of_lt h0 (by simpa using h)]at hx;exact hx
def nG(s:List UInt8)(n k:Nat):List (List UInt8):=bk k s++bk (n-k) []
def Lm{s:List UInt8}{n k:Nat}(h:k<=n):(nG s n k).length=n:=by simp[nG];omega
def RR{s:List UInt8}{n:Nat}(hn:0<n){k:Nat}(hk:k=1)(x:List (List UInt8))(hx:x=[s]):(bk n ([]:List UInt8)).take 0++x.take k++(bk n []).drop (0+k)=nG s n 1:=by
 subst hk;subst hx;simp[nG]
def UR{s:List UInt8}{n k m:Nat}(hk:k+m<=n)(hm:m<=k):(nG s n k).take k++((nG s n k).take k).take m++(nG s n k).drop (k+m)=nG s n (k+m):=by
 have h1:(nG s n k).take k=bk k s:=by
  unfold nG;rw[List.take_append_of_le_length (by simp),bm (by simp)]
 rw[h1,List.take_replicate,df hm];unfold nG;rw[List.drop_append,List.drop_of_length_le (by simp),fq,List.drop_replicate,List.length_replicate,<-List.replicate_append_replicate];rw[show n-k-(k+m-k)=n-(k+m) by omega]
def US{s:List UInt8}{n:Nat}:nG s n n=bk n s:=by simp[nG]
def aV{n:Int}:(aL n).isNil=true↔n=0:=by
 unfold aL;split
 ·rename_i h;simp[h,aS.isNil]
 ·rename_i h;simp[h,aS.isNil]
def RT{d:Dk}{at_:Int}{s:List UInt8}(h:at_<0\/(d.2.2.1.length:Int)<=at_\/64<s.length):bZ d at_ s=(d,1):=by unfold bZ;rw[if_pos h]
def Oc{d:Dk}{at_:Int}{s:List UInt8}(h:¬(at_<0\/(d.2.2.1.length:Int)<=at_\/64<s.length))(h2:¬(stepOf d).2=0):bZ d at_ s=stepOf d:=by unfold bZ;rw[if_neg h,if_neg h2]
def UT{d:Dk}{at_:Int}{s:List UInt8}(h:¬(at_<0\/(d.2.2.1.length:Int)<=at_\/64<s.length))(h2:(stepOf d).2=0) :
  bZ d at_ s=(((stepOf d).1.1,d.2.1,d.2.2.1.set at_.toNat (fK s),d.2.2.2.1++[(at_,fK s,())],()),0):=by unfold bZ;rw[if_neg h,if_pos h2]
def abn{t:Ty}{l:List (D t)}{i:Nat}{x:D t}(h:i<l.length):nth t (l.set i x) i=x:=by
 unfold nth;simp[List.getD_eq_getElem?_getD,h]
def Ln{a b:List (List UInt8)}(h:a.length=b.length):a.take 0++b.take (min b.length a.length)++a.drop (0+min b.length a.length)=b:=by
 rw[h,Nat.min_self];simp[h]
def YK{k:Int}{i n:Nat}{x y:Int}(hx:x=k.fdiv (2^(min n bf.bits)))(hn:n=i % 64)(hy:y=aw .u64 ((ak bf.bits x&&&ak bf.bits 1).toNat:Int)):y=1↔Kc k i:=by
 subst hn;have:min (i % 64) bf.bits=i % 64:=df (by show i % 64<=64;omega);rw[this]at hx;subst hx;subst hy;exact Iff.rfl
def YL{k:Int}{wait:List (Int×List UInt8×Unit)}{kept:List (List UInt8)}{n:Nat}(h:Kc k n):(mA k wait kept n).set (nth kJ wait n).1.toNat (nth kJ wait n).2.1=mA k wait kept (n+1):=by
 rw[mA,if_pos h]
def UU{k:Int}{wait:List (Int×List UInt8×Unit)}{kept:List (List UInt8)}{n:Nat}(h:¬Kc k n):mA k wait kept n=mA k wait kept (n+1):=by
 rw[mA,if_neg h]
def Od{d:Dk}(h:d.1.2.1=true):stepOf d=(d,9):=by unfold stepOf;rw[if_pos h]
def Oe{d:Dk}(h:d.1.2.1=false)(h0:d.1.1=0):stepOf d=(((-1,true,()),d.2),9):=by unfold stepOf;rw[if_neg (by rw[h];decide),if_pos h0]
def UW{d:Dk}(h:d.1.2.1=false)(h0:¬d.1.1=0)(hf : -1<=d.1.1):stepOf d=(((if(-1:Int) > d.1.1-1 then(-1:Int)else d.1.1-1,d.1.2.1,()),d.2),0):=by
 unfold stepOf;rw[if_neg (by rw[h];decide),if_neg h0,h];by_cases c:0<d.1.1
 ·rw[if_pos c,if_neg (by omega)]
 ·rw[if_neg c,if_pos (by omega),show d.1.1= -1 by omega]
def RU{d:Dk}{a:Int}(h:d.1.2.1=true):sh d a=([],9):=by unfold sh;rw[if_pos h]
def UX{d:Dk}{a:Int}(h:d.1.2.1=false)(h2:a<0\/(d.2.2.1.length:Int)<=a):sh d a=([],1):=by unfold sh;rw[if_neg (by rw[h];decide),if_pos h2]
def YM{d:Dk}{a:Int}(h:d.1.2.1=false)(h2:¬(a<0\/(d.2.2.1.length:Int)<=a)):sh d a=(nth .str d.2.2.1 a.toNat,0):=by unfold sh;rw[if_neg (by rw[h];decide),if_neg h2]
def UY{d:Dk}(h:(stepOf d).2=0):cD d=(((stepOf d).1.1,d.2.2.1,d.2.2.1,[],()),0):=by unfold cD;rw[if_pos h]
def Of{d:Dk}(h:¬(stepOf d).2=0):cD d=stepOf d:=by unfold cD;rw[if_neg h]
def aaN(i:Nat):ay ((i:Int).tmod 64)=i % 64:=by rw[ds (by omega)];omega
def nf{a:Int}(h0 : -9223372036854775808<=a)(h:a<9223372036854775808):ee.wrap a=a:=
 rC (by rw[tt];unfold aF;omega)
end Go.Mrl
namespace Go.Mrl
open Go.Vg
def ue(e:D aB):Prop:=e.1.length<=20/\e.2.1.length<=8/\e.2.2.1.length<=40/\∀i,i<e.2.1.length->(nth aG e.2.1 i).1.length<=20
def AA(a:D jI):Prop:=a.2.1.length<=100/\a.2.2.1.length<=1300/\ue a.2.2.2.2.2.1
def tz(l:List (D jI))(m:Int):Prop:=(l.length:Int)<=m/\∀i,i<l.length->AA (nth jI l i)
end Go.Mrl

namespace Go.Mrl
open Go.Vg
@[reducible] def dI:Ty:=.prod .str (.prod (.int .i64) .unit)
abbrev FE:=aD×(aD×Int×Unit)×Int×Unit
abbrev cY:=(Int×Unit)×(List FE×Int×Unit)×Unit
def si(y:FE):Int:=y.2.2.1
def rf(y:FE):aD:=y.1
def aO(x:cY)(s:aD):aD×Int×Int:=
 if dO dI x.2.1.1 s=true then((ki dI x.2.1.1 s).1,(ki dI x.2.1.1 s).2.1,0)else([],0,5)
def cW(x:cY)(s t:aD):cY×Int:=
 if ¬aJ s=0 then(x,aJ s)else if 1200<t.length then(x,2)
 else if(dO dI x.2.1.1 s=false/\x.2.1.1.length=6)\/x.1.1=1000000 then(x,8)
 else(((x.1.1+1,()),(gG dI x.2.1.1 s (t,x.1.1+1,()) x.2.1.2.1,pM dI x.2.1.1 s x.2.1.2.1,()),()),0)
def eP(x:cY)(s:aD):cY×Int:=
 if dO dI x.2.1.1 s=true then((x.1,(iF dI x.2.1.1 s,x.2.1.2.1,()),()),0)else(x,5)
def oE:cY:=((0,()),([],0,()),())
def nv{x:cY}{s:aD}(h:dO dI x.2.1.1 s=false):aO x s=([],0,5):=by unfold aO;rw[if_neg (by rw[h];simp)]
def rh{x:cY}{s:aD}(h:dO dI x.2.1.1 s=true):aO x s=((ki dI x.2.1.1 s).1,(ki dI x.2.1.1 s).2.1,0):=by unfold aO;rw[if_pos h]
def AB{x:cY}{s t:aD}(h:¬aJ s=0):cW x s t=(x,aJ s):=by unfold cW;rw[if_pos h]
def AD{x:cY}{s t:aD}(h:aJ s=0)(h1:1200<t.length):cW x s t=(x,2):=by unfold cW;rw[if_neg (by simp[h]),if_pos h1]
def AE{x:cY}{s t:aD}(h:aJ s=0)(h1:¬1200<t.length)(h2:(dO dI x.2.1.1 s=false/\x.2.1.1.length=6)\/x.1.1=1000000):cW x s t=(x,8):=by unfold cW;rw[if_neg (by simp[h]),if_neg h1,if_pos h2]
def Fc{x:cY}{s t:aD}(h:aJ s=0)(h1:¬1200<t.length)(h2:¬((dO dI x.2.1.1 s=false/\x.2.1.1.length=6)\/x.1.1=1000000)) :
  cW x s t=(((x.1.1+1,()),(gG dI x.2.1.1 s (t,x.1.1+1,()) x.2.1.2.1,pM dI x.2.1.1 s x.2.1.2.1,()),()),0):=by unfold cW;rw[if_neg (by simp[h]),if_neg h1,if_neg h2]
def ot{x:cY}{s:aD}(h:dO dI x.2.1.1 s=false):eP x s=(x,5):=by unfold eP;rw[if_neg (by rw[h];simp)]
def ng{x:cY}{s:aD}(h:dO dI x.2.1.1 s=true):eP x s=((x.1,(iF dI x.2.1.1 s,x.2.1.2.1,()),()),0):=by unfold eP;rw[if_pos h]
def HS{α:Type}[DecidableEq α]:∀{a b:List α},a.Nodup->(∀y∈a,y∈b)->a.length<=b.length
 |[],_,_,_=>by simp
 |x :: a,b,hn,hs=>by
  have hn':=dh.1 hn;have h1:(b.erase x).length=b.length-1:=List.length_erase_of_mem (hs x (by simp));have h2:0<b.length:=List.length_pos_of_mem (hs x (by simp));have:=HS (b:=b.erase x) hn'.2 fun y hy=>(List.mem_erase_of_ne (fun(e:y=x)=>hn'.1 (by rw[<-e];exact hy))).2 (hs y (by simp[hy]))
  simp only[cw];omega
abbrev RF:=aD×aD×Int×Unit
abbrev RS:=List RF×Int×Unit
def xL(y:RF):aD:=y.1
def ic(s:aD)(y:RF):Bool:=!(y.1 == s)
def bU:List RF->aD->aD×Int×Int
 |[],_=>([],0,5)
 |y :: r,s=>if y.1=s then(y.2.1,y.2.2.1,0)else bU r s
def nH(s:aD)(e:RF):List RF->List RF
 |[]=>[e]
 |y :: r=>if(bd s y.1 || s == y.1)=true then e :: (y :: r).filter (ic s)else y :: nH s e r
def jk(x:RS)(s t:aD):RS×Int:=
 if ¬aJ s=0 then(x,aJ s)else if 1200<t.length then(x,2)
 else if(0<(bU x.1 s).2.2/\x.1.length=6)\/x.2.1=1000000 then(x,8)
 else((nH s (s,t,x.2.1+1,()) x.1,x.2.1+1,()),0)
def jg(x:RS)(s:aD):RS×Int:=if(x.1.filter (ic s)).length=x.1.length then(x,5)else((x.1.filter (ic s),x.2),0)
def Fe(L:List RF)(s:aD):(bU L s).2.2=0\/(bU L s).2.2=5:=by
 induction L with
 |nil=>exact .inr rfl
 |cons y r ih=>unfold bU;split;exact .inl rfl;exact ih
def uU(y:FE):RF:=(y.1,y.2.1.1,y.2.1.2.1,())
def wH(L:List RF):Prop:=L.Pairwise fun a b=>pJ a.1 b.1
structure dU (x:cY) (r:RS):Prop where
 now:r.2.1=x.1.1
 lo:0<=x.1.1
 hi:x.1.1<=1000000
 len:x.2.1.1.length<=6
 born:(x.2.1.1.map si).Nodup
 old:∀y∈x.2.1.1,si y<x.2.1.2.1
 Lo:wH r.1
 perm:r.1.Perm (x.2.1.1.map uU)
def dU.new:dU oE ([],0,()):=⟨rfl,av _,by decide,by decide,by decide,fun y hy=>by simp[oE]at hy,.nil,.refl _⟩
def AF{L:List RF}(h:wH L):(L.map xL).Nodup:=by
 unfold List.Nodup;rw[List.pairwise_map];exact h.imp fun hlt e=>by unfold xL at e;rw[e]at hlt;exact re _ hlt
def dU.names{x:cY}{r:RS}(h:dU x r):(x.2.1.1.map rf).Nodup:=by
 have h1:=(h.perm.map xL).nodup_iff.1 (AF h.Lo);rw[ec]at h1;exact h1
def HT:∀{L:List RF} {s:aD},(L.map xL).Nodup->∀y∈L,y.1=s->bU L s=(y.2.1,y.2.2.1,0)
 |[],_,_,_,h,_=>by simp at h
 |z :: r,s,hn,y,hy,e=>by
  simp only[aq,dh]at hn;unfold bU;rcases ah.1 hy with rfl|hy
  ·rw[if_pos e]
  ·have:¬z.1=s:=fun e2=>hn.1 (by rw[show xL z=xL y from e2.trans e.symm];exact bw hy)
   rw[if_neg this];exact HT hn.2 y hy e
def xM:∀{L:List RF} {s:aD},(∀y∈L,¬y.1=s)->bU L s=([],0,5)
 |[],_,_=>rfl
 |z :: r,s,h=>by
  unfold bU;rw[if_neg (h z (by simp))];exact xM fun y hy=>h y (by simp[hy])
def nI:∀{es:List FE} {s:aD},dO dI es s=true↔∃y∈es,y.1=s
 |[],_=>by simp[dO]
 |z :: r,s=>by
  unfold dO;by_cases c:z.1=s
  ·simp[c]
  ·rw[if_neg c,nI];simp[c]
def xN:∀{es:List FE} {s:aD},(es.map rf).Nodup->∀y∈es,y.1=s->ki dI es s=y.2.1
 |[],_,_,_,h,_=>by simp at h
 |z :: r,s,hn,y,hy,e=>by
  simp only[aq,dh]at hn;unfold ki;rcases ah.1 hy with rfl|hy
  ·rw[if_pos e]
  ·have:¬z.1=s:=fun e2=>hn.1 (by rw[show rf z=rf y from e2.trans e.symm];exact bw hy)
   rw[if_neg this];exact xN hn.2 y hy e
def dU.read{x:cY}{r:RS}(h:dU x r)(s:aD):aO x s=bU r.1 s:=by
 by_cases c:dO dI x.2.1.1 s=true
 ·obtain⟨y,hy,e⟩:=nI.1 c
  rw[rh c,xN h.names y hy e];exact(HT (AF h.Lo) (uU y) (h.perm.mem_iff.2 (bw hy)) e).symm
 ·rw[nv (by simpa using c)]
  refine(xM fun y hy e=>c ?_).symm;obtain⟨z,hz,rfl⟩:=bp.1 (h.perm.mem_iff.1 hy);exact nI.2 ⟨z,hz,e⟩
def jd{s:aD}{y:RF}:ic s y=true↔¬y.1=s:=by simp[ic]
def Lp{s:aD}{e:RF}:∀{L:List RF} {y:RF},y∈nH s e L->y=e\/y∈L
 |[],y,h=>by simp[nH]at h;exact .inl h
 |z :: r,y,h=>by
  unfold nH at h;split at h
  ·rcases ah.1 h with h|h
   ·exact .inl h
   ·exact .inr (fr.1 h).1
  ·rcases ah.1 h with rfl|h
   ·exact .inr (by simp)
   ·rcases Lp h with h|h
    ·exact .inl h
    ·exact .inr (by simp[h])
def not_le{s a:aD}(h:¬(bd s a || s == a)=true):pJ a s:=by
 simp at h;exact Au (a:=a) (b:=s) (by unfold pZ pJ;rw[h.1];simp) (fun e=>h.2 e.symm)
def CH{s:aD}{e:RF}(he:e.1=s):∀{L:List RF},wH L->wH (nH s e L)
 |[],_=>by simp[nH,wH]
 |z :: r,h=>by
  have h':=bu.1 h;unfold nH;split
  ·rename_i c
   refine bu.2 ⟨fun y hy =>?_,h.filter _⟩;have hy':=fr.1 hy;have hn:=jd.1 hy'.2;have hz:pZ s z.1:=by
    simp at c;rcases c with c|rfl
    ·exact uS c
    ·exact Lg _
   have hzy:pZ z.1 y.1:=by
    rcases ah.1 hy'.1 with e2|hy2
    ·rw[e2];exact Lg _
    ·exact uS (h'.1 y hy2)
   rw[he];exact Au (At hz hzy) (fun e2=>hn e2.symm)
  ·rename_i c
   have hlt:=not_le c;refine bu.2 ⟨fun y hy =>?_,CH he h'.2⟩;rcases Lp hy with rfl|hy
   ·rw[he];exact hlt
   ·exact h'.1 y hy
def filter_all{s:aD}:∀{L:List RF},(∀y∈L,¬y.1=s)->L.filter (ic s)=L:=fun h=>List.filter_eq_self.2 fun y hy=>jd.2 (h y hy)
def HU{s:aD}{e:RF}:∀{L:List RF},wH L->(nH s e L).Perm (e :: L.filter (ic s))
 |[],_ =>.refl _
 |z :: r,h=>by
  have h':=bu.1 h;unfold nH;split
  ·exact .refl _
  ·rename_i c
   have hlt:=not_le c;have hz:ic s z=true:=jd.2 fun e=>by rw[e]at hlt;exact re _ hlt
   rw[bn,if_pos hz];exact((HU h'.2).cons z).trans (en e z _)
def AG{s:aD}{v:aD×Int×Unit}{c:Int}:∀{es:List FE},(es.map rf).Nodup->((gG dI es s v c).map uU).Perm ((s,v.1,v.2.1,()) :: (es.map uU).filter (ic s))
 |[],_ =>.refl _
 |z :: r,hn=>by
  simp only[aq,dh]at hn;unfold gG;by_cases e:z.1=s
  ·rw[if_pos e]
   have h1:ic s (uU z)=false:=by
    cases h:ic s (uU z)with
    |false=>rfl
    |true=>exact absurd e (jd.1 h)
   rw[aq,aq,bn,if_neg (by rw[h1];simp),filter_all]
   ·exact .refl _
   ·intro y hy e2
    obtain⟨z2,hz2,rfl⟩:=bp.1 hy;exact hn.1 (by rw[show rf z=rf z2 from e.trans (show s=z2.1 from e2.symm)];exact bw hz2)
  ·rw[if_neg e]
   have h1:ic s (uU z)=true:=jd.2 e;rw[aq,aq,bn,if_pos h1];exact((AG hn.2).cons (uU z)).trans (en _ _ _)
def uV{s:aD}{v:aD×Int×Unit}{c:Int}:∀{es:List FE},(gG dI es s v c).map si=if dO dI es s=true then es.map si else es.map si++[c]
 |[]=>rfl
 |z :: r=>by
  unfold gG dO;by_cases e:z.1=s
  ·rw[if_pos e,if_pos e];rfl
  ·rw[if_neg e,if_neg e,aq,uV]
   split <;> rfl
def Lq{s:aD}:∀{es:List FE},(es.map rf).Nodup->(iF dI es s).map uU=(es.map uU).filter (ic s)
 |[],_=>rfl
 |z :: r,hn=>by
  simp only[aq,dh]at hn;unfold iF;by_cases e:z.1=s
  ·have h1:¬ic s (uU z)=true:=fun h=>jd.1 h e
   rw[if_pos e,aq,bn,if_neg h1,filter_all];intro y hy e2;obtain⟨z2,hz2,rfl⟩:=bp.1 hy;exact hn.1 (by rw[show rf z=rf z2 from e.trans (show s=z2.1 from e2.symm)];exact bw hz2)
  ·have h1:ic s (uU z)=true:=jd.2 e
   rw[if_neg e,aq,aq,bn,if_pos h1,Lq hn.2]
def rO{s:aD}:∀{es:List FE},(iF dI es s).Sublist es
 |[] =>.refl _
 |z :: r=>by
  unfold iF;split
  ·exact List.sublist_cons_self _ _
  ·exact rO.cons_cons _
def dU.has{x:cY}{r:RS}(h:dU x r)(s:aD):0<(bU r.1 s).2.2↔dO dI x.2.1.1 s=false:=by
 rw[<-h.read s];cases c:dO dI x.2.1.1 s with
 |true=>rw[rh c];simp
 |false=>rw[nv c];simp
def dU.write{x:cY}{r:RS}(h:dU x r)(s t:aD):dU (cW x s t).1 (jk r s t).1/\(cW x s t).2=(jk r s t).2:=by
 have hlen:r.1.length=x.2.1.1.length:=by rw[h.perm.length_eq,di]
 have hc:((dO dI x.2.1.1 s=false/\x.2.1.1.length=6)\/x.1.1=1000000)↔((0<(bU r.1 s).2.2/\r.1.length=6)\/r.2.1=1000000):=by rw[h.has,hlen,h.now]
 by_cases h1:aJ s=0
 ·by_cases h2:1200<t.length
  ·rw[AD h1 h2]
   unfold jk;rw[if_neg (by simp[h1]),if_pos h2];exact⟨h,rfl⟩
  ·by_cases h3:(dO dI x.2.1.1 s=false/\x.2.1.1.length=6)\/x.1.1=1000000
   ·rw[AE h1 h2 h3]
    unfold jk;rw[if_neg (by simp[h1]),if_neg h2,if_pos (hc.1 h3)];exact⟨h,rfl⟩
   ·rw[Fc h1 h2 h3]
    unfold jk;rw[if_neg (by simp[h1]),if_neg h2,if_neg (fun h'=>h3 (hc.2 h'))];refine⟨⟨by rw[h.now],by have:=h.lo;simp only;omega,by have:=h.hi;simp only;omega,?_,?_,?_,CH (s:=s) (e:=(s,t,r.2.1+1,())) rfl h.Lo,?_⟩,rfl⟩
    ·have hp:=(AG (s:=s) (v:=(t,x.1.1+1,())) (c:=x.2.1.2.1) h.names).length_eq
     have hb:=congrArg bo (uV (s:=s) (v:=(t,x.1.1+1,())) (c:=x.2.1.2.1) (es:=x.2.1.1));simp only[di]at hb;show(gG dI x.2.1.1 s (t,x.1.1+1,()) x.2.1.2.1).length<=6;rw[hb];have:=h.len;cases c:dO dI x.2.1.1 s with
     |true=>simpa using this
     |false=>
      have:¬x.2.1.1.length=6:=fun e=>h3 (.inl ⟨c,e⟩)
      simp;omega
    ·show((gG dI x.2.1.1 s (t,x.1.1+1,()) x.2.1.2.1).map si).Nodup
     rw[uV];split
     ·exact h.born
     ·rw[fs]
      refine⟨h.born,by simp,fun a ha b hb e =>?_⟩;simp at hb;obtain⟨y,hy,rfl⟩:=bp.1 ha;have:=h.old y hy;omega
    ·intro y hy
     have hy':si y∈(gG dI x.2.1.1 s (t,x.1.1+1,()) x.2.1.2.1).map si:=bw hy;rw[uV]at hy';show si y<pM dI x.2.1.1 s x.2.1.2.1;unfold pM;split at hy'
     ·rename_i c
      rw[if_pos c];obtain⟨z,hz,e⟩:=bp.1 hy';rw[<-e];exact h.old z hz
     ·rename_i c
      rw[if_neg c];rcases bb.1 hy' with hy'|hy'
      ·obtain⟨z,hz,e⟩:=bp.1 hy'
       have:=h.old z hz;omega
      ·simp at hy';omega
    ·refine(HU h.Lo).trans ?_
     rw[h.now];exact((h.perm.filter _).cons _).trans (AG (v:=(t,x.1.1+1,())) (c:=x.2.1.2.1) h.names).symm
 ·rw[AB h1]
  unfold jk;rw[if_pos h1];exact⟨h,rfl⟩
def dU.remove{x:cY}{r:RS}(h:dU x r)(s:aD):dU (eP x s).1 (jg r s).1/\(eP x s).2=(jg r s).2:=by
 have hp:(r.1.filter (ic s)).Perm ((iF dI x.2.1.1 s).map uU):=by rw[Lq h.names];exact h.perm.filter _
 cases c:dO dI x.2.1.1 s with
 |false=>
  have hall:r.1.filter (ic s)=r.1:=filter_all fun y hy e=>by
   obtain⟨z,hz,rfl⟩:=bp.1 (h.perm.mem_iff.1 hy);have:=nI.2 ⟨z,hz,e⟩;rw[c]at this;cases this
  rw[ot c];unfold jg;rw[if_pos (by rw[hall])];exact⟨h,rfl⟩
 |true=>
  obtain⟨y,hy,e⟩:=nI.1 c;have hlt:(r.1.filter (ic s)).length<r.1.length:=List.length_filter_lt_length_iff_exists.2 ⟨uU y,h.perm.mem_iff.2 (bw hy),by rw[jd];exact fun h=>h e⟩;rw[ng c];unfold jg;rw[if_neg (by omega)];refine⟨⟨h.now,h.lo,h.hi,cx rO.length_le h.len,(rO.map si).nodup h.born,fun y hy=>h.old y (rO.subset hy),List.Pairwise.filter _ h.Lo,hp⟩,rfl⟩
def oX{L:List RF}{i:Nat}(h:i<L.length):L.drop i=nth dF L i :: L.drop (i+1):=iY (t:=dF) h
def Lr:∀{L:List RF} {s:aD} {i:Nat},(∀j,j<i->¬(nth dF L j).1=s)->i<L.length->(nth dF L i).1=s->bU L s=((nth dF L i).2.1,(nth dF L i).2.2.1,0)
 |[],_,_,_,h,_=>by simp at h
 |y :: r,s,0,_,_,e=>by unfold bU;rw[if_pos (show y.1=s from e)];rfl
 |y :: r,s,i+1,hn,h,e=>by
  unfold bU;rw[if_neg (show ¬y.1=s from hn 0 (by omega))];exact Lr (L:=r) (i:=i) (fun j hj=>hn (j+1) (by omega)) (by simpa using h) e
def UZ{L:List RF}{s:aD}(h:∀j,j<L.length->¬(nth dF L j).1=s):bU L s=([],0,5):=
 xM fun y hy e=>by
  obtain⟨j,hj,rfl⟩:=gT (t:=dF) hy;exact h j hj e
def dJ(L:List RF)(s:aD)(e:RF)(i:Nat)(laid:Bool)(out:List RF):Prop:=
 (laid=false->out++nH s e (L.drop i)=nH s e L)/\(laid=true->out++(L.drop i).filter (ic s)=nH s e L)/\out.length<=i+1/\(laid=false->out.length<=i)
def dJ.start(L:List RF)(s:aD)(e:RF):dJ L s e 0 false []:=⟨fun _=>rfl,fun h=>(by cases h),by simp,fun _=>by simp⟩
def dJ.put{L:List RF}{s:aD}{e:RF}{i:Nat}{out:List RF}(h:dJ L s e i false out)(hi:i<L.length)(hle:(bd s (nth dF L i).1 || s == (nth dF L i).1)=true)
  (hne:¬(nth dF L i).1=s):dJ L s e (i+1) true (out++[e]++[nth dF L i]):=by
 refine⟨fun h=>by(cases h),fun _ =>?_,by have:=h.2.2.2 rfl;simp;omega,fun h=>by cases h⟩;rw[<-h.1 rfl,oX hi,nH,if_pos hle,bn,if_pos (jd.2 hne)];simp
def dJ.P5{L:List RF}{s:aD}{e:RF}{i:Nat}{out:List RF}(h:dJ L s e i false out)(hi:i<L.length)(hle:(bd s (nth dF L i).1 || s == (nth dF L i).1)=true)
  (hne:(nth dF L i).1=s):dJ L s e (i+1) true (out++[e]):=by
 refine⟨fun h=>by(cases h),fun _ =>?_,by have:=h.2.2.2 rfl;simp;omega,fun h=>by cases h⟩;rw[<-h.1 rfl,oX hi,nH,if_pos hle,bn,if_neg (fun h=>jd.1 h hne)];simp
def dJ.low{L:List RF}{s:aD}{e:RF}{i:Nat}{out:List RF}(h:dJ L s e i false out)(hi:i<L.length)(hle:(bd s (nth dF L i).1 || s == (nth dF L i).1)=false):dJ L s e (i+1) false (out++[nth dF L i]):=by
 refine⟨fun _ =>?_,fun h=>by(cases h),by have:=h.2.2.2 rfl;simp;omega,fun _=>by have:=h.2.2.2 rfl;simp;omega⟩;rw[<-h.1 rfl,oX hi,nH,if_neg (by rw[hle];simp)];simp
def dJ.high{L:List RF}{s:aD}{e:RF}{i:Nat}{out:List RF}(h:dJ L s e i true out)(hi:i<L.length)(hne:¬(nth dF L i).1=s):dJ L s e (i+1) true (out++[nth dF L i]):=by
 refine⟨fun h=>by(cases h),fun _ =>?_,by have:=h.2.2.1;simp;omega,fun h=>by cases h⟩;rw[<-h.2.1 rfl,oX hi,bn,if_pos (jd.2 hne)];simp
def dJ.skip{L:List RF}{s:aD}{e:RF}{i:Nat}{out:List RF}(h:dJ L s e i true out)(hi:i<L.length)(hne:(nth dF L i).1=s):dJ L s e (i+1) true out:=by
 refine⟨fun h=>by(cases h),fun _ =>?_,by have:=h.2.2.1;omega,fun h=>by cases h⟩;rw[<-h.2.1 rfl,oX hi,bn,if_neg (fun h=>jd.1 h hne)]
def dJ.last{L:List RF}{s:aD}{e:RF}{i:Nat}{out:List RF}(h:dJ L s e i false out)(hi:L.length<=i):out++[e]=nH s e L:=by
 rw[<-h.1 rfl,bj hi];rfl
def dJ.all{L:List RF}{s:aD}{e:RF}{i:Nat}{out:List RF}(h:dJ L s e i true out)(hi:L.length<=i):out=nH s e L:=by
 rw[<-h.2.1 rfl,bj hi];simp
def U0{L out T:List RF}{s:aD}{i:Nat}(h:out++(L.drop i).filter (ic s)=T)(hi:i<L.length)(hne:¬(nth dF L i).1=s):out++[nth dF L i]++(L.drop (i+1)).filter (ic s)=T:=by
 rw[<-h,oX hi,bn,if_pos (jd.2 hne)];simp
def U1{L out T:List RF}{s:aD}{i:Nat}(h:out++(L.drop i).filter (ic s)=T)(hi:i<L.length)(hne:(nth dF L i).1=s):out++(L.drop (i+1)).filter (ic s)=T:=by
 rw[<-h,oX hi,bn,if_neg (fun h=>jd.1 h hne)]
def Ls{L out T:List RF}{s:aD}{i:Nat}(h:out++(L.drop i).filter (ic s)=T)(hi:L.length<=i):out=T:=by
 rw[<-h,bj hi];simp
def Og{x:RS}{s t:aD}(h:¬aJ s=0):jk x s t=(x,aJ s):=by unfold jk;rw[if_pos h]
def Oh{x:RS}{s t:aD}(h:aJ s=0)(h1:1200<t.length):jk x s t=(x,2):=by unfold jk;rw[if_neg (by simp[h]),if_pos h1]
def Oi{x:RS}{s t:aD}(h:aJ s=0)(h1:¬1200<t.length)(h2:(0<(bU x.1 s).2.2/\x.1.length=6)\/x.2.1=1000000):jk x s t=(x,8):=by unfold jk;rw[if_neg (by simp[h]),if_neg h1,if_pos h2]
def HV{x:RS}{s t:aD}(h:aJ s=0)(h1:¬1200<t.length)(h2:¬((0<(bU x.1 s).2.2/\x.1.length=6)\/x.2.1=1000000)) :
  jk x s t=((nH s (s,t,x.2.1+1,()) x.1,x.2.1+1,()),0):=by unfold jk;rw[if_neg (by simp[h]),if_neg h1,if_neg h2]
def RV{x:RS}{s:aD}(h:(x.1.filter (ic s)).length=x.1.length):jg x s=(x,5):=by unfold jg;rw[if_pos h]
def Oj{x:RS}{s:aD}(h:¬(x.1.filter (ic s)).length=x.1.length):jg x s=((x.1.filter (ic s),x.2),0):=by unfold jg;rw[if_neg h]
def Lt(x:cY)(s t:aD):0<=(cW x s t).2:=by
 unfold cW;split
 ·exact cQ s
 ·split
  ·simp
  ·split <;> simp
def JU(x:cY)(s:aD):0<=(eP x s).2:=by unfold eP;split <;> simp
def dU.YN{x:cY}{r:RS}(h:dU x r):r.1.length<=6:=by rw[h.perm.length_eq,di];exact h.len
def dU.pre{x:cY}{r:RS}(h:dU x r):x.2.1.1.length<=6/\0<=x.1.1/\x.1.1<=1000000:=⟨h.len,h.lo,h.hi⟩
def dU.ad7{x:cY}{r:RS}(h:dU x r):r.1.length<=6/\0<=r.2.1/\r.2.1<=1000000:=⟨h.YN,by rw[h.now];exact h.lo,by rw[h.now];exact h.hi⟩
def dU.acU{x:cY}{r:RS}(h:dU x r)(s t:aD):fJ (aL (cW x s t).2) (jk r s t).2=true:=by rw[<-(h.write s t).2];exact pV (Lt x s t)
def dU.abo{x:cY}{r:RS}(h:dU x r)(s:aD):fJ (aL (eP x s).2) (jg r s).2=true:=by rw[<-(h.remove s).2];exact pV (JU x s)
structure iZ (x:cY):Prop where
 iV:∃r,dU x r
 RW:∀y∈x.2.1.1,y.2.1.2.1<=x.1.1
def iZ.new:iZ oE:=⟨⟨_,dU.new⟩,fun y hy=>by simp[oE]at hy⟩
def Lu{s:aD}{v:aD×Int×Unit}{c:Int}:∀{es:List FE} {y:FE},y∈gG dI es s v c->y.2.1=v\/y∈es
 |[],y,h=>by simp[gG]at h;subst h;exact .inl rfl
 |z :: r,y,h=>by
  unfold gG at h;split at h
  ·rcases ah.1 h with rfl|h
   ·exact .inl rfl
   ·exact .inr (by simp[h])
  ·rcases ah.1 h with rfl|h
   ·exact .inr (by simp)
   ·rcases Lu h with h|h
    ·exact .inl h
    ·exact .inr (by simp[h])
def nX(x:cY)(s t:aD):((cW x s t).1=x/\¬(cW x s t).2=0)\/
  ((cW x s t).1=((x.1.1+1,()),(gG dI x.2.1.1 s (t,x.1.1+1,()) x.2.1.2.1,pM dI x.2.1.1 s x.2.1.2.1,()),())/\(cW x s t).2=0):=by
 unfold cW;split
 ·rename_i h;exact .inl ⟨rfl,h⟩
 ·split
  ·exact .inl ⟨rfl,by simp⟩
  ·split
   ·exact .inl ⟨rfl,by simp⟩
   ·exact .inr ⟨rfl,rfl⟩
def iZ.write{x:cY}(h:iZ x)(s t:aD):iZ (cW x s t).1/\x.1.1<=(cW x s t).1.1.1:=by
 obtain⟨r,hr⟩:=h.iV;have hg:=(hr.write s t).1;rcases nX x s t with⟨e,_⟩|⟨e,_⟩
 ·rw[e];exact⟨h,av _⟩
 ·rw[e]at hg ⊢
  refine⟨⟨⟨_,hg⟩,fun y hy =>?_⟩,by simp only;omega⟩;rcases Lu hy with hy|hy
  ·rw[hy];exact av _
  ·have:=h.RW y hy;simp only;omega
def iZ.remove{x:cY}(h:iZ x)(s:aD):iZ (eP x s).1/\x.1.1<=(eP x s).1.1.1:=by
 obtain⟨r,hr⟩:=h.iV;have hg:=(hr.remove s).1;cases c:dO dI x.2.1.1 s with
 |false=>rw[ot c];exact⟨h,av _⟩
 |true=>
  rw[ng c]at hg ⊢;exact⟨⟨⟨_,hg⟩,fun y hy=>h.RW y (rO.subset hy)⟩,av _⟩
def RX{x:cY}(h:iZ x){s:aD}(hn:(aL (aO x s).2.2).isNil=true):(aO x s).2.1<=x.1.1:=by
 have hc:=aV.1 hn;cases c:dO dI x.2.1.1 s with
 |false=>rw[nv c]at hc;simp at hc
 |true=>
  obtain⟨r,hr⟩:=h.iV;obtain⟨y,hy,e⟩:=nI.1 c;rw[rh c,xN hr.names y hy e];exact h.RW y hy
def uf{s k:aD}{v:aD×Int×Unit}{c:Int}:∀{es:List FE},dO dI (gG dI es s v c) k=(decide (k=s) || dO dI es k)/\ki dI (gG dI es s v c) k=if k=s then v else ki dI es k
 |[]=>by
  by_cases h:s=k
  ·subst h;simp[gG,dO,ki]
  ·have h':¬k=s:=fun e=>h e.symm
   simp[gG,dO,ki,h,h']
 |z :: r=>by
  obtain⟨i1,i2⟩:=uf (s:=s) (k:=k) (v:=v) (c:=c) (es:=r);unfold gG;by_cases e:z.1=s
  ·rw[if_pos e]
   by_cases h:s=k
   ·subst h;simp[dO,ki]
   ·have h':¬k=s:=fun e=>h e.symm
    have h2:¬z.1=k:=fun e2=>h (e.symm.trans e2)
    simp[dO,ki,h,h',h2]
  ·rw[if_neg e]
   by_cases h:z.1=k
   ·have h':¬k=s:=fun e2=>e (h.trans e2)
    simp[dO,ki,h,h']
   ·simp only[dO,ki,if_neg h];exact⟨i1,i2⟩
def RY{x:cY}{s k t:aD}(h:¬k=s):aO (cW x s t).1 k=aO x k:=by
 rcases nX x s t with⟨e,_⟩|⟨e,_⟩
 ·rw[e]
 ·rw[e]
  unfold aO;simp only[(uf (s:=s) (k:=k) (v:=(t,x.1.1+1,())) (c:=x.2.1.2.1) (es:=x.2.1.1)).1,(uf (s:=s) (k:=k) (v:=(t,x.1.1+1,())) (c:=x.2.1.2.1) (es:=x.2.1.1)).2,h,decide_false,Bool.false_or,if_false]
def U2{x:cY}{s t:aD}(h:(aL (cW x s t).2).isNil=true):aO (cW x s t).1 s=(t,x.1.1+1,0):=by
 rcases nX x s t with⟨_,e⟩|⟨e,_⟩
 ·exact absurd (aV.1 h) e
 ·rw[e]
  unfold aO;simp only[(uf (s:=s) (k:=s) (v:=(t,x.1.1+1,())) (c:=x.2.1.2.1) (es:=x.2.1.1)).1,(uf (s:=s) (k:=s) (v:=(t,x.1.1+1,())) (c:=x.2.1.2.1) (es:=x.2.1.1)).2];simp
def U3{x:cY}{s t:aD}(h:(aL (cW x s t).2).isNil=false):(cW x s t).1=x:=by
 rcases nX x s t with⟨e,_⟩|⟨_,e⟩
 ·exact e
 ·rw[e]at h;cases h
def iZ.pre{x:cY}(h:iZ x):x.2.1.1.length<=6/\0<=x.1.1/\x.1.1<=1000000:=let⟨_,hr⟩:=h.iV;hr.pre
def _root_.Go.Vg.Lv:List UInt8->UInt8
 |c :: _=>c
 |[]=>0
def pA(c:UInt8):List aD->aD
 |[]=>[]
 |[x]=>x
 |x :: y :: r=>x++c :: pA c (y :: r)
def parts(c:UInt8):aD->List aD
 |[]=>[[]]
 |b :: r=>if b=c then[] :: parts c r else match parts c r with
  |h :: t=>(b :: h) :: t
  |[]=>[[b]]
def ug(c:UInt8):∀s:aD,parts c s≠[]
 |[]=>by simp[parts]
 |b :: r=>by
  unfold parts;split
  ·simp
  ·split <;> simp
def nY{c b:UInt8}{r:aD}(h:b≠c):∃x t,parts c r=x :: t/\parts c (b :: r)=(b :: x) :: t:=by
 cases hp:parts c r with
 |nil=>exact absurd hp (ug c r)
 |cons x t=>
  refine⟨x,t,rfl,?_⟩
  conv=>lhs;unfold parts
  rw[if_neg h,hp]
def qg{c:UInt8}{r:aD}:parts c (c :: r)=[] :: parts c r:=by
 conv=>lhs;unfold parts
 rw[if_pos rfl]
def mB{c:UInt8}:∀{x:aD},c∉x->parts c x=[x]
 |[],_=>rfl
 |b :: r,h=>by
  obtain⟨x,t,h1,h2⟩:=nY (c:=c) (b:=b) (r:=r) (fun e=>h (by simp[e]));rw[mB (x:=r) (fun e=>h (by simp[e]))]at h1;cases h1;exact h2
def ij{c:UInt8}:∀{x:aD} {s:aD},c∉x->parts c (x++c :: s)=x :: parts c s
 |[],s,_=>qg
 |b :: r,s,h=>by
  obtain⟨x,t,h1,h2⟩:=nY (c:=c) (b:=b) (r:=r++c :: s) (fun e=>h (by simp[e]));rw[ij (x:=r) (fun e=>h (by simp[e]))]at h1;cases h1;exact h2
def vG{c:UInt8}:∀{L:List aD},L≠[]->(∀y∈L,c∉y)->parts c (pA c L)=L
 |[],h,_=>absurd rfl h
 |[x],_,h=>mB (h x (by simp))
 |x :: y :: r,_,h=>by
  show parts c (x++c :: pA c (y :: r))=_;rw[ij (h x (by simp)),vG (by simp) fun z hz=>h z (ck _ hz)]
def sH(c:UInt8):∀(s:aD),(parts c s).length<=s.length+1
 |[]=>by simp[parts]
 |b :: r=>by
  by_cases h:b=c
  ·subst h;rw[qg];have:=sH b r;simp;omega
  ·obtain⟨x,t,h1,h2⟩:=nY (c:=c) (b:=b) (r:=r) h
   have:=sH c r;rw[h1]at this;rw[h2];simp at this ⊢;omega
def oY(c:UInt8):∀(s:aD),∀y∈parts c s,y.length<=s.length
 |[],y,h=>by simp[parts]at h;simp[h]
 |b :: r,y,h=>by
  by_cases hb:b=c
  ·subst hb;rw[qg]at h
   rcases ah.1 h with rfl|h
   ·simp
   ·have:=oY b r y h;simp;omega
  ·obtain⟨x,t,h1,h2⟩:=nY (c:=c) (b:=b) (r:=r) hb
   rw[h2]at h;rcases ah.1 h with rfl|h
   ·have:=oY c r x (by rw[h1];simp);simp;omega
   ·have:=oY c r y (by rw[h1];simp[h]);simp;omega
def AH{b c:UInt8}{l:aD}(h:b≠c):br (b :: l) [c]=if br l [c] == -1 then -1 else br l [c]+1:=by
 rw[br];simp[dj,Ne.symm h]
def AI{c:UInt8}{l:aD}:br (c :: l) [c]=0:=by
 rw[br];simp[dj]
def uh(c:UInt8):∀s:aD,dk [c] 0 (s.count c) s=parts c s
 |[]=>rfl
 |b :: l=>by
  by_cases h:b=c
  ·subst h
   rw[qg,List.count_cons_self,dk,AI,if_neg (by decide),<-uh b l];simp
  ·obtain⟨x,t,h1,h2⟩:=nY (c:=c) (b:=b) (r:=l) h
   rw[h2,List.count_cons_of_ne h];rw[<-uh c l]at h1;cases hk:l.count c with
   |zero=>
    rw[hk]at h1;simp only[dk]at h1 ⊢;cases h1;rfl
   |succ k=>
    rw[hk]at h1;have hi:br l [c]≠-1:=by
     intro e;have:=Lib.count_miss (s:=l) (sub:=[c]) e;rw[Lib.count_one]at this;omega
    have hge:=Lib.index_ge l [c];rw[dk,if_neg (by simpa using hi)]at h1;obtain⟨i,e⟩:∃i:Nat,br l [c]=i:=⟨(br l [c]).toNat,by omega⟩
    have e2:br (b :: l) [c]=((i+1:Nat):Int):=by rw[AH h,if_neg (by simpa using hi),e];rfl
    rw[dk,e2,if_neg (by simp;omega)];rw[e]at h1;simp only[du,Nat.add_zero,dm,ft,List.drop_succ_cons,List.cons.injEq]at h1 ⊢;exact⟨⟨aa,h1.1⟩,h1.2⟩
def nh(c:UInt8)(L:List aD):aD:=L.flatMap (· ++ [c])
def AJ(c:UInt8)(x:aD)(L:List aD):nh c (x :: L)=x++c :: nh c L:=by simp[nh]
def HW(c:UInt8)(L:List aD)(x:aD):nh c (L++[x])=nh c L++x++[c]:=by simp[nh]
def HX{c:UInt8}:∀{L:List aD},L≠[]->nh c L=pA c L++[c]
 |[],h=>absurd rfl h
 |[x],_=>by simp[nh,pA]
 |x :: y :: r,_=>by
  rw[AJ,HX (L:=y :: r) (by simp)];simp[pA]
def xO{c:UInt8}:∀{L:List aD} {x:aD},(∀y∈L,c∉y)->c∉x->parts c (nh c L++x)=L++[x]
 |[],x,_,h=>by simp[nh,mB h]
 |y :: r,x,h,hx=>by
  rw[AJ,c6,dn,ij (h y (by simp)),xO (fun z hz=>h z (ck _ hz)) hx];simp
def wI(x:aD)(c:UInt8):ae (x++[c]) [c]=x:=by
 have h:Lib.hasSuffix (x++[c]) [c]=true:=by unfold Lib.hasSuffix;simp[List.isSuffixOf_iff_suffix]
 unfold ae;rw[if_pos h];simp
def RZ{c:UInt8}{L:List aD}(h:L≠[])(hf:∀y∈L,c∉y):parts c (ae (nh c L) [c])=L:=by
 rw[HX h,wI,vG h hf]
def kV(c:UInt8):Bool:=decide (48<=c.toNat/\c.toNat<=57)
def qH{k:Nat}(h:k<10):(cy (48+k)).toNat=48+k:=by
 rw[e9];omega
def mC:∀(u:Nat),∀c∈ag u,48<=c.toNat/\c.toNat<=57:=by
 intro u;induction u using dw with
 |_ u ih=>
  intro c hc;by_cases h:u<10
  ·rw[ag,dif_pos h]at hc
   simp only[eo]at hc;rw[hc,qH h];omega
  ·rw[ag,dif_neg h]at hc
   rcases bb.1 hc with hc|hc
   ·exact ih _ (by omega) c hc
   ·simp only[eo]at hc
    rw[hc,qH (cg _ (by decide))];omega
def oZ(u:Nat):ag u≠[]:=by
 rw[ag];split <;> simp
def kf:∀(k u:Nat),u<10^(k+1)->(ag u).length<=k+1
 |0,u,h=>by rw[ag,dif_pos (by simpa using h)];simp
 |k+1,u,h=>by
  rw[ag];split
  ·simp
  ·have:=kf k (u / 10) (by rw[Nat.pow_succ]at h;omega)
   simp;exact this
def mg(l:aD):Nat:=l.foldl (fun n c=>10*n+(c.toNat-48)) 0
def AK(l:aD)(c:UInt8):mg (l++[c])=10*mg l+(c.toNat-48):=by simp[mg]
def Lw:∀u:Nat,mg (ag u)=u:=by
 intro u;induction u using dw with
 |_ u ih=>
  by_cases h:u<10
  ·rw[ag,dif_pos h]
   show 10*0+((cy (48+u)).toNat-48)=u;rw[qH h];omega
  ·rw[ag,dif_neg h,AK,ih _ (by omega),qH (cg _ (by decide))];omega
def P6:∀(k:Nat) (l:aD),l.length=k->(∀c∈l,48<=c.toNat/\c.toNat<=57)->mg l<10^k
 |0,l,hk,_=>by rw[List.eq_nil_of_length_eq_zero hk];decide
 |k+1,l,hk,h=>by
  have hne:l≠[]:=by rintro rfl;simp at hk
  have e:=List.dropLast_concat_getLast hne;rw[<-e]at h ⊢;have h1:=P6 k l.dropLast (by simp;omega) fun x hx=>h x (by simp[hx])
  have h2:=h (l.getLast hne) (by simp);rw[AK,Nat.pow_succ];omega
def HY:∀(l:aD) (c:UInt8) (a v:Nat),bt a l=.ok v->bt a (l++[c])=bt v [c]
 |[],c,a,v,h=>by simp[bt]at h;rw[h];rfl
 |b :: l,c,a,v,h=>by
  rw[dn,bt];rw[bt]at h;split at h
  ·rename_i hb
   rw[if_pos hb];split at h
   ·cases h
   ·rename_i h1
    rw[if_neg h1];split at h
    ·cases h
    ·rename_i h2
     rw[if_neg h2];exact HY l c _ v h
  ·cases h
def Lx{v d:Nat}(hd:d<10)(h:10*v+d<18446744073709551616):bt v [cy (48+d)]=.ok (10*v+d):=by
 unfold bt;rw[qH hd,if_pos (by omega),if_neg (by omega),if_neg (by omega)];unfold bt;congr 1;omega
def YO:∀u:Nat,u<18446744073709551616->bt 0 (ag u)=.ok u:=by
 intro u;induction u using dw with
 |_ u ih=>
  intro hu;by_cases h:u<10
  ·rw[ag,dif_pos h]
   have:=Lx (v:=0) (d:=u) h (by omega);simpa using this
  ·rw[ag,dif_neg h,HY _ _ _ _ (ih _ (by omega) (by omega)),Lx (cg _ (by decide)) (by omega)]
   congr 1;omega
def P7{u:Nat}(hu:u<18446744073709551616):Lib.parseMag (ag u)=.ok u:=by
 unfold Lib.parseMag;rw[if_neg (oZ u),YO u hu]
def U4{n:Int}(h0 : -9223372036854775808<=n)(h1:n<=9223372036854775807):cm (ab n)=.ok n:=by
 by_cases hn:n<0
 ·have hm:=P7 (u:=n.natAbs) (by omega)
  simp only[ab,if_pos hn,cm];rw[if_pos (Or.inr (by decide)),hm];simp only;rw[if_neg (by simp),if_neg (by simp;omega)];simp;omega
 ·have hm:=P7 (u:=n.toNat) (by omega)
  simp only[ab,if_neg hn,cm];cases hd:ag n.toNat with
  |nil=>exact absurd hd (oZ _)
  |cons c r=>
   have hc:=mC n.toNat c (by rw[hd];simp);rw[hd]at hm;simp only;rw[if_neg (by omega),hm];simp only;rw[if_neg (by omega),if_neg (by omega),if_neg (by omega)];congr 1;omega
def eX(s:List UInt8):Int×aS:=match cm s with
 |.ok n=>(n,.nil)
 |Lib.NumEnd.syntax=>(0,.other)
 |.range=>(Lib.atoiSat s,.other)
def dK(s:aD):Option Int:=match cm s with
 |.ok n=>if ab n=s then some n else none
 |_=>none
def U5{n:Int}(h0 : -9223372036854775808<=n)(h1:n<=9223372036854775807):dK (ab n)=some n:=by
 unfold dK;rw[U4 h0 h1];simp
def sJ{s:aD}:(dK s).isNone=(!(eX s).2.isNil || !decide (ab (eX s).1=s)):=by
 unfold dK eX;cases cm s with
 |ok v=>simp only[aS.isNil];by_cases h:ab v=s <;> simp[h]
 |range=>rfl
 |_=>rfl
def dV(s:aD):aD:=match s with
 |45 :: r=>r
 |_=>s
def oy(s:aD):Option Int:=
 if(dV s).length<1\/(dV s).length > 18\/((dV s).head?=some 48/\s.length > 1)then none
 else if(dV s).all kV=true then some (if(dV s).length<s.length then -(mg (dV s):Int)else(mg (dV s):Int))else none
def Ly{u:Nat}(h:(ag u).head?=some 48):u=0:=by
 revert h;induction u using dw with
 |_ u ih=>
  intro h;by_cases hu:u<10
  ·rw[ag,dif_pos hu]at h
   simp only[List.head?_cons,ep]at h;have:=congrArg UInt8.toNat h;rw[qH hu]at this;have h48:(48:UInt8).toNat=48:=rfl;omega
  ·rw[ag,dif_neg hu]at h
   have hne:=oZ (u / 10);cases hd:ag (u / 10)with
   |nil=>exact absurd hd hne
   |cons c r=>
    rw[hd]at h;simp only[dn,List.head?_cons]at h;have:=ih (u / 10) (by omega) (by rw[hd];exact h);omega
def abp{s:aD}(h:∀c∈s,48<=c.toNat/\c.toNat<=57):dV s=s:=by
 unfold dV;split
 ·rename_i r
  have:=h 45 (by simp);have h45:(45:UInt8).toNat=45:=rfl;omega
 ·rfl
def U6{n:Int}(h0 : -999999999999999999<=n)(h1:n<=999999999999999999):oy (ab n)=some n:=by
 have hall:∀u,(ag u).all kV=true:=fun u=>by
  rw[bh];intro c hc;have:=mC u c hc;unfold kV;simp[this]
 by_cases hn:n<0
 ·have hm:dV (ab n)=ag n.natAbs:=by unfold ab;rw[if_pos hn];rfl
  have hl:(ab n).length=(ag n.natAbs).length+1:=by unfold ab;rw[if_pos hn];rfl
  have h3:=kf 17 n.natAbs (by omega);have h4:=dx.2 (oZ n.natAbs);unfold oy;rw[hm,if_neg (by
   rintro(h|h|⟨h,_⟩)
   ·omega
   ·omega
   ·have:=Ly h;omega),if_pos (hall _),if_pos (by omega),Lw]
  congr 1;omega
 ·have hi:ab n=ag n.toNat:=by unfold ab;rw[if_neg hn]
  have hm:dV (ab n)=ag n.toNat:=by rw[hi];exact abp (mC _)
  have h3:=kf 17 n.toNat (by omega);have h4:=dx.2 (oZ n.toNat);unfold oy;rw[hm,hi,if_neg (by
   rintro(h|h|⟨h,h'⟩)
   ·omega
   ·omega
   ·have h0:=Ly h
    rw[h0]at h';simp[ag]at h'),if_pos (hall _),if_neg (by omega),Lw]
  congr 1;omega
def HZ{n:Int}{c:UInt8}(h:c.toNat<=44):c∉ab n:=by
 intro hc;have h45:(45:UInt8).toNat=45:=rfl;unfold ab at hc;split at hc
 ·rcases ah.1 hc with rfl|hc
  ·omega
  ·have:=mC _ c hc;omega
 ·have:=mC _ c hc;omega
def mD(n:Int):Nat:=2*n.natAbs+(if n<0 then 1 else 0)
def acV{n:Int}(h:n<0):mD (-n)<mD n:=by unfold mD;rw[if_neg (by omega),if_pos h];omega
def acW{n:Int}(h:10<=n):mD (n / 10)<mD n:=by unfold mD;rw[if_neg (by omega),if_neg (by omega)];omega
def AL{n:Int}(h:n<0):ab n=[45]++ab (-n):=by
 unfold ab;rw[if_pos h,if_neg (by omega)];congr 2;omega
def ui{n:Int}(h:0<=n)(h':n<10):ab n=[cy (48+n).toNat]:=by
 unfold ab;rw[if_neg (by omega),ag,dif_pos (by omega)];congr 2;omega
def H0{n:Int}(h:10<=n):ab n=ab (n / 10)++[cy (48+n % 10).toNat]:=by
 unfold ab;rw[if_neg (by omega),if_neg (by omega)]
 conv=>lhs;rw[ag,dif_neg (by omega)]
 rw[show n.toNat / 10=(n / 10).toNat by omega,show 48+n.toNat % 10=(48+n % 10).toNat by omega]
def YP:ab (-9223372036854775808)=[45,57,50,50,51,51,55,50,48,51,54,56,53,52,55,55,53,56,48,56]:=by
 rw[AL (by decide)]
 repeat rw[H0 (by decide)]
 rw[ui (by decide) (by decide)];decide
def P8{n:Int}(h0 : -9223372036854775808<=n)(h1:n<=9223372036854775807):(ab n).length<=21:=by
 unfold ab;split
 ·rw[cw]
  have:=kf 19 n.natAbs (by omega);omega
 ·have:=kf 19 n.toNat (by omega)
  omega
def GL{n:Int}(h0:0<=n)(h1:n<=255):bytesOf [aw c1 n]=[cy n.toNat]:=by
 have:aw c1 n=n:=by simp[aw,bz,b5];omega
 rw[this];rfl
def o1{f:Int}(h0:0<=f)(h:(aL f).isNil=false):f > 0:=by
 have:¬f=0:=fun e=>by rw[aV.2 e]at h;cases h
 omega
def dW{f:Int}(h:(aL f).isNil=true):f<=0:=by
 have:=aV.1 h;omega
def H2{t:Ty}{l:List (D t)}{i j:Nat}(h:j<i):nth t (ai 0 (af i l)) j=nth t l j:=by
 rw[er,DH h]
def H3{α:Type}{l:List α}{i:Nat}(h:i<=l.length):(ai 0 (af i l)).length=i:=by
 rw[er,bc];omega
def gx(b:Bool):List UInt8:=if b=true then[119,101,97,107,32]else[]
def xP(s:aD):aD:=[110,101,101,100,32]++s++[10]
def uW(n:Int):aD:=[119,111,114,100,32]++ab n++[10]
def AM(y:D aP):aD:=gx y.2.2.1++[115,121,109,98,111,108,32]++y.1++[32]++ab y.2.1++[10]
def vH(t:D aQ):aD:=
 if t.2.1=1 then[98,97,115,101,32]++ab t.1++[32]++ab t.2.2.1++[10]
 else if t.2.1=2 then gx t.2.2.2.2.1++[119,104,111,108,101,32]++ab t.1++[32]++ab t.2.2.1++[32]++t.2.2.2.1++[10]
 else gx t.2.2.2.2.1++[110,101,97,114,32]++ab t.1++[32]++ab t.2.2.1++[32]++t.2.2.2.1++[10]
def lY(o:D aA)(i:Nat):aD:=(o.1.take i).flatMap xP
def lh(o:D aA)(i:Nat):aD:=lY o o.1.length++(o.2.1.take i).flatMap uW
def jq(o:D aA)(i:Nat):aD:=lh o o.2.1.length++(o.2.2.1.take i).flatMap AM
def fF(o:D aA)(i:Nat):aD:=jq o o.2.2.1.length++(o.2.2.2.1.take i).flatMap vH
def fN(o:D aA):aD:=fF o o.2.2.2.1.length
def l9(o:D aA):aD×aS:=if cK o≠0 then([],aL (cK o))else if(fN o).length > 1200 then([],.no 2)else(fN o,.nil)
def H4{o:D aA}{i:Nat}(h:i<o.1.length):lY o (i+1)=lY o i++xP (nth .str o.1 i):=by
 unfold lY;rw[gI (t:=.str) h];simp
def H5{o:D aA}{i:Nat}(h:i<o.2.1.length):lh o (i+1)=lh o i++uW (nth (.int .i64) o.2.1 i):=by
 unfold lh;rw[gI (t:=.int .i64) h];simp
def AN{o:D aA}{i:Nat}(h:i<o.2.2.1.length):jq o (i+1)=jq o i++AM (nth aP o.2.2.1 i):=by
 unfold jq;rw[gI (t:=aP) h];simp
def AO{o:D aA}{i:Nat}(h:i<o.2.2.2.1.length):fF o (i+1)=fF o i++vH (nth aQ o.2.2.2.1 i):=by
 unfold fF;rw[gI (t:=aQ) h];simp
def H6(o:D aA):lh o 0=lY o o.1.length:=by unfold lh;simp
def H7(o:D aA):jq o 0=lh o o.2.1.length:=by unfold jq;simp
def H8(o:D aA):fF o 0=jq o o.2.2.1.length:=by unfold fF;simp
def Nm(s:aD):Prop:=s≠[]/\s.length<=8/\∀c∈s,c≠10/\c≠32
def je(a b x:Int):Prop:=a<=x/\x<=b
structure Ff (t:D aQ):Prop where
 a:je 0 39 t.1
 w:je (-2147483648) 2147483647 t.2.2.1
 k:t.2.1=1\/t.2.1=2\/t.2.1=3
 base:t.2.1=1->t.2.2.2.1=[]/\t.2.2.2.2.1=false
 nm:t.2.1≠1->Nm t.2.2.2.1
structure lL (o:D aA):Prop where
 n4:o.1.length<=4
 w1:1<=o.2.1.length
 w40:o.2.1.length<=40
 s8:o.2.2.1.length<=8
 t6:o.2.2.2.1.length<=6
 Kd:∀s∈o.1,Nm s
 words:∀n∈o.2.1,je (-2147483648) 2147483647 n
 syms:∀y∈o.2.2.1,Nm y.1/\je 0 39 y.2.1
 R0:∀t∈o.2.2.2.1,Ff t
def CI:∀(l p:List aD),jR p l=0->∀s∈l,aJ s=0
 |[],_,_,s,h=>absurd h (by simp)
 |x :: r,p,h,s,hs=>by
  have hx:=cQ x;unfold jR at h;split at h
  ·omega
  ·split at h
   ·cases h
   ·rcases ah.1 hs with rfl|hs
    ·omega
    ·exact CI r _ h s hs
def CJ:∀(l:List Int),lr l=0->∀n∈l,eB n=true
 |[],_,s,h=>absurd h (by simp)
 |x :: r,h,s,hs=>by
  unfold lr at h;split at h
  ·rename_i hx
   rcases ah.1 hs with rfl|hs
   ·exact hx
   ·exact CJ r h s hs
  ·cases h
def Fg(n:Nat):∀(l p:List (D aP)),jn n p l=0->∀y∈l,aJ y.1=0/\je 0 (n-1) y.2.1
 |[],_,_,s,h=>absurd h (by simp)
 |x :: r,p,h,s,hs=>by
  have hx:=cQ x.1;unfold jn at h;split at h
  ·omega
  ·split at h
   ·cases h
   ·rename_i h2
    split at h
    ·cases h
    ·rcases ah.1 hs with rfl|hs
     ·exact⟨by omega,aj.1 fun e=>h2 (.inl e),fu (dp.1 fun e=>h2 (.inr e))⟩
     ·exact Fg n r _ h s hs
def H9{n:Nat}{p:Option Int}{t:D aQ}(h:jS n p t=0) :
  je 0 (n-1) t.1/\eB t.2.2.1=true/\je 1 3 t.2.1/\(t.2.1=1->t.2.2.2.1=[]/\t.2.2.2.2.1=false)/\(t.2.1≠1->aJ t.2.2.2.1=0):=by
 unfold jS at h;split at h
 ·cases h
 ·rename_i h1
  split at h
  ·cases h
  ·rename_i h2
   refine⟨⟨aj.1 fun e=>h1 (.inl e),fu (dp.1 fun e=>h1 (.inr (.inl e)))⟩,?_,⟨aj.1 fun e=>h2 (.inl e),aj.1 fun e=>h2 (.inr (.inl e))⟩,?_,?_⟩
   ·cases hw:eB t.2.2.1 with
    |true=>rfl
    |false=>exact absurd (.inr (.inr hw)) h1
   ·intro e
    rw[if_pos e]at h;split at h
    ·cases h
    ·rename_i h3
     refine⟨au fun e=>h3 (.inl e),?_⟩;cases hb:t.2.2.2.2.1 with
     |false=>rfl
     |true=>exact absurd (.inr hb) h3
   ·intro e
    rw[if_neg e]at h;exact h
def xQ(n:Nat):∀(l:List (D aQ)) (p:Option Int),lF n p l=0->∀t∈l,∃p,jS n p t=0
 |[],_,_,s,h=>absurd h (by simp)
 |x :: r,p,h,s,hs=>by
  unfold lF at h;split at h
  ·rename_i h0;exact absurd h h0
  ·rename_i h0
   rcases ah.1 hs with rfl|hs
   ·exact⟨p,au h0⟩
   ·exact xQ n r _ h s hs
def Fh{s:aD}(h:aJ s=0):Nm s:=by
 unfold aJ at h;split at h
 ·cases h
 ·rename_i hl
  split at h
  ·cases h
  ·rename_i hb
   refine⟨by rintro rfl;simp at hl,by omega,fun c hc =>?_⟩;obtain⟨i,hi,rfl⟩:=ct hc;have hn:ko i (bR s i)=false:=by
    unfold wC at hb;rw[fv,db]at hb;have:=hb i (by simpa using hi);simpa using this
   have he:bR s i=s[i]:=by unfold bR;simp[hi]
   rw[he]at hn;constructor
   ·intro e;rw[e]at hn;unfold ko small other at hn;simp at hn
   ·intro e;rw[e]at hn;unfold ko small other at hn;simp at hn
def three{x:Int}(h:1<=x)(h':x<=3):x=1\/x=2\/x=3:=by omega
def iH{o:D aA}(h:cK o=0):lL o:=by
 unfold cK at h;split at h
 ·cases h
 ·rename_i hm
  split at h
  ·rename_i h1;exact absurd h h1
  ·rename_i h1
   split at h
   ·rename_i h2;exact absurd h h2
   ·rename_i h2
    split at h
    ·rename_i h3;exact absurd h h3
    ·rename_i h3
     have h1:=au h1;have h2:=au h2;have h3:=au h3;unfold gY at hm;have hw:o.2.1.length<=40:=b7.1 fun e=>hm (.inr (.inr (.inl e)))
     refine⟨b7.1 fun e=>hm (.inl e),b7.1 fun e=>hm (.inr (.inl e)),hw,b7.1 fun e=>hm (.inr (.inr (.inr (.inl e)))),b7.1 fun e=>hm (.inr (.inr (.inr (.inr e)))),
      fun s hs=>Fh (CI _ _ h1 s hs),fun n hn =>?_,fun y hy =>?_,fun t ht =>?_⟩
     ·have:=CJ _ h2 n hn
      unfold eB at this;simp only[ba,decide_eq_true_eq]at this;exact this
     ·obtain⟨a,b,c⟩:=Fg _ _ _ h3 y hy
      exact⟨Fh a,b,b8 c (by omega)⟩
     ·obtain⟨p,hp⟩:=xQ _ _ _ h t ht
      obtain⟨⟨a,b⟩,c,⟨d,e⟩,f,g⟩:=H9 hp;unfold eB at c;simp only[ba,decide_eq_true_eq]at c;exact⟨⟨a,b8 b (by omega)⟩,c,three d e,f,fun e=>Fh (g e)⟩
def dX{a b n:Int}(h:je a b n)(ha : -999999999999999999<=a)(hb:b<=999999999999999999):(ab n).length<=19:=by
 obtain⟨h0,h1⟩:=h;unfold ab;split
 ·rw[cw]
  have:=kf 17 n.natAbs (by omega);omega
 ·have:=kf 17 n.toNat (by omega)
  omega
def uX(b:Bool):(gx b).length<=5:=by cases b <;> decide
def U7{s:aD}(h:Nm s):(xP s).length<=64:=by have:=h.2.1;simp[xP];omega
def U8{n:Int}(h:je (-2147483648) 2147483647 n):(uW n).length<=64:=by have:=dX h (by decide) (by decide);simp[uW];omega
def YQ{y:D aP}(h:Nm y.1/\je 0 39 y.2.1):(AM y).length<=64:=by
 have h1:=dX h.2 (by decide) (by decide);have h2:=uX y.2.2.1;have h3:=h.1.2.1;simp[AM];omega
def YR{t:D aQ}(h:Ff t):(vH t).length<=64:=by
 have h1:=dX h.a (by decide) (by decide);have h4:=dX h.w (by decide) (by decide);have h2:=uX t.2.2.2.2.1;unfold vH;split
 ·simp;omega
 ·rename_i hk
  have h3:=(h.nm hk).2.1;split
  ·simp;omega
  ·simp;omega
def qu{α:Type}{f:α->aD}:∀{l:List α},(∀x∈l,(f x).length<=64)->(l.flatMap f).length<=64*l.length
 |[],_=>by simp
 |x :: r,h=>by
  have h1:=h x (by simp);have h2:=qu (f:=f) (l:=r) fun y hy=>h y (ck _ hy)
  rw[b9,az,cw];omega
def lL.Lz{o:D aA}(h:lL o)(i:Nat):(lY o i).length<=1000:=by
 have:=qu (f:=xP) (l:=o.1.take i) fun s hs=>U7 (h.Kd s (cn hs))
 have h2:=h.n4;unfold lY;simp only[bc]at this;omega
def lL.DM{o:D aA}(h:lL o)(i:Nat):(lh o i).length<=4000:=by
 have h0:=h.Lz o.1.length;have:=qu (f:=uW) (l:=o.2.1.take i) fun s hs=>U8 (h.words s (cn hs))
 have h2:=h.w40;unfold lh;rw[az];simp only[bc]at this;omega
def lL.acX{o:D aA}(h:lL o)(i:Nat):(jq o i).length<=5000:=by
 have h0:=h.DM o.2.1.length;have:=qu (f:=AM) (l:=o.2.2.1.take i) fun s hs=>YQ (h.syms s (cn hs))
 have h2:=h.s8;unfold jq;rw[az];simp only[bc]at this;omega
def lL.ad8{o:D aA}(h:lL o)(i:Nat):(fF o i).length<=6000:=by
 have h0:=h.acX o.2.2.1.length;have:=qu (f:=vH) (l:=o.2.2.2.1.take i) fun s hs=>YR (h.R0 s (cn hs))
 have h2:=h.t6;unfold fF;rw[az];simp only[bc]at this;omega
def lL.uj{o:D aA}(h:lL o){i:Nat}(hi:i<o.1.length):Nm (nth .str o.1 i):=h.Kd _ (eO (t:=.str) hi)
def lL.word{o:D aA}(h:lL o){i:Nat}(hi:i<o.2.1.length):je (-2147483648) 2147483647 (nth (.int .i64) o.2.1 i):=h.words _ (eO (t:=.int .i64) hi)
def lL.sym{o:D aA}(h:lL o){i:Nat}(hi:i<o.2.2.1.length):Nm (nth aP o.2.2.1 i).1/\je 0 39 (nth aP o.2.2.1 i).2.1:=h.syms _ (eO (t:=aP) hi)
def lL.tie{o:D aA}(h:lL o){i:Nat}(hi:i<o.2.2.2.1.length):Ff (nth aQ o.2.2.2.1 i):=h.R0 _ (eO (t:=aQ) hi)
def Ok(a b:aD):bT a++bT b=bT (a++b):=by simp[bT]
def CK(a:aD):(bT a).length=a.length:=by simp[bT]
def AP{o:D aA}(h:lL o){i:Nat}(hi:i<o.1.length):(nth .str o.1 i).length<=8/\(lY o i).length<=1000:=⟨(h.uj hi).2.1,h.Lz i⟩
def AQ{o:D aA}(h:lL o){i:Nat}(hi:i<o.2.1.length):(ab (nth (.int .i64) o.2.1 i)).length<=19/\(lh o i).length<=4000:=
 ⟨dX (h.word hi) (by decide) (by decide),h.DM i⟩
def DN{o:D aA}(h:lL o){i:Nat}(hi:i<o.2.2.1.length) :
  (nth aP o.2.2.1 i).1.length<=8/\(ab (nth aP o.2.2.1 i).2.1).length<=19/\(gx (nth aP o.2.2.1 i).2.2.1).length<=5/\(jq o i).length<=5000:=
 ⟨(h.sym hi).1.2.1,dX (h.sym hi).2 (by decide) (by decide),uX _,h.acX i⟩
def DO{o:D aA}(h:lL o){i:Nat}(hi:i<o.2.2.2.1.length) :
  (nth aQ o.2.2.2.1 i).2.2.2.1.length<=8/\(ab (nth aQ o.2.2.2.1 i).1).length<=19/\(ab (nth aQ o.2.2.2.1 i).2.2.1).length<=19/\(gx (nth aQ o.2.2.2.1 i).2.2.2.2.1).length<=5/\(fF o i).length<=6000:=by
 have ht:=h.tie hi;refine⟨?_,dX ht.a (by decide) (by decide),dX ht.w (by decide) (by decide),uX _,h.ad8 i⟩;by_cases hk:(nth aQ o.2.2.2.1 i).2.1=1
 ·rw[(ht.base hk).1];decide
 ·exact(ht.nm hk).2.1
def qv{p p' q:aD}{a b:Int}(h:p'=p++q):(((bT p++bT q,a,b,()):D me))=((bT p',a,b,()):D me):=by rw[h,Ok]
def DP{p p':aD}{a b:Int}(h:p=p'):((bT p,a,b,()):D me)=((bT p',a,b,()):D me):=by rw[h]
def Fi{o:D aA}{i:Nat}(h:i<o.2.2.2.1.length)(hk:(nth aQ o.2.2.2.1 i).2.1=1) :
  fF o (i+1)=fF o i++([98,97,115,101,32]++ab (nth aQ o.2.2.2.1 i).1++[32]++ab (nth aQ o.2.2.2.1 i).2.2.1++[10]):=by
 rw[AO h];unfold vH;rw[if_pos hk]
def xR{o:D aA}{i:Nat}(h:i<o.2.2.2.1.length)(hk:¬(nth aQ o.2.2.2.1 i).2.1=1)(hk2:(nth aQ o.2.2.2.1 i).2.1=2) :
  fF o (i+1)=fF o i++(gx (nth aQ o.2.2.2.1 i).2.2.2.2.1++[119,104,111,108,101,32]++ab (nth aQ o.2.2.2.1 i).1++[32]++ab (nth aQ o.2.2.2.1 i).2.2.1++[32]++(nth aQ o.2.2.2.1 i).2.2.2.1++[10]):=by
 rw[AO h];unfold vH;rw[if_neg hk,if_pos hk2]
def xS{o:D aA}{i:Nat}(h:i<o.2.2.2.1.length)(hk:¬(nth aQ o.2.2.2.1 i).2.1=1)(hk2:¬(nth aQ o.2.2.2.1 i).2.1=2) :
  fF o (i+1)=fF o i++(gx (nth aQ o.2.2.2.1 i).2.2.2.2.1++[110,101,97,114,32]++ab (nth aQ o.2.2.2.1 i).1++[32]++ab (nth aQ o.2.2.2.1 i).2.2.1++[32]++(nth aQ o.2.2.2.1 i).2.2.2.1++[10]):=by
 rw[AO h];unfold vH;rw[if_neg hk,if_neg hk2]
def Ia{o:D aA}(h:cK o≠0):l9 o=([],aL (cK o)):=by unfold l9;rw[if_pos h]
def Fj{o:D aA}(h:cK o=0){i:Nat}(hi:i=o.2.2.2.1.length)(hl:(fF o i).length > 1200):l9 o=([],.no 2):=by
 unfold l9;rw[if_neg (by rw[h];decide),if_pos (by unfold fN;rw[<-hi];exact hl)]
def xT{o:D aA}(h:cK o=0){i:Nat}(hi:i=o.2.2.2.1.length)(hl:(fF o i).length<=1200):l9 o=(fF o i,.nil):=by
 unfold l9;rw[if_neg (by rw[h];decide),if_neg (by unfold fN;rw[<-hi];omega)];unfold fN;rw[<-hi]
def mE(o:D aA):aD×Int:=if(fN o).length > 1200 then([],2)else(fN o,0)
def Fk{o:D aA}{i:Nat}(hi:i=o.2.2.2.1.length)(hl:(fF o i).length > 1200):mE o=([],2):=by
 unfold mE;rw[if_pos (by unfold fN;rw[<-hi];exact hl)]
def xU{o:D aA}{i:Nat}(hi:i=o.2.2.2.1.length)(hl:(fF o i).length<=1200):mE o=(fF o i,0):=by
 unfold mE;rw[if_neg (by unfold fN;rw[<-hi];omega)];unfold fN;rw[<-hi]
@[reducible] def LA:List aD:=[[],[98,97,115,101],[119,104,111,108,101],[110,101,97,114]]
def YS:∀i:Nat,(nth .str [[],[98,97,115,101],[119,104,111,108,101],[110,101,97,114]] i).length<=5
 |0=>by decide
 |1=>by decide
 |2=>by decide
 |3=>by decide
 |n+4=>by show([]:aD).length<=5;decide
def lL.kind{o:D aA}(h:lL o){i:Nat}(hi:i<o.2.2.2.1.length):je 1 3 (nth aQ o.2.2.2.1 i).2.1:=by
 rcases(h.tie hi).k with e|e|e <;> rw[e] <;> exact⟨by decide,by decide⟩
def acY{o:D aA}{i:Nat}(hi:i<o.2.2.2.1.length)(h:lL o)(hw:(nth aQ o.2.2.2.1 i).2.2.2.2.1=true)(hk:(nth aQ o.2.2.2.1 i).2.1≠1) :
  fF o i++[119,101,97,107,32]++nth .str LA (ay (nth aQ o.2.2.2.1 i).2.1)++[32]++ab (nth aQ o.2.2.2.1 i).1++[32]++ab (nth aQ o.2.2.2.1 i).2.2.1++[32]++(nth aQ o.2.2.2.1 i).2.2.2.1++[10]=fF o (i+1):=by
 rcases(h.tie hi).k with e|e|e
 ·exact absurd e hk
 ·rw[xR hi hk e,hw,e];simp[gx,nth]
 ·rw[xS hi hk (by rw[e];decide),hw,e];simp[gx,nth]
def acZ{o:D aA}{i:Nat}(hi:i<o.2.2.2.1.length)(h:lL o)(hw:(nth aQ o.2.2.2.1 i).2.2.2.2.1=false)(hk:(nth aQ o.2.2.2.1 i).2.1≠1) :
  fF o i++nth .str LA (ay (nth aQ o.2.2.2.1 i).2.1)++[32]++ab (nth aQ o.2.2.2.1 i).1++[32]++ab (nth aQ o.2.2.2.1 i).2.2.1++[32]++(nth aQ o.2.2.2.1 i).2.2.2.1++[10]=fF o (i+1):=by
 rcases(h.tie hi).k with e|e|e
 ·exact absurd e hk
 ·rw[xR hi hk e,hw,e];simp[gx,nth]
 ·rw[xS hi hk (by rw[e];decide),hw,e];simp[gx,nth]
def ac0{o:D aA}{i:Nat}(hi:i<o.2.2.2.1.length)(hk:(nth aQ o.2.2.2.1 i).2.1=1) :
  fF o i++nth .str LA (ay (nth aQ o.2.2.2.1 i).2.1)++[32]++ab (nth aQ o.2.2.2.1 i).1++[32]++ab (nth aQ o.2.2.2.1 i).2.2.1++[10]=fF o (i+1):=by
 rw[Fi hi hk,hk];simp[nth]
def ac1{o:D aA}{i:Nat}(hi:i<o.2.2.1.length)(hw:(nth aP o.2.2.1 i).2.2.1=true) :
  jq o i++[119,101,97,107,32]++[115,121,109,98,111,108,32]++(nth aP o.2.2.1 i).1++[32]++ab (nth aP o.2.2.1 i).2.1++[10]=jq o (i+1):=by
 rw[AN hi];unfold AM;rw[hw];simp[gx]
def ac2{o:D aA}{i:Nat}(hi:i<o.2.2.1.length)(hw:(nth aP o.2.2.1 i).2.2.1=false) :
  jq o i++[115,121,109,98,111,108,32]++(nth aP o.2.2.1 i).1++[32]++ab (nth aP o.2.2.1 i).2.1++[10]=jq o (i+1):=by
 rw[AN hi];unfold AM;rw[hw];simp[gx]
def adJ{o:D aA}{i:Nat}(hi:i<o.1.length):lY o i++[110,101,101,100,32]++nth .str o.1 i++[10]=lY o (i+1):=by
 rw[H4 hi];unfold xP;simp
def adK{o:D aA}{i:Nat}(hi:i<o.2.1.length):lh o i++[119,111,114,100,32]++ab (nth (.int .i64) o.2.1 i)++[10]=lh o (i+1):=by
 rw[H5 hi];unfold uW;simp
def P9{x:Int}(h:x > 1):x≠1:=by omega
def U9{x:Int}(h:¬x > 1)(h':je 1 3 x):x=1:=by obtain⟨a,b⟩:=h';omega
@[reducible] def pB:aD:=[119,101,97,107]
@[reducible] def eU:aD:=[119,101,97,107,32]
@[reducible] def iq:aD:=[110,101,101,100]
@[reducible] def ie:aD:=[119,111,114,100]
@[reducible] def fS:aD:=[115,121,109,98,111,108]
@[reducible] def ku:aD:=[98,97,115,101]
@[reducible] def iI:aD:=[119,104,111,108,101]
@[reducible] def jE:aD:=[110,101,97,114]
def ni(o:D aA)(s:aD):D aA:=(o.1++[s],o.2)
def nj(o:D aA)(n:Int):D aA:=(o.1,o.2.1++[n],o.2.2)
def ri(o:D aA)(y:D aP):D aA:=(o.1,o.2.1,o.2.2.1++[y],o.2.2.2)
def lu(o:D aA)(t:D aQ):D aA:=(o.1,o.2.1,o.2.2.1,o.2.2.2.1++[t],())
def DQ(x y:aD)(k:Int->Int->D aA):Option (D aA):=
 match dK x,dK y with
 |some m,some n=>some (k m n)
 |_,_=>none
def o3(o:D aA)(b:Bool):List aD->Option (D aA)
 |[a,x]=>if a=iq then some (ni o x)else if a=ie then(dK x).map (nj o)else none
 |[a,x,y]=>if a=fS then(dK y).map fun n=>ri o (x,n,b,())else if a=ku then DQ x y fun m n=>lu o (m,1,n,[],false,())else none
 |[a,x,y,z]=>if a=iI\/a=jE then DQ x y fun m n=>lu o (m,if a=jE then 3 else 2,n,z,b,())else none
 |_=>none
def rj(o:D aA)(s:aD):Option (D aA):=o3 o (ax s eU) (parts 32 (a7 s eU))
def oz(x:aD):Int:=(oy x).getD (-1099511627776)
def jy(o:D aA)(b:Bool):List aD->Option (D aA)
 |[a,x]=>if a=iq then some (ni o x)else if a=ie then some (nj o (oz x))else none
 |[a,x,y]=>if a=fS then some (ri o (x,oz y,b,()))else if a=ku then some (lu o (oz x,1,oz y,[],b,()))else none
 |[a,x,y,z]=>if a=iI then some (lu o (oz x,2,oz y,z,b,()))else if a=jE then some (lu o (oz x,3,oz y,z,b,()))else none
 |_=>none
def BV(l:List aD):Bool:=decide (l.headD []=pB)
def Fl(l:List aD):List aD:=if BV l=true then l.drop 1 else l
def ma(o:D aA)(s:aD):Option (D aA):=jy o (BV (parts 32 s)) (Fl (parts 32 s))
def run(f:D aA->aD->Option (D aA)):D aA->List aD->Option (D aA)
 |o,[]=>some o
 |o,s :: r=>match f o s with
  |some p=>run f p r
  |none=>none
def DR{f:D aA->aD->Option (D aA)}:∀{l:List aD} {o:D aA} {s:aD},run f o (l++[s])=(run f o l).bind fun p=>f p s
 |[],o,s=>by simp only[fq,run,et];cases f o s <;> rfl
 |x :: r,o,s=>by
  simp only[dn,run];cases f o x with
  |none=>rfl
  |some p=>exact DR
def wJ{f:D aA->aD->Option (D aA)}:∀{l m:List aD} {o p:D aA},run f o l=some p->run f o (l++m)=run f p m
 |[],m,o,p,h=>by simp only[run,ep]at h;rw[h];rfl
 |x :: r,m,o,p,h=>by
  simp only[run]at h;simp only[dn,run];cases hx:f o x with
  |none=>rw[hx]at h;cases h
  |some q=>rw[hx]at h;exact wJ h
def oF(s:aD):aD:=[110,101,101,100,32]++s
def oG(n:Int):aD:=[119,111,114,100,32]++ab n
def DS(y:D aP):aD:=gx y.2.2.1++([115,121,109,98,111,108,32]++(y.1++32 :: ab y.2.1))
def xV(t:D aQ):aD:=
 if t.2.1=1 then[98,97,115,101,32]++(ab t.1++32 :: ab t.2.2.1)
 else if t.2.1=2 then gx t.2.2.2.2.1++([119,104,111,108,101,32]++(ab t.1++32 :: (ab t.2.2.1++32 :: t.2.2.2.1)))
 else gx t.2.2.2.2.1++([110,101,97,114,32]++(ab t.1++32 :: (ab t.2.2.1++32 :: t.2.2.2.1)))
def rk(o:D aA):List aD:=o.1.map oF++(o.2.1.map oG++(o.2.2.1.map DS++o.2.2.2.1.map xV))
def uk{α:Type}{f g:α->aD}(h:∀x,f x=g x++[10]):∀l:List α,l.flatMap f=nh 10 (l.map g)
 |[]=>rfl
 |x :: r=>by rw[b9,uk h r,aq,AJ,h];simp
def DT(c:UInt8)(l m:List aD):nh c (l++m)=nh c l++nh c m:=by simp[nh]
def CL(o:D aA):fN o=nh 10 (rk o):=by
 unfold fN fF jq lh lY rk;rw[cj,cj,cj,cj,DT,DT,DT,
  uk (g:=oF) (fun s=>by simp[xP,oF]) o.1,uk (g:=oG) (fun s=>by simp[uW,oG]) o.2.1,
  uk (g:=DS) (fun s=>by simp[AM,DS]) o.2.2.1,
  uk (g:=xV) (fun s=>by unfold vH xV;split <;> (try split) <;> simp) o.2.2.2.1]
 simp
structure Reads (f:D aA->aD->Option (D aA)):Prop where
 uj:∀(o:D aA) (s:aD),Nm s->f o (oF s)=some (ni o s)
 word:∀(o:D aA) (n:Int),je (-2147483648) 2147483647 n->f o (oG n)=some (nj o n)
 sym:∀(o:D aA) (y:D aP),Nm y.1->je 0 39 y.2.1->f o (DS y)=some (ri o y)
 tie:∀(o:D aA) (t:D aQ),Ff t->f o (xV t)=some (lu o t)
section
variable{f:D aA->aD->Option (D aA)}(h:Reads f)
include h
def Ib:∀(l:List aD) (o:D aA),(∀s∈l,Nm s)->run f o (l.map oF)=some (o.1++l,o.2)
 |[],o,_=>by simp[run]
 |s :: r,o,hl=>by
  rw[aq,run,h.uj o s (hl s (by simp))];show run f (ni o s) (r.map oF)=_;rw[Ib r _ fun x hx=>hl x (ck _ hx)];simp[ni]
def Ic:∀(l:List Int) (o:D aA),(∀n∈l,je (-2147483648) 2147483647 n)->run f o (l.map oG)=some (o.1,o.2.1++l,o.2.2)
 |[],o,_=>by simp[run]
 |s :: r,o,hl=>by
  rw[aq,run,h.word o s (hl s (by simp))];show run f (nj o s) (r.map oG)=_;rw[Ic r _ fun x hx=>hl x (ck _ hx)];simp[nj]
def LB:∀(l:List (D aP)) (o:D aA),(∀y∈l,Nm y.1/\je 0 39 y.2.1)->run f o (l.map DS)=some (o.1,o.2.1,o.2.2.1++l,o.2.2.2)
 |[],o,_=>by simp[run]
 |s :: r,o,hl=>by
  rw[aq,run,h.sym o s (hl s (by simp)).1 (hl s (by simp)).2];show run f (ri o s) (r.map DS)=_;rw[LB r _ fun x hx=>hl x (ck _ hx)];simp[ri]
def LC:∀(l:List (D aQ)) (o:D aA),(∀t∈l,Ff t)->run f o (l.map xV)=some (o.1,o.2.1,o.2.2.1,o.2.2.2.1++l,())
 |[],o,_=>by simp[run]
 |s :: r,o,hl=>by
  rw[aq,run,h.tie o s (hl s (by simp))];show run f (lu o s) (r.map xV)=_;rw[LC r _ fun x hx=>hl x (ck _ hx)];simp[lu]
def Ie{o:D aA}(ok:lL o):run f (cB aA) (rk o)=some o:=by
 unfold rk;rw[wJ (Ib h o.1 _ ok.Kd),wJ (Ic h o.2.1 _ ok.words),wJ (LB h o.2.2.1 _ ok.syms),LC h o.2.2.2.1 _ ok.R0];rfl
end
def Fm{a:UInt8}{s:aD}(h:a≠119):ax (a :: s) eU=false:=by
 unfold ax eU;simp[dj];intro e;exact absurd e.symm h
def abq{s:aD}(h:ax s eU=false):a7 s eU=s:=by unfold a7;rw[if_neg (by rw[h];decide)]
def Qa(s:aD):ax (eU++s) eU=true:=by unfold ax eU;simp[dj]
def YT(s:aD):a7 (eU++s) eU=s:=by unfold a7;rw[if_pos (Qa s)];rfl
def Qb{a b:UInt8}{s:aD}(h:b≠101):ax (a :: b :: s) eU=false:=by
 unfold ax eU;simp[dj];intro _ e;exact absurd e.symm h
def pC(o:D aA)(b:Bool)(s:aD)(h:ax s eU=false):rj o (gx b++s)=o3 o b (parts 32 s):=by
 unfold rj;cases b with
 |false=>show o3 o (ax s eU) (parts 32 (a7 s eU))=_;rw[h,abq h]
 |true=>show o3 o (ax (eU++s) eU) (parts 32 (a7 (eU++s) eU))=_;rw[Qa,YT]
def pD(o:D aA)(b:Bool)(s:aD)(h:BV (parts 32 s)=false):ma o (gx b++s)=jy o b (parts 32 s):=by
 unfold ma;cases b with
 |false=>show jy o (BV (parts 32 s)) (Fl (parts 32 s))=_;unfold Fl;rw[h,if_neg (by decide)]
 |true=>
  have e:parts 32 (gx true++s)=pB :: parts 32 s:=ij (x:=pB) (by decide);rw[e];rfl
def pE{s:aD}(h:Nm s):(32:UInt8)∉s/\(10:UInt8)∉s:=⟨fun hc=>(h.2.2 _ hc).2 rfl,fun hc=>(h.2.2 _ hc).1 rfl⟩
def lj(n:Int):(32:UInt8)∉ab n:=HZ (by decide)
def o4(n:Int):(10:UInt8)∉ab n:=HZ (by decide)
def xW{s:aD}(h:Nm s):parts 32 (oF s)=[iq,s]:=by
 show parts 32 (iq++32 :: s)=_;rw[ij (by decide),mB (pE h).1]
def xX(n:Int):parts 32 (oG n)=[ie,ab n]:=by
 show parts 32 (ie++32 :: ab n)=_;rw[ij (by decide),mB (lj n)]
def AR{s:aD}{n:Int}(h:Nm s):parts 32 ([115,121,109,98,111,108,32]++(s++32 :: ab n))=[fS,s,ab n]:=by
 show parts 32 (fS++32 :: (s++32 :: ab n))=_;rw[ij (by decide),ij (pE h).1,mB (lj n)]
def xY(m n:Int):parts 32 ([98,97,115,101,32]++(ab m++32 :: ab n))=[ku,ab m,ab n]:=by
 show parts 32 (ku++32 :: (ab m++32 :: ab n))=_;rw[ij (by decide),ij (lj m),mB (lj n)]
def vI{s:aD}(m n:Int)(h:Nm s):parts 32 ([119,104,111,108,101,32]++(ab m++32 :: (ab n++32 :: s)))=[iI,ab m,ab n,s]:=by
 show parts 32 (iI++32 :: (ab m++32 :: (ab n++32 :: s)))=_;rw[ij (by decide),ij (lj m),ij (lj n),mB (pE h).1]
def xZ{s:aD}(m n:Int)(h:Nm s):parts 32 ([110,101,97,114,32]++(ab m++32 :: (ab n++32 :: s)))=[jE,ab m,ab n,s]:=by
 show parts 32 (jE++32 :: (ab m++32 :: (ab n++32 :: s)))=_;rw[ij (by decide),ij (lj m),ij (lj n),mB (pE h).1]
def tA{a b n:Int}(h:je a b n)(ha : -9223372036854775808<=a)(hb:b<=9223372036854775807):dK (ab n)=some n:=U5 (b8 ha h.1) (b8 h.2 hb)
def BW{a b n:Int}(h:je a b n)(ha : -999999999999999999<=a)(hb:b<=999999999999999999):oz (ab n)=n:=by
 unfold oz;rw[U6 (b8 ha h.1) (b8 h.2 hb)];rfl
def ac3:Reads rj where
 uj o s h:=by
  have:=pC o false (oF s) (Fm (by decide));rw[show gx false++oF s=oF s from rfl,xW h]at this;exact this
 word o n h:=by
  have:=pC o false (oG n) (Qb (by decide));rw[show gx false++oG n=oG n from rfl,xX]at this;rw[this];show(if ie=iq then some (ni o (ab n))else if ie=ie then(dK (ab n)).map (nj o)else none)=_;rw[if_neg (by decide),if_pos rfl,tA h (by decide) (by decide)];rfl
 sym o y h h':=by
  have:=pC o y.2.2.1 ([115,121,109,98,111,108,32]++(y.1++32 :: ab y.2.1)) (Fm (by decide));rw[AR h]at this;refine Eq.trans this ?_;dsimp only[o3];rw[if_pos rfl,tA h' (by decide) (by decide)];rfl
 tie o t h:=by
  obtain⟨at',k,ad,nm,b,_⟩:=t;have ha:=tA h.a (by decide) (by decide);have hw:=tA h.w (by decide) (by decide);simp only at ha hw;unfold xV;rcases h.k with e|e|e
  ·have hb:=h.base e
   simp only at e hb;obtain⟨rfl,rfl⟩:=hb;subst e;rw[if_pos rfl];have:=pC o false ([98,97,115,101,32]++(ab at'++32 :: ab ad)) (Fm (by decide));rw[xY]at this;refine this.trans ?_;dsimp only[o3];rw[if_neg (by decide),if_pos rfl];unfold DQ;rw[ha,hw]
  ·have hn:=h.nm (by rw[show _=_ from e];decide)
   simp only at e hn;subst e;rw[if_neg (by simp),if_pos rfl];have:=pC o b ([119,104,111,108,101,32]++(ab at'++32 :: (ab ad++32 :: nm))) (Qb (by decide));rw[vI _ _ hn]at this;refine this.trans ?_;dsimp only[o3];rw[if_pos (.inl rfl),if_neg (by decide)];unfold DQ;rw[ha,hw]
  ·have hn:=h.nm (by rw[show _=_ from e];decide)
   simp only at e hn;subst e;rw[if_neg (by simp),if_neg (by simp)];have:=pC o b ([110,101,97,114,32]++(ab at'++32 :: (ab ad++32 :: nm))) (Fm (by decide));rw[xZ _ _ hn]at this;refine this.trans ?_;dsimp only[o3];rw[if_pos (.inr rfl),if_pos rfl];unfold DQ;rw[ha,hw]
def ac4:Reads ma where
 uj o s h:=by
  have:=pD o false (oF s) (by rw[xW h];rfl);rw[show gx false++oF s=oF s from rfl,xW h]at this;exact this
 word o n h:=by
  have:=pD o false (oG n) (by rw[xX];rfl);rw[show gx false++oG n=oG n from rfl,xX]at this;rw[this];show(if ie=iq then some (ni o (ab n))else if ie=ie then some (nj o (oz (ab n)))else none)=_;rw[if_neg (by decide),if_pos rfl,BW h (by decide) (by decide)]
 sym o y h h':=by
  have:=pD o y.2.2.1 ([115,121,109,98,111,108,32]++(y.1++32 :: ab y.2.1)) (by rw[AR h];rfl);rw[AR h]at this;refine Eq.trans this ?_;dsimp only[jy];rw[if_pos rfl,BW h' (by decide) (by decide)]
 tie o t h:=by
  obtain⟨at',k,ad,nm,b,_⟩:=t;have ha:=BW h.a (by decide) (by decide);have hw:=BW h.w (by decide) (by decide);simp only at ha hw;unfold xV;rcases h.k with e|e|e
  ·have hb:=h.base e
   simp only at e hb;obtain⟨rfl,rfl⟩:=hb;subst e;rw[if_pos rfl];have:=pD o false ([98,97,115,101,32]++(ab at'++32 :: ab ad)) (by rw[xY];rfl);rw[xY]at this;refine this.trans ?_;dsimp only[jy];rw[if_neg (by decide),if_pos rfl,ha,hw]
  ·have hn:=h.nm (by rw[show _=_ from e];decide)
   simp only at e hn;subst e;rw[if_neg (by simp),if_pos rfl];have:=pD o b ([119,104,111,108,101,32]++(ab at'++32 :: (ab ad++32 :: nm))) (by rw[vI _ _ hn];rfl);rw[vI _ _ hn]at this;refine this.trans ?_;dsimp only[jy];rw[if_pos rfl,ha,hw]
  ·have hn:=h.nm (by rw[show _=_ from e];decide)
   simp only at e hn;subst e;rw[if_neg (by simp),if_neg (by simp)];have:=pD o b ([110,101,97,114,32]++(ab at'++32 :: (ab ad++32 :: nm))) (by rw[xZ _ _ hn];rfl);rw[xZ _ _ hn]at this;refine this.trans ?_;dsimp only[jy];rw[if_neg (by decide),if_pos rfl,ha,hw]
def Fo{o:D aA}(h:lL o):∀l∈rk o,(10:UInt8)∉l:=by
 intro l hl;unfold rk at hl;simp only[bb,bp]at hl;have hw:∀b,(10:UInt8)∉gx b:=by intro b;cases b <;> decide
 rcases hl with⟨s,hs,rfl⟩|⟨n,hn,rfl⟩|⟨y,hy,rfl⟩|⟨t,ht,rfl⟩
 ·have:=(pE (h.Kd s hs)).2
  unfold oF;simp[this]
 ·have:=o4 n
  unfold oG;simp[this]
 ·have h1:=(pE (h.syms y hy).1).2
  have h2:=o4 y.2.1;have h3:=hw y.2.2.1;unfold DS;simp[h1,h2,h3]
 ·have h1:=o4 t.1
  have h2:=o4 t.2.2.1;have h3:=hw t.2.2.2.2.1;unfold xV;split
  ·simp[h1,h2]
  ·rename_i hk
   have h4:=(pE ((h.R0 t ht).nm hk)).2;split <;> simp[h1,h2,h3,h4]
def YU{o:D aA}(h:lL o):rk o≠[]:=by
 have h1:=h.w1;unfold rk;intro e;simp only[List.append_eq_nil_iff,List.map_eq_nil_iff]at e;rw[e.2.1]at h1;simp at h1
def R1(s:aD):Option (D aA):=run rj (cB aA) (parts 10 (ae s [10]))
def uY{o:D aA}(h:cK o=0):R1 (fN o)=some o:=by
 have ok:=iH h;unfold R1;rw[CL,RZ (YU ok) (Fo ok),Ie ac3 ok]
def Va{o p:D aA}(h:cK o=0)(h':cK p=0)(e:fN o=fN p):o=p:=by
 have a:=uY h;rw[e,uY h']at a;exact(de a).symm
open Classical in
def cF(s:aD):D aA×Int:=
 if s.length > 1200 then(cB aA,2)
 else if h:∃o:D aA,cK o=0/\fN o=s then(cr h,0)else(cB aA,4)
def AS{s:aD}(h:s.length > 1200):cF s=(cB aA,2):=by unfold cF;rw[if_pos h]
def BX{s:aD}{o:D aA}(h:¬s.length > 1200)(hf:cK o=0)(ht:fN o=s):cF s=(o,0):=by
 have hx:∃o:D aA,cK o=0/\fN o=s:=⟨o,hf,ht⟩
 have hc:=dt hx;unfold cF;rw[if_neg h,dif_pos hx,Va hc.1 hf (hc.2.trans ht.symm)]
def rP{s:aD}(h:¬s.length > 1200)(hn:∀o:D aA,cK o=0->fN o≠s):cF s=(cB aA,4):=by
 unfold cF;rw[if_neg h,dif_neg fun⟨o,h1,h2⟩=>hn o h1 h2]
def R2{s:aD}(h:¬s.length > 1200)(hr:R1 s=none):cF s=(cB aA,4):=
 rP h fun o h1 h2=>by rw[<-h2,uY h1]at hr;cases hr
def Fp{s:aD}{o:D aA}(h:¬s.length > 1200)(hr:R1 s=some o)(hb:cK o=0->fN o≠s):cF s=(cB aA,4):=
 rP h fun p h1 h2=>by
  have:p=o:=by rw[<-h2,uY h1]at hr;exact de hr
  rw[this]at h1 h2;exact hb h1 h2
def vJ(s:aD):List aD×Bool:=((parts 10 s).dropLast,decide ((parts 10 s).getLastD []=[]))
def Qc{s x:aD}{L:List aD}(h:∀y∈L,(10:UInt8)∉y)(hx:(10:UInt8)∉x)(e:nh 10 L++x=s):vJ s=(L,decide (x=[])):=by
 unfold vJ;rw[<-e,xO h hx];simp
def R3(s:aD):Option (D aA):=run ma (cB aA) (vJ s).1
def Ig{o:D aA}(h:cK o=0):vJ (fN o)=(rk o,true):=by
 have ok:=iH h;rw[Qc (x:=[]) (Fo ok) (by simp) (by rw[CL];simp)];rfl
def Ih{o:D aA}(h:cK o=0):R3 (fN o)=some o:=by
 unfold R3;rw[Ig h,Ie ac4 (iH h)]
def Vb{s:aD}(h:¬s.length > 1200)(hr:(vJ s).2=false):cF s=(cB aA,4):=
 rP h fun o h1 h2=>by rw[<-h2,Ig h1]at hr;cases hr
def R4{s:aD}(h:¬s.length > 1200)(hr:R3 s=none):cF s=(cB aA,4):=
 rP h fun o h1 h2=>by rw[<-h2,Ih h1]at hr;cases hr
def R5{s:aD}{o:D aA}(h:¬s.length > 1200)(hr:R3 s=some o)(hb:cK o=0->fN o≠s):cF s=(cB aA,4):=
 rP h fun p h1 h2=>by
  have:p=o:=by rw[<-h2,Ih h1]at hr;exact de hr
  rw[this]at h1 h2;exact hb h1 h2
def iz(o:D aA)(b:Bool)(s:aD):D aA×Bool:=
 let w:=parts 32 (a7 s eU)
 if nth .str w 0=iq/\w.length=2 then(ni o (nth .str w 1),b)
 else if nth .str w 0=ie/\w.length=2 then(nj o (eX (nth .str w 1)).1,b || (dK (nth .str w 1)).isNone)
 else if nth .str w 0=fS/\w.length=3 then(ri o (nth .str w 1,(eX (nth .str w 2)).1,ax s eU,()),b || (dK (nth .str w 2)).isNone)
 else if nth .str w 0=ku/\w.length=3 then(lu o ((eX (nth .str w 1)).1,1,(eX (nth .str w 2)).1,[],false,()),(b || (dK (nth .str w 1)).isNone) || (dK (nth .str w 2)).isNone)
 else if(nth .str w 0=iI\/nth .str w 0=jE)/\w.length=4 then
  (lu o ((eX (nth .str w 1)).1,if nth .str w 0=jE then 3 else 2,(eX (nth .str w 2)).1,nth .str w 3,ax s eU,()),(b || (dK (nth .str w 1)).isNone) || (dK (nth .str w 2)).isNone)
 else(o,true)
def o5{s:aD}{n:Int}(h:dK s=some n):(eX s).1=n:=by
 unfold dK at h;unfold eX;cases ha:cm s with
 |ok v=>rw[ha]at h;simp only at h ⊢;split at h <;> simp_all
 |range=>rw[ha]at h;cases h
 |_=>rw[ha]at h;cases h
def R6(o:D aA)(b:Bool)(s:aD):(∃p,rj o s=some p/\iz o b s=(p,b))\/(rj o s=none/\(iz o b s).2=true):=by
 unfold rj iz;generalize hw:parts 32 (a7 s eU)=w;generalize ax s eU=k;have hne:=ug 32 (a7 s eU);rw[hw]at hne
 match w,hne with
 |[],hne=>exact absurd rfl hne
 |[a],_=>exact .inr ⟨rfl,by simp⟩
 |[a,x],_=>
  dsimp only[o3];simp only[show nth .str [a,x] 0=a from rfl,show nth .str [a,x] 1=x from rfl];by_cases h1:a=iq
  ·rw[if_pos h1,if_pos (show(a=iq)/\[a,x].length=2 from⟨h1,rfl⟩)];exact .inl ⟨_,rfl,rfl⟩
  ·rw[if_neg h1,if_neg (show ¬((a=iq)/\[a,x].length=2)from fun e=>h1 e.1)]
   by_cases h2:a=ie
   ·rw[if_pos h2,if_pos (show(a=ie)/\[a,x].length=2 from⟨h2,rfl⟩)]
    cases hn:dK x with
    |none=>exact .inr ⟨rfl,by simp⟩
    |some n=>exact .inl ⟨_,rfl,by rw[o5 hn];simp⟩
   ·rw[if_neg h2,if_neg (show ¬((a=ie)/\[a,x].length=2)from fun e=>h2 e.1),if_neg (show ¬((a=fS)/\[a,x].length=3)from fun e=>absurd e.2 (by simp)),if_neg (show ¬((a=ku)/\[a,x].length=3)from fun e=>absurd e.2 (by simp)),if_neg (show ¬((a=iI\/a=jE)/\[a,x].length=4)from fun e=>absurd e.2 (by simp))];exact .inr ⟨rfl,rfl⟩
 |[a,x,y],_=>
  dsimp only[o3];simp only[show nth .str [a,x,y] 0=a from rfl,show nth .str [a,x,y] 1=x from rfl,show nth .str [a,x,y] 2=y from rfl];rw[if_neg (show ¬((a=iq)/\[a,x,y].length=2)from fun e=>absurd e.2 (by simp)),if_neg (show ¬((a=ie)/\[a,x,y].length=2)from fun e=>absurd e.2 (by simp))];by_cases h1:a=fS
  ·rw[if_pos h1,if_pos (show(a=fS)/\[a,x,y].length=3 from⟨h1,rfl⟩)]
   cases hn:dK y with
   |none=>exact .inr ⟨rfl,by simp⟩
   |some n=>exact .inl ⟨_,rfl,by rw[o5 hn];simp⟩
  ·rw[if_neg h1,if_neg (show ¬((a=fS)/\[a,x,y].length=3)from fun e=>h1 e.1)]
   by_cases h2:a=ku
   ·rw[if_pos h2,if_pos (show(a=ku)/\[a,x,y].length=3 from⟨h2,rfl⟩)]
    unfold DQ;cases hm:dK x with
    |none=>exact .inr ⟨rfl,by simp⟩
    |some m=>
     cases hn:dK y with
     |none=>exact .inr ⟨rfl,by simp⟩
     |some n=>exact .inl ⟨_,rfl,by rw[o5 hn,o5 hm];simp⟩
   ·rw[if_neg h2,if_neg (show ¬((a=ku)/\[a,x,y].length=3)from fun e=>h2 e.1),if_neg (show ¬((a=iI\/a=jE)/\[a,x,y].length=4)from fun e=>absurd e.2 (by simp))];exact .inr ⟨rfl,rfl⟩
 |[a,x,y,z],_=>
  dsimp only[o3];simp only[show nth .str [a,x,y,z] 0=a from rfl,show nth .str [a,x,y,z] 1=x from rfl,show nth .str [a,x,y,z] 2=y from rfl,show nth .str [a,x,y,z] 3=z from rfl];rw[if_neg (show ¬((a=iq)/\[a,x,y,z].length=2)from fun e=>absurd e.2 (by simp)),if_neg (show ¬((a=ie)/\[a,x,y,z].length=2)from fun e=>absurd e.2 (by simp)),if_neg (show ¬((a=fS)/\[a,x,y,z].length=3)from fun e=>absurd e.2 (by simp)),if_neg (show ¬((a=ku)/\[a,x,y,z].length=3)from fun e=>absurd e.2 (by simp))];by_cases h1:a=iI\/a=jE
  ·rw[if_pos h1,if_pos (show(a=iI\/a=jE)/\[a,x,y,z].length=4 from⟨h1,rfl⟩)]
   unfold DQ;cases hm:dK x with
   |none=>exact .inr ⟨rfl,by simp⟩
   |some m=>
    cases hn:dK y with
    |none=>exact .inr ⟨rfl,by simp⟩
    |some n=>exact .inl ⟨_,rfl,by rw[o5 hn,o5 hm];simp⟩
  ·rw[if_neg h1,if_neg (show ¬((a=iI\/a=jE)/\[a,x,y,z].length=4)from fun e=>h1 e.1)];exact .inr ⟨rfl,rfl⟩
 |a :: x :: y :: z :: u :: r,_=>exact .inr ⟨rfl,by simp⟩
def Vc(o:D aA)(s:aD):(iz o true s).2=true:=by
 unfold iz;simp only[Bool.true_or];split
 ·rfl
 ·split
  ·rfl
  ·split
   ·rfl
   ·split
    ·rfl
    ·split <;> rfl
def Vd(o:D aA)(b:Bool)(s:aD) :
  (iz o b s).1.1.length<=o.1.length+1/\(iz o b s).1.2.1.length<=o.2.1.length+1/\(iz o b s).1.2.2.1.length<=o.2.2.1.length+1/\(iz o b s).1.2.2.2.1.length<=o.2.2.2.1.length+1:=by
 have e:∀{α:Type} (l:List α) (x:α),(l++[x]).length<=l.length+1:=fun l x=>by simp
 have e0:∀n:Nat,n<=n+1:=fun n=>a8 n
 unfold iz;simp only;split
 ·exact⟨e _ _,e0 _,e0 _,e0 _⟩
 ·split
  ·exact⟨e0 _,e _ _,e0 _,e0 _⟩
  ·split
   ·exact⟨e0 _,e0 _,e _ _,e0 _⟩
   ·split
    ·exact⟨e0 _,e0 _,e0 _,e _ _⟩
    ·split
     ·exact⟨e0 _,e0 _,e0 _,e _ _⟩
     ·exact⟨e0 _,e0 _,e0 _,e0 _⟩
structure nk (L:List aD) (i:Nat) (o:D aA) (b:Bool):Prop where
 le:i<=L.length
 st:(run rj (cB aA) (L.take i)=some o/\b=false)\/(run rj (cB aA) (L.take i)=none/\b=true)
 l1:o.1.length<=i
 l2:o.2.1.length<=i
 l3:o.2.2.1.length<=i
 l4:o.2.2.2.1.length<=i
def nk.zero(L:List aD):nk L 0 (cB aA) false:=⟨ao _,.inl ⟨rfl,rfl⟩,ar _,ar _,ar _,ar _⟩
def nk.next{L:List aD}{i:Nat}{o:D aA}{b:Bool}(h:nk L i o b)(hi:i<L.length):nk L (i+1) (iz o b (nth .str L i)).1 (iz o b (nth .str L i)).2:=by
 obtain⟨a1,a2,a3,a4⟩:=Vd o b (nth .str L i);refine⟨hi,?_,by have:=h.l1;omega,by have:=h.l2;omega,by have:=h.l3;omega,by have:=h.l4;omega⟩;rw[gI (t:=.str) hi,DR];rcases h.st with⟨hr,hb⟩|⟨hr,hb⟩
 ·rw[hr,et]
  rcases R6 o b (nth .str L i)with⟨p,h1,h2⟩|⟨h1,h2⟩
  ·rw[h2];exact .inl ⟨h1,hb⟩
  ·exact .inr ⟨h1,h2⟩
 ·rw[hr,hb];exact .inr ⟨rfl,Vc o _⟩
abbrev Rd:=aD->aD×Int×Int
structure fZ (rd:Rd):Prop where
 code:∀s,(rd s).2.2=0\/(rd s).2.2=5
 o6:∃K:List aD,K.length<=6/\∀s,(rd s).2.2=0->s∈K
def fQ(ns l:List aD):List aD:=l.foldl (fun ns s=>if ns.any (· == s)=true then ns else ns++[s]) ns
def kO(rd:Rd)(s:aD):D aA:=(cF (rd s).1).1
def fL(rd:Rd)(s:aD):Int:=if(rd s).2.2=0 then(cF (rd s).1).2 else(rd s).2.2
def kx(rd:Rd):Nat->Nat->List aD->List (D aA)->List aD×List (D aA)×Int
 |0,_,ns,os=>(ns,os,0)
 |k+1,i,ns,os=>
  if i<ns.length then
   if fL rd (nth .str ns i)=0 then kx rd k (i+1) (fQ ns (kO rd (nth .str ns i)).1) (os++[kO rd (nth .str ns i)])
   else([],[],fL rd (nth .str ns i))
  else(ns,os,0)
def aR(rd:Rd)(root:aD):List aD×List (D aA)×Int:=kx rd 7 0 [root] []
def Fq(s:aD):((cF s).2=0/\cK (cF s).1=0/\fN (cF s).1=s)\/cF s=(cB aA,2)\/cF s=(cB aA,4):=by
 by_cases h:s.length > 1200
 ·exact .inr (.inl (AS h))
 ·by_cases h2:∃o:D aA,cK o=0/\fN o=s
  ·obtain⟨o,h3,h4⟩:=h2
   rw[BX h h3 h4];exact .inl ⟨rfl,h3,h4⟩
  ·exact .inr (.inr (rP h fun o h3 h4=>h2 ⟨o,h3,h4⟩))
def vK(s:aD):0<=(cF s).2:=by
 rcases Fq s with⟨h,_⟩|h|h <;> rw[h] <;> decide
def x8{s:aD}(h:(cF s).2=0):cK (cF s).1=0:=by
 rcases Fq s with⟨_,h,_⟩|h'|h'
 ·exact h
 ·rw[h']at h;cases h
 ·rw[h']at h;cases h
def GM{rd:Rd}(h:fZ rd)(s:aD):0<=fL rd s:=by
 unfold fL;split
 ·exact vK _
 ·rcases h.code s with e|e <;> rw[e] <;> decide
def lZ{rd:Rd}(h:fZ rd){s:aD}(e:fL rd s=0):(rd s).2.2=0/\(cF (rd s).1).2=0:=by
 unfold fL at e;rcases h.code s with c|c
 ·rw[if_pos c]at e;exact⟨c,e⟩
 ·rw[if_neg (by rw[c];decide),c]at e;cases e
def AT{rd:Rd}{s:aD}(e:¬(rd s).2.2=0):fL rd s=(rd s).2.2:=by unfold fL;rw[if_neg e]
def vL{rd:Rd}{s:aD}(e:(rd s).2.2=0):fL rd s=(cF (rd s).1).2:=by unfold fL;rw[if_pos e]
def LD(ns:List aD):fQ ns []=ns:=rfl
def AU(ns l:List aD)(s:aD):fQ ns (s :: l)=fQ (if ns.any (· == s)=true then ns else ns++[s]) l:=rfl
def Ve(ns l:List aD)(s:aD):fQ ns (l++[s])=if(fQ ns l).any (· == s)=true then fQ ns l else fQ ns l++[s]:=by
 unfold fQ;rw[fb];rfl
def Qd{ns:List aD}{s:aD}:ns.any (· == s)=true↔s∈ns:=by
 rw[cf];constructor
 ·rintro⟨x,hx,e⟩;rw[<-(by simpa using e:x=s)];exact hx
 ·intro h;exact⟨s,h,by simp⟩
def qw:∀(l ns:List aD),∃r,fQ ns l=ns++r/\r.length<=l.length/\∀s∈r,s∈l
 |[],ns=>⟨[],by simp[LD],by simp,by simp⟩
 |x :: l,ns=>by
  rw[AU];split
  ·obtain⟨r,h1,h2,h3⟩:=qw l ns
   exact⟨r,h1,by simp;omega,fun s hs=>by simp[h3 s hs]⟩
  ·obtain⟨r,h1,h2,h3⟩:=qw l (ns++[x])
   refine⟨x :: r,by rw[h1];simp,by simp;omega,fun s hs =>?_⟩;rcases ah.1 hs with rfl|hs
   ·simp
   ·simp[h3 s hs]
def x9:∀(l ns:List aD),ns.Nodup->(fQ ns l).Nodup
 |[],ns,h=>h
 |x :: l,ns,h=>by
  rw[AU];split
  ·exact x9 l ns h
  ·rename_i hx
   refine x9 l _ ?_;rw[fs];refine⟨h,by simp,fun a ha b hb e=>hx (Qd.2 ?_)⟩;simp at hb;subst hb;exact e▸ha
def LF:∀(l ns:List aD),∀s∈l,s∈fQ ns l
 |[],_,s,h=>by simp at h
 |x :: l,ns,s,h=>by
  rw[AU];rcases ah.1 h with rfl|h
  ·split
   ·rename_i hx
    obtain⟨r,h1,_⟩:=qw l ns;rw[h1];exact eu _ (Qd.1 hx)
   ·obtain⟨r,h1,_⟩:=qw l (ns++[s])
    rw[h1];simp
  ·exact LF l _ s h
def Ii{ns l:List aD}{i:Nat}(h:i<l.length):fQ ns (l.take (i+1))=if(fQ ns (l.take i)).any (· == nth .str l i)=true then fQ ns (l.take i)else fQ ns (l.take i)++[nth .str l i]:=by
 rw[gI (t:=.str) h,Ve]
def uZ{t:Ty}{a b:List (D t)}{i:Nat}(h:i<a.length):nth t (a++b) i=nth t a i:=by rw[q9,if_pos h]
structure ly (rd:Rd) (root:aD) (i:Nat) (ns:List aD) (os:List (D aA)):Prop where
 eq:kx rd (7-i) i ns os=aR rd root
 le:i<=6
 lo:i<=ns.length
 pos:0<ns.length
 len:os.length=i
 hi:ns.length<=1+4*i
 head:nth .str ns 0=root
 nd:ns.Nodup
 AV:∀j,j<i->fL rd (nth .str ns j)=0/\nth aA os j=kO rd (nth .str ns j)
 want:∀j,j<ns.length->j≠0->∃k,k<i/\k<j/\nth .str ns j∈(nth aA os k).1
 uj:∀j,j<i->∀s∈(nth aA os j).1,s∈ns
def ly.zero(rd:Rd)(root:aD):ly rd root 0 [root] []:=
 ⟨rfl,by omega,by simp,by simp,rfl,by simp,rfl,by simp,fun j h=>by omega,fun j h h'=>by simp at h;omega,fun j h=>by omega⟩
def ly.room{rd:Rd}{root:aD}{i:Nat}{ns:List aD}{os:List (D aA)}(ok:fZ rd)(h:ly rd root i ns os)(hi:i<ns.length)(hf:fL rd (nth .str ns i)=0):i+1<=6:=by
 obtain⟨K,hK,hm⟩:=ok.o6;have hsub:∀y∈ns.take (i+1),y∈K:=by
  intro y hy;obtain⟨j,hj,rfl⟩:=gT (t:=.str) hy;rw[bc]at hj;rw[DH (t:=.str) (by omega)];refine hm _ (lZ ok ?_).1;rcases bq j i with hl|hl
  ·exact(h.AV j hl).1
  ·rw[show j=i by omega];exact hf
 have:=HS (h.nd.sublist (List.take_sublist (i+1) ns)) hsub;rw[bc]at this;omega
def ly.fuel{rd:Rd}{root:aD}{i:Nat}{ns:List aD}{os:List (D aA)}(h:ly rd root i ns os):kx rd (6-i+1) i ns os=aR rd root:=by
 rw[<-h.eq];congr 1;have:=h.le;omega
def ly.bad{rd:Rd}{root:aD}{i:Nat}{ns:List aD}{os:List (D aA)}(h:ly rd root i ns os)(hi:i<ns.length)(hf:¬fL rd (nth .str ns i)=0) :
  aR rd root=([],[],fL rd (nth .str ns i)):=by
 rw[<-h.fuel,kx,if_pos hi,if_neg hf]
def ly.done{rd:Rd}{root:aD}{i:Nat}{ns:List aD}{os:List (D aA)}(h:ly rd root i ns os)(hi:¬i<ns.length):aR rd root=(ns,os,0):=by
 rw[<-h.fuel,kx,if_neg hi]
def DU{rd:Rd}(ok:fZ rd){s:aD}(hf:fL rd s=0):lL (kO rd s):=iH (x8 (lZ ok hf).2)
def ly.next{rd:Rd}{root:aD}{i:Nat}{ns:List aD}{os:List (D aA)}(ok:fZ rd)(h:ly rd root i ns os)(hi:i<ns.length)(hf:fL rd (nth .str ns i)=0) :
  ly rd root (i+1) (fQ ns (kO rd (nth .str ns i)).1) (os++[kO rd (nth .str ns i)]):=by
 have hr:=h.room ok hi hf;have ho:=DU ok hf;obtain⟨r,h1,h2,h3⟩:=qw (kO rd (nth .str ns i)).1 ns;have hn4:=ho.n4;have hlen:=h.len;have hhi:=h.hi;have hpos:=h.pos;have hos:nth aA (os++[kO rd (nth .str ns i)]) i=kO rd (nth .str ns i):=by rw[q9,if_neg (by omega),h.len,Nat.sub_self];rfl
 have hns:∀j,j<ns.length->nth .str (fQ ns (kO rd (nth .str ns i)).1) j=nth .str ns j:=fun j hj=>by rw[h1,uZ (t:=.str) hj]
 have hoj:∀j,j<i->nth aA (os++[kO rd (nth .str ns i)]) j=nth aA os j:=fun j hj=>uZ (t:=aA) (by omega)
 refine⟨?_,hr,by rw[h1,az];omega,by rw[h1,az];omega,by rw[az,h.len];rfl,by rw[h1,az];omega,
  by rw[hns 0 hpos];exact h.head,x9 _ _ h.nd,fun j hj =>?_,fun j hj h0 =>?_,fun j hj s hs =>?_⟩
 ·rw[<-h.fuel,kx,if_pos hi,if_pos hf];congr 1;omega
 ·rcases bq j i with hl|hl
  ·rw[hns j (by omega),hoj j hl];exact h.AV j hl
  ·rw[show j=i by omega,hns i hi,hos];exact⟨hf,rfl⟩
 ·rcases bq j ns.length with hl|hl
  ·obtain⟨k,k1,k2,k3⟩:=h.want j hl h0
   exact⟨k,by omega,k2,by rw[hns j hl,hoj k k1];exact k3⟩
  ·refine⟨i,by omega,by omega,?_⟩
   rw[hos,h1,q9,if_neg (by omega)];refine h3 _ (eO (t:=.str) ?_);rw[h1,az]at hj;omega
 ·rcases bq j i with hl|hl
  ·rw[hoj j hl]at hs
   rw[h1];exact eu _ (h.uj j hl s hs)
  ·rw[show j=i by omega,hos]at hs
   exact LF _ _ s hs
structure Scope (rd:Rd) (root:aD) (ns:List aD) (os:List (D aA)):Prop where
 le:ns.length<=6
 pos:0<ns.length
 len:os.length=ns.length
 head:nth .str ns 0=root
 nd:ns.Nodup
 AV:∀j,j<ns.length->fL rd (nth .str ns j)=0/\nth aA os j=kO rd (nth .str ns j)
 want:∀j,j<ns.length->j≠0->∃k,k<j/\nth .str ns j∈(nth aA os k).1
 uj:∀j,j<ns.length->∀s∈(nth aA os j).1,s∈ns
def Fs{rd:Rd}{root:aD}(ok:fZ rd):∀(m i:Nat) (ns:List aD) (os:List (D aA)),m=7-i->ly rd root i ns os->
  (∃f,0<f/\aR rd root=([],[],f))\/(∃ns os,aR rd root=(ns,os,0)/\Scope rd root ns os)
 |0,i,ns,os,hm,h=>by have:=h.le;omega
 |m+1,i,ns,os,hm,h=>by
  by_cases hi:i<ns.length
  ·by_cases hf:fL rd (nth .str ns i)=0
   ·exact Fs ok m (i+1) _ _ (by omega) (h.next ok hi hf)
   ·have:=GM ok (nth .str ns i)
    exact .inl ⟨_,by omega,h.bad hi hf⟩
  ·have h1:=h.lo
   have h2:=h.le;have e:i=ns.length:=by omega
   subst e;exact .inr ⟨ns,os,h.done hi,h2,h.pos,h.len,h.head,h.nd,h.AV,fun j hj h0=>let⟨k,_,k2,k3⟩:=h.want j hj h0;⟨k,k2,k3⟩,h.uj⟩
def vM{rd:Rd}(ok:fZ rd)(root:aD):(∃f,0<f/\aR rd root=([],[],f))\/(∃ns os,aR rd root=(ns,os,0)/\Scope rd root ns os):=
 Fs ok 7 0 _ _ rfl (ly.zero rd root)
def ya{rd:Rd}(ok:fZ rd){root:aD}(h:(aR rd root).2.2=0):Scope rd root (aR rd root).1 (aR rd root).2.1:=by
 rcases vM ok root with⟨f,hf,e⟩|⟨ns,os,e,h'⟩
 ·rw[e]at h;simp only at h;omega
 ·rw[e];exact h'
def Ft(rd:Rd):∀(k i:Nat) (ns:List aD) (os:List (D aA)),(kx rd k i ns os).2.2=0->∀s∈ns,s∈(kx rd k i ns os).1
 |0,_,ns,os,_=>fun s hs=>hs
 |k+1,i,ns,os,h=>by
  unfold kx at h ⊢;split
  ·rename_i hi
   rw[if_pos hi]at h;split
   ·rename_i hf
    rw[if_pos hf]at h;obtain⟨r,h1,_⟩:=qw (kO rd (nth .str ns i)).1 ns;intro s hs;exact Ft rd k _ _ _ h s (by rw[h1];exact eu _ hs)
   ·rename_i hf
    rw[if_neg hf]at h;exact absurd h hf
  ·exact fun s hs=>hs
def AW{rd rd':Rd}:∀(k i:Nat) (ns:List aD) (os:List (D aA)),(kx rd k i ns os).2.2=0->(∀s∈(kx rd k i ns os).1,rd' s=rd s)->kx rd' k i ns os=kx rd k i ns os
 |0,_,ns,os,_,_=>rfl
 |k+1,i,ns,os,h,hs=>by
  by_cases hi:i<ns.length
  ·have hm:=hs _ (Ft rd (k+1) i ns os h _ (eO (t:=.str) hi))
   have e1:fL rd' (nth .str ns i)=fL rd (nth .str ns i):=by unfold fL;rw[hm]
   have e2:kO rd' (nth .str ns i)=kO rd (nth .str ns i):=by unfold kO;rw[hm]
   unfold kx at h hs ⊢;rw[if_pos hi]at h hs ⊢;rw[if_pos hi,e1,e2];by_cases hf:fL rd (nth .str ns i)=0
   ·rw[if_pos hf]at h hs ⊢
    rw[if_pos hf];exact AW k _ _ _ h hs
   ·rw[if_neg hf,if_neg hf]
  ·unfold kx;rw[if_neg hi,if_neg hi]
def Ol{rd rd':Rd}{root:aD}(h:(aR rd root).2.2=0)(hs:∀s∈(aR rd root).1,rd' s=rd s):aR rd' root=aR rd root:=AW _ _ _ _ h hs
def kW{x:cY}(h:x.2.1.1.length<=6):fZ (aO x):=by
 refine⟨fun s =>?_,x.2.1.1.map rf,by rw[di];exact h,fun s hs =>?_⟩
 ·unfold aO;split
  ·exact .inl rfl
  ·exact .inr rfl
 ·by_cases c:dO dI x.2.1.1 s=true
  ·obtain⟨y,hy,e⟩:=nI.1 c
   rw[<-e];exact bw hy
  ·rw[nv (by simpa using c)]at hs;cases hs
def dD{r:RS}(h:r.1.length<=6):fZ (bU r.1):=by
 refine⟨Fe r.1,r.1.map xL,by rw[di];exact h,fun s hs =>?_⟩;by_cases c:∃y∈r.1,y.1=s
 ·obtain⟨y,hy,e⟩:=c
  rw[<-e];exact bw hy
 ·rw[xM fun y hy e=>c ⟨y,hy,e⟩]at hs;cases hs
def wK:∀{s:List Int} {l:List (D bA)} {out o:List Int},fR l s out=some o->∃ext,o=out++ext/\ext.length=s.length:=by
 intro s;induction s with
 |nil=>intro l out o h;simp only[fR,ep]at h;exact⟨[],by simp[h],rfl⟩
 |cons n r ih=>
  intro l out o h;simp only[fR]at h;split at h
  ·cases h
  ·obtain⟨ext,h1,h2⟩:=ih h
   exact⟨_ :: ext,by rw[h1,c6];rfl,by simp[h2]⟩
def LG{l:List (D bA)}{s o:List Int}{k:Nat}(hk:k<s.length)(h:fR l (s.drop k) (o.take k)=some o)(hl:o.length=s.length) :
  (nth (.int .i64) o k:Int)=gP l (cP (nth (.int .i64) s k)) 40 0/\gP l (cP (nth (.int .i64) s k)) 40 0+cP (nth (.int .i64) s k)<=256/\
  fR (l++[(gP l (cP (nth (.int .i64) s k)) 40 0,cP (nth (.int .i64) s k),())]) (s.drop (k+1)) (o.take (k+1))=some o:=by
 rw[oW hk]at h;split at h
 ·cases h
 ·rename_i hle
  obtain⟨ext,h1,h2⟩:=wK h;have hlen:(o.take k).length=k:=by rw[bc];omega
  have hget:o[k]?=some (gP l (cP (nth (.int .i64) s k)) 40 0):=by
   rw[h1,c6,List.getElem?_append_right (by omega),hlen,Nat.sub_self];rfl
  refine⟨gD (t:=.int .i64) hget,by omega,?_⟩;have:o.take (k+1)=o.take k++[gP l (cP (nth (.int .i64) s k)) 40 0]:=by
   rw[cp,hget];rfl
  rw[this];exact h
def R7{s:List Int}{l:List (D bA)}(h:(cC (s,l)).2.isNil=true) :
  s.length<=6/\l.length<=20/\(∀j,j<s.length->1<=(nth (.int .i64) s j:Int)/\(nth (.int .i64) s j:Int)<=40)/\(∀y∈l,ke y)/\fR l s []=some (cC (s,l)).1/\(cC (s,l)).1.length=s.length:=by
 by_cases h1:6<s.length\/20<l.length
 ·rw[vD h1]at h;cases h
 ·by_cases h2:DF s=true\/DG l=true
  ·unfold cC at h;rw[if_neg h1,if_pos h2]at h;cases h
  ·have hs:∀j,j<s.length->1<=(nth (.int .i64) s j:Int)/\(nth (.int .i64) s j:Int)<=40:=by
    intro j hj;apply au;intro hn;rw[vE h1 hj hn]at h;cases h
   have ht:∀j,j<l.length->ke (nth bA l j):=by
    intro j hj;apply au;intro hn;rw[tX h1 hj hn]at h;cases h
   rw[sG h1 hs ht]at h ⊢;refine⟨by omega,by omega,hs,fun y hy =>?_,?_⟩
   ·obtain⟨i,hi,e⟩:=gT (t:=bA) hy;rw[<-e];exact ht i hi
   ·split at h
    ·rename_i o ho
     obtain⟨ext,k1,k2⟩:=wK ho;simp only[ho];exact⟨aa,by rw[k1];simpa using k2⟩
    ·cases h
end Go.Mrl
namespace Go.Mrl
open Go.Vg
def Om{n:Int}:n<=cP n/\cP n<n+16:=by unfold cP;omega
end Go.Mrl

namespace Go.Mrl
open Go.Vg
def kv(s:List Int):Nat->Int
 |0=>0
 |k+1=>kv s k+cP (nth (.int .i64) s k)
def yb(l:List (Int×Int×Unit))(S:Int):Prop:=0<=S/\(∃m:Nat,S=16*(m:Int))/\(∀y∈l,y.1+y.2.1<=S)/\∀p:Int,0<=p->p<S->∃y∈l,y.1<=p/\p<y.1+y.2.1
def yb.nil:yb [] 0:=⟨av _,⟨0,rfl⟩,fun y hy=>by simp at hy,fun p h1 h2=>by omega⟩
def yb.snoc{l:List (Int×Int×Unit)}{S m:Int}(h:yb l S)(hm:0<m)(h16:∃k:Nat,m=16*(k:Int)):yb (l++[(S,m,())]) (S+m):=by
 obtain⟨h1,⟨a,h2⟩,h3,h4⟩:=h;obtain⟨k,h5⟩:=h16;refine⟨by omega,⟨a+k,by omega⟩,fun y hy =>?_,fun p h6 h7 =>?_⟩
 ·rcases bb.1 hy with hy|hy
  ·have:=h3 y hy;omega
  ·simp only[eo]at hy;subst hy;simp only;omega
 ·by_cases c:p<S
  ·obtain⟨y,hy,h8⟩:=h4 p h6 c
   exact⟨y,by simp[hy],h8⟩
  ·exact⟨(S,m,()),by simp,by simp only;omega⟩
def yb.base{l:List (Int×Int×Unit)}{S many:Int}(h:yb l S)(hm:0<many):∀(n:Nat) (k:Nat),16*(k:Int)<=S->S-16*(k:Int)<16*(n:Int)->gP l many n (16*(k:Int))=S:=by
 obtain⟨h1,⟨a,h2⟩,h3,h4⟩:=h;intro n;induction n with
 |zero=>intro k hk hn;omega
 |succ n ih=>
  intro k hk hn;by_cases c:16*(k:Int)=S
  ·rw[c]
   apply se;refine E4 fun j hj =>?_
   have:=h3 _ (eO (t:=bA) hj);rw[vC];simp only;omega
  ·obtain⟨y,hy,h8,h9⟩:=h4 (16*(k:Int)) (by omega) (by omega)
   have hf:jm (16*(k:Int),many,()) l=false:=by
    obtain⟨j,hj,e⟩:=gT (t:=bA) hy;refine CA hj ?_;rw[e,Al];simp only;omega
   rw[HK hf,show 16*(k:Int)+16=16*((k+1:Nat):Int) by omega];exact ih (k+1) (by omega) (by omega)
def abr{n:Int}(h:1<=n):∃k:Nat,cP n=16*(k:Int):=⟨((n+15) / 16).toNat,by unfold cP;omega⟩
def R8{s:List Int}(hs:∀j,j<s.length->1<=(nth (.int .i64) s j:Int)/\(nth (.int .i64) s j:Int)<=40):∀d k,k+d<=s.length->kv s k<=kv s (k+d):=by
 intro d;induction d with
 |zero=>intro k _;exact av _
 |succ d ih=>
  intro k hk;have h1:=ih k (by omega);have h2:=hs (k+d) (by omega);have h3:=eE h2.1 h2.2;have e:kv s (k+(d+1))=kv s (k+d)+cP (nth (.int .i64) s (k+d)):=rfl;rw[e];omega
def YV{s:List Int}(hs:∀j,j<s.length->1<=(nth (.int .i64) s j:Int)/\(nth (.int .i64) s j:Int)<=40):∀(d k:Nat) {l:List (Int×Int×Unit)} {o:List Int},k+d=s.length->yb l (kv s k)->kv s k<=256->
  o.length=s.length->fR l (s.drop k) (o.take k)=some o->kv s s.length<=256/\∀i,k<=i->i<s.length->(nth (.int .i64) o i:Int)=kv s i:=by
 intro d;induction d with
 |zero=>
  intro k l o hk hc hle hl h;have e:k=s.length:=by omega
  subst e;exact⟨hle,fun i h1 h2=>by omega⟩
 |succ d ih=>
  intro k l o hk hc hle hl h;have h2:=hs k (by omega);have h3:=eE h2.1 h2.2;have hb:=hc.base (many:=cP (nth (.int .i64) s k)) (by omega) 40 0 (by have:=hc.1;omega) (by omega);simp only[Int.natCast_zero,Int.mul_zero]at hb;obtain⟨n1,n2,n3⟩:=LG (k:=k) (by omega) h hl;rw[hb]at n1 n2 n3;have e:kv s (k+1)=kv s k+cP (nth (.int .i64) s k):=rfl;obtain⟨r1,r2⟩:=ih (k+1) (by omega) (l:=l++[(kv s k,cP (nth (.int .i64) s k),())]) (by rw[e];exact hc.snoc (by omega) (abr h2.1)) (by omega) hl n3;refine⟨r1,fun i h4 h5 =>?_⟩;rcases bq k i with c|c
  ·exact r2 i (by omega) h5
  ·rw[show i=k by omega];exact n1
def Vf{s:List Int}(h:(cC (s,[])).2.isNil=true):(cC (s,[])).1.length=s.length/\(∀j,j<s.length->1<=(nth (.int .i64) s j:Int)/\(nth (.int .i64) s j:Int)<=40)/\
  kv s s.length<=256/\∀i,i<s.length->(nth (.int .i64) (cC (s,[])).1 i:Int)=kv s i:=by
 obtain⟨_,_,h3,_,h5,h6⟩:=R7 h;obtain⟨r1,r2⟩:=YV h3 s.length 0 (l:=[]) (o:=(cC (s,[])).1) (by omega) yb.nil (by simp[kv]) h6 (by rw[er,fw];exact h5);exact⟨h6,h3,r1,fun i hi=>r2 i (ao _) hi⟩
def bV(l:List (D aA)):List Int:=l.map fun o=>(o.2.1.length:Int)
def cR(l:List (D aA)):Ws:=l.map fun o=>o.2.1
def pF(l:List (D aA)):(bV l).length=l.length:=by simp[bV]
def nJ(l:List (D aA)):(cR l).length=l.length:=by simp[cR]
def rQ{t u:Ty}{f:D u->D t}{l:List (D u)}{i:Nat}(h:i<l.length):nth t (l.map f) i=f (nth u l i):=by
 unfold nth;rw[List.getD_eq_getElem?_getD,List.getD_eq_getElem?_getD,List.getElem?_map,List.getElem?_eq_getElem h];rfl
def Fu{l:List (D aA)}{i:Nat}(h:i<l.length):(nth (.int .i64) (bV l) i:Int)=((nth aA l i).2.1.length:Int):=rQ (u:=aA) (t:=.int .i64) h
def rl{l:List (D aA)}{i:Nat}(h:i<l.length):nth iT (cR l) i=(nth aA l i).2.1:=rQ (u:=aA) (t:=iT) h
def sj{l:List (D aA)}{i:Nat}(h:i<l.length):bV (l.take (i+1))=bV (l.take i)++[((nth aA l i).2.1.length:Int)]:=by
 unfold bV;rw[my (t:=aA) h];simp
def CM{l:List (D aA)}{i:Nat}(h:i<l.length):cR (l.take (i+1))=cR (l.take i)++[(nth aA l i).2.1]:=by
 unfold cR;rw[my (t:=aA) h];simp
def DV(l:List (D aA))(b:List Int)(i:Nat)(ts:List (D aQ)):List Pt:=ts.map fun t=>((i:Int),t.1,(fP l b i t).1,())
def sX(l:List (D aA))(b:List Int):List (D aA)->Nat->List Pt
 |[],_=>[]
 |o :: r,i=>DV l b i o.2.2.2.1++sX l b r (i+1)
def Qe{l:List (D aA)}{b:List Int}{i:Nat}:∀{ts:List (D aQ)} {out:List Pt},(mc l b i ts out).2.isNil=true->mc l b i ts out=(out++DV l b i ts,.nil)/\∀t∈ts,(fP l b i t).2.isNil=true
 |[],out,_=>⟨by simp[mc,DV],by simp⟩
 |t :: r,out,h=>by
  rw[mc]at h ⊢;by_cases c:(fP l b i t).2.isNil=true
  ·rw[if_pos c]at h ⊢
   obtain⟨h1,h2⟩:=Qe h;refine⟨by rw[h1];simp[DV],fun u hu =>?_⟩;rcases ah.1 hu with rfl|hu
   ·exact c
   ·exact h2 u hu
  ·rw[if_neg c]at h;exact absurd h c
def Qf{l:List (D aA)}{b:List Int}:∀{os:List (D aA)} {i:Nat} {out:List Pt},(lX l b os i out).2.isNil=true->lX l b os i out=(out++sX l b os i,.nil)/\
  ∀k,k<os.length->∀t∈(nth aA os k).2.2.2.1,(fP l b ((i+k:Nat):Int) t).2.isNil=true
 |[],i,out,_=>⟨by simp[lX,sX],fun k hk=>by simp at hk⟩
 |o :: r,i,out,h=>by
  rw[lX]at h ⊢;unfold kK at h ⊢;by_cases c:(mc l b i o.2.2.2.1 out).2.isNil=true
  ·rw[if_pos c]at h ⊢
   obtain⟨h1,h2⟩:=Qe c;obtain⟨h3,h4⟩:=Qf h;refine⟨by rw[h3,h1];simp[sX],fun k hk =>?_⟩;rcases k with _|k
   ·exact h2
   ·have:=h4 k (by simpa using hk)
    rw[show i+1+k=i+(k+1) by omega]at this;exact this
  ·rw[if_neg c]at h;exact absurd h c
def YW{l:List (D aA)}{b:List Int}(h:(eM (l,b)).2.isNil=true):b.length=l.length/\lq b/\(eM (l,b)).1=sX l b l 0/\∀k,k<l.length->∀t∈(nth aA l k).2.2.2.1,(fP l b (k:Int) t).2.isNil=true:=by
 have h':=h;unfold eM at h ⊢;split at h
 ·cases h
 ·rename_i hl
  split at h
  ·rename_i hb
   obtain⟨h1,h2⟩:=Qf h;refine⟨au hl,hb,?_,fun k hk t ht=>by have:=h2 k hk t ht;rwa [dz]at this⟩;rw[if_neg hl,if_pos hb,h1];rfl
  ·cases h
def DW{l:List (D aA)}{b:List Int}:∀{os:List (D aA)} {i:Nat} {p:Pt},p∈sX l b os i->∃k t,k<os.length/\t∈(nth aA os k).2.2.2.1/\p=(((i+k:Nat):Int),t.1,(fP l b ((i+k:Nat):Int) t).1,())
 |[],i,p,h=>by simp[sX]at h
 |o :: r,i,p,h=>by
  rcases bb.1 h with h|h
  ·obtain⟨t,ht,rfl⟩:=bp.1 h
   exact⟨0,t,by simp,ht,rfl⟩
  ·obtain⟨k,t,hk,ht,rfl⟩:=DW h
   exact⟨k+1,t,by simp;omega,ht,by rw[show i+1+k=i+(k+1) by omega]⟩
def tc(x:List Int×List (D bA)):Told (cC x).2:=by
 unfold cC;split
 ·rfl
 ·split
  ·rfl
  ·split <;> rfl
def YX(x:Ws×List Pt):Told (jQ x).2:=by
 unfold jQ;split <;> rfl
def tf{e:aS}(h:Told e):aL (jj e)=e:=by
 cases e with
 |nil=>rfl
 |no m=>
  have h':0<m:=by have:=h;simpa[Told,fJ,jj]using this
  have h2:¬m=0:=by omega
  show aL m=_;unfold aL;rw[if_neg h2]
 |other=>unfold Told at h;simp[fJ]at h
def DX{e:aS}(h:Told e)(hn:e.isNil=false):0<jj e:=by
 cases e with
 |nil=>cases hn
 |no m=>
  have h':0<m:=by have:=h;simpa[Told,fJ,jj]using this
  exact h'
 |other=>unfold Told at h;simp[fJ]at h
abbrev Rk:=List aD×List (D aA)×List Int×List Pt×Int
def bB(rd:Rd)(root:aD):Rk:=
 if ¬(aR rd root).2.2=0 then([],[],[],[],(aR rd root).2.2)
 else if(cC (bV (aR rd root).2.1,[])).2.isNil=false then([],[],[],[],jj (cC (bV (aR rd root).2.1,[])).2)
 else if(eM ((aR rd root).2.1,(cC (bV (aR rd root).2.1,[])).1)).2.isNil=false then([],[],[],[],jj (eM ((aR rd root).2.1,(cC (bV (aR rd root).2.1,[])).1)).2)
 else((aR rd root).1,(aR rd root).2.1,(cC (bV (aR rd root).2.1,[])).1,(eM ((aR rd root).2.1,(cC (bV (aR rd root).2.1,[])).1)).1,0)
def um{rd:Rd}{root:aD}(h:¬(aR rd root).2.2=0):bB rd root=([],[],[],[],(aR rd root).2.2):=by unfold bB;rw[if_pos h]
def uo{rd:Rd}{root:aD}(h:(aR rd root).2.2=0)(h1:(cC (bV (aR rd root).2.1,[])).2.isNil=false):bB rd root=([],[],[],[],jj (cC (bV (aR rd root).2.1,[])).2):=by
 unfold bB;rw[if_neg (not_not_intro h),if_pos h1]
def yc{rd:Rd}{root:aD}(h:(aR rd root).2.2=0)(h1:(cC (bV (aR rd root).2.1,[])).2.isNil=true)(h2:(eM ((aR rd root).2.1,(cC (bV (aR rd root).2.1,[])).1)).2.isNil=false) :
  bB rd root=([],[],[],[],jj (eM ((aR rd root).2.1,(cC (bV (aR rd root).2.1,[])).1)).2):=by
 unfold bB;rw[if_neg (not_not_intro h),if_neg (by rw[h1];decide),if_pos h2]
def vN{rd:Rd}{root:aD}(h:(aR rd root).2.2=0)(h1:(cC (bV (aR rd root).2.1,[])).2.isNil=true)(h2:(eM ((aR rd root).2.1,(cC (bV (aR rd root).2.1,[])).1)).2.isNil=true) :
  bB rd root=((aR rd root).1,(aR rd root).2.1,(cC (bV (aR rd root).2.1,[])).1,(eM ((aR rd root).2.1,(cC (bV (aR rd root).2.1,[])).1)).1,0):=by
 unfold bB;rw[if_neg (not_not_intro h),if_neg (by rw[h1];decide),if_neg (by rw[h2];decide)]
structure jr (rd:Rd) (root:aD) (ns:List aD) (os:List (D aA)) (bs:List Int) (ps:List Pt):Prop where
 e:aR rd root=(ns,os,0)
 sc:Scope rd root ns os
 eb:cC (bV os,[])=(bs,.nil)
 ea:eM (os,bs)=(ps,.nil)
 bl:bs.length=os.length
 bi:lq bs
 pt:ps=sX os bs os 0
 one:∀k,k<os.length->∀t∈(nth aA os k).2.2.2.1,(fP os bs (k:Int) t).2.isNil=true
 okp:∀i,i<ps.length->uP (cR os) (nth aN ps i)
def Ij{e:aS}(h:e.isNil=true):e=.nil:=by cases e <;> first|rfl|cases h
def Scope.obj{rd:Rd}{root:aD}{ns:List aD}{os:List (D aA)}(ok:fZ rd)(h:Scope rd root ns os){i:Nat}(hi:i<os.length):lL (nth aA os i):=by
 have:=h.AV i (by rw[<-h.len];exact hi);rw[this.2];exact DU ok this.1
def lL.YY{o:D aA}(h:lL o):aaM o:=by
 refine⟨by have:=h.t6;omega,fun i hi =>?_,fun i hi =>?_⟩
 ·have:=(h.sym hi).2;unfold je at this;unfold Small;omega
 ·have:=h.tie hi
  have a:=this.a;have w:=this.w;unfold je at a w;unfold Small Word;omega
def Scope.YY{rd:Rd}{root:aD}{ns:List aD}{os:List (D aA)}(ok:fZ rd)(h:Scope rd root ns os):jw os:=⟨by have:=h.le;have:=h.len;omega,fun _ hi=>(h.obj ok hi).YY⟩
def Vh{a n:Int}(h:a<=n-1):a<n:=by omega
def On{o:D aA}(h:cK o=0):jn o.2.1.length [] o.2.2.1=0/\lF o.2.1.length none o.2.2.2.1=0:=by
 unfold cK at h;split at h
 ·cases h
 ·split at h
  ·rename_i h1;exact absurd h h1
  ·split at h
   ·rename_i h2;exact absurd h h2
   ·split at h
    ·rename_i h3;exact absurd h h3
    ·rename_i h3;exact⟨au h3,h⟩
def R9{o:D aA}(h:cK o=0){t:D aQ}(ht:t∈o.2.2.2.1):0<=t.1/\t.1<(o.2.1.length:Int):=by
 obtain⟨p,hp⟩:=xQ _ _ _ (On h).2 t ht;obtain⟨⟨a,b⟩,_⟩:=H9 hp;exact⟨a,Vh b⟩
def Scope.fault{rd:Rd}{root:aD}{ns:List aD}{os:List (D aA)}(ok:fZ rd)(h:Scope rd root ns os){i:Nat}(hi:i<os.length):cK (nth aA os i)=0:=by
 have:=h.AV i (by rw[<-h.len];exact hi);rw[this.2];exact x8 (lZ ok this.1).2
def o7{rd:Rd}(ok:fZ rd)(root:aD):(∃f,0<f/\bB rd root=([],[],[],[],f))\/(∃ns os bs ps,bB rd root=(ns,os,bs,ps,0)/\jr rd root ns os bs ps):=by
 rcases vM ok root with⟨f,hf,e⟩|⟨ns,os,e,sc⟩
 ·exact .inl ⟨f,hf,by rw[um (by rw[e];simp only;omega),e]⟩
 ·have e0:(aR rd root).2.2=0:=by rw[e]
  have e1:(aR rd root).2.1=os:=by rw[e]
  have e2:(aR rd root).1=ns:=by rw[e]
  cases hb:(cC (bV os,[])).2.isNil with
  |false=>exact .inl ⟨_,DX (tc _) hb,by rw[uo e0 (by rw[e1];exact hb),e1]⟩
  |true=>
   cases ha:(eM (os,(cC (bV os,[])).1)).2.isNil with
   |false=>exact .inl ⟨_,DX (DJ _) ha,by rw[yc e0 (by rw[e1];exact hb) (by rw[e1];exact ha),e1]⟩
   |true=>
    obtain⟨a1,a2,a3,a4⟩:=YW ha;refine .inr ⟨ns,os,_,_,by rw[vN e0 (by rw[e1];exact hb) (by rw[e1];exact ha),e1,e2],e,sc,Prod.ext rfl (Ij hb),Prod.ext rfl (Ij ha),a1,a2,a3,a4,fun i hi =>?_⟩;obtain⟨k,t,hk,ht,hp⟩:=DW (by rw[<-a3];exact eO (t:=aN) hi);rw[hp];have:=R9 (sc.fault ok hk) ht;refine⟨by simp only;omega,by simp only;rw[nJ];omega,this.1,?_⟩;simp only[dz];rw[show((k:Int)).toNat=k from rfl,rl hk];exact this.2
def eV(ns:List aD)(bs:List Int)(w:Ws)(n:Nat):List (D cE):=(b6 n).map fun i=>(nth .str ns i,nth (.int .i64) bs i,nth iT w i,())
def rm(ns:List aD)(bs:List Int)(w:Ws)(n:Nat):(eV ns bs w n).length=n:=by simp[eV]
def vO(ns:List aD)(bs:List Int)(w:Ws)(n:Nat):eV ns bs w (n+1)=eV ns bs w n++[(nth .str ns n,nth (.int .i64) bs n,nth iT w n,())]:=by simp[eV,cu]
def Sa{ns:List aD}{bs:List Int}{w:Ws}{n i:Nat}(h:i<n):nth cE (eV ns bs w n) i=(nth .str ns i,nth (.int .i64) bs i,nth iT w i,()):=by
 apply gD;simp[eV,h]
def lk(ns:List aD)(bs:List Int)(os:List (D aA))(ps:List Pt):List (D cE)×aS:=
 if ¬ns.length=os.length\/¬bs.length=os.length then([],.no 3)
 else if(jQ (cR os,ps)).2.isNil=false then([],(jQ (cR os,ps)).2)
 else(eV ns bs (jQ (cR os,ps)).1 os.length,.nil)
def Fv{ns:List aD}{bs:List Int}{os:List (D aA)}{ps:List Pt}(h:¬ns.length=os.length\/¬bs.length=os.length):lk ns bs os ps=([],.no 3):=by unfold lk;rw[if_pos h]
def YZ{ns:List aD}{bs:List Int}{os:List (D aA)}{ps:List Pt}(h:ns.length=os.length)(h':bs.length=os.length)(hp:(jQ (cR os,ps)).2.isNil=false):lk ns bs os ps=([],(jQ (cR os,ps)).2):=by
 unfold lk;rw[if_neg (by rintro(e|e);exact e h;exact e h'),if_pos hp]
def GN{ns:List aD}{bs:List Int}{os:List (D aA)}{ps:List Pt}(h:ns.length=os.length)(h':bs.length=os.length)(hp:(jQ (cR os,ps)).2.isNil=true):lk ns bs os ps=(eV ns bs (jQ (cR os,ps)).1 os.length,.nil):=by
 unfold lk;rw[if_neg (by rintro(e|e);exact e h;exact e h'),if_neg (by rw[hp];decide)]
def LH(ns:List aD)(bs:List Int)(os:List (D aA))(ps:List Pt):Told (lk ns bs os ps).2:=by
 unfold lk;split
 ·rfl
 ·split
  ·exact YX _
  ·rfl
def cI(rd:Rd)(root:aD):List (D cE)×Int:=
 if ¬(bB rd root).2.2.2.2=0 then([],(bB rd root).2.2.2.2)
 else((lk (bB rd root).1 (bB rd root).2.2.1 (bB rd root).2.1 (bB rd root).2.2.2.1).1,jj (lk (bB rd root).1 (bB rd root).2.2.1 (bB rd root).2.1 (bB rd root).2.2.2.1).2)
def jr.put{rd:Rd}{root:aD}{ns:List aD}{os:List (D aA)}{bs:List Int}{ps:List Pt}(h:jr rd root ns os bs ps):jQ (cR os,ps)=(iU (cR os) ps,.nil):=wF h.okp
def jr.lay{rd:Rd}{root:aD}{ns:List aD}{os:List (D aA)}{bs:List Int}{ps:List Pt}(h:jr rd root ns os bs ps):lk ns bs os ps=(eV ns bs (iU (cR os) ps) os.length,.nil):=by
 rw[GN h.sc.len.symm h.bl (by rw[h.put];rfl),h.put]
def rR{rd:Rd}{root:aD}(h:¬(bB rd root).2.2.2.2=0):cI rd root=([],(bB rd root).2.2.2.2):=by unfold cI;rw[if_pos h]
def GO{rd:Rd}{root:aD}{ns:List aD}{os:List (D aA)}{bs:List Int}{ps:List Pt}(e:bB rd root=(ns,os,bs,ps,0))(h:jr rd root ns os bs ps):cI rd root=(eV ns bs (iU (cR os) ps) os.length,0):=by
 unfold cI;rw[e,if_neg (by simp),h.lay];rfl
def yd{rd:Rd}(ok:fZ rd)(root:aD):(∃f,0<f/\bB rd root=([],[],[],[],f)/\cI rd root=([],f))\/
  (∃ns os bs ps,bB rd root=(ns,os,bs,ps,0)/\jr rd root ns os bs ps/\cI rd root=(eV ns bs (iU (cR os) ps) os.length,0)):=by
 rcases o7 ok root with⟨f,hf,e⟩|⟨ns,os,bs,ps,e,h⟩
 ·exact .inl ⟨f,hf,e,by rw[rR (by rw[e];simp only;omega),e]⟩
 ·exact .inr ⟨ns,os,bs,ps,e,h,GO e h⟩
def jr.row{rd:Rd}{root:aD}{ns:List aD}{os:List (D aA)}{bs:List Int}{ps:List Pt}(h:jr rd root ns os bs ps){i:Nat}(hi:i<os.length):nth iT (iU (cR os) ps) i=mK (nth aA os i).2.1 i ps:=by
 have:=YE (w:=cR os) (l:=ps) (i:=i) (by rw[nJ];exact hi) h.okp;rw[h.put,rl hi]at this;exact this
def jr.sum{rd:Rd}{root:aD}{ns:List aD}{os:List (D aA)}{bs:List Int}{ps:List Pt}(h:jr rd root ns os bs ps) :
  (∀j,j<os.length->1<=(nth aA os j).2.1.length/\(nth aA os j).2.1.length<=40)/\kv (bV os) os.length<=256/\∀i,i<os.length->(nth (.int .i64) bs i:Int)=kv (bV os) i:=by
 have hb:(cC (bV os,[])).2.isNil=true:=by rw[h.eb];rfl
 have hn:(cC (bV os,[])).1=bs:=by rw[h.eb]
 obtain⟨_,h2,h3,h4⟩:=Vf hb;rw[hn]at h4;have hl:=pF os;refine⟨fun j hj =>?_,by rw[hl]at h3;exact h3,fun i hi=>h4 i (by omega)⟩;have:=h2 j (by omega);rw[Fu hj]at this;exact⟨Int.ofNat_le.1 this.1,Int.ofNat_le.1 this.2⟩
def inP(p:D cE)(a:Int):Prop:=(p.2.1:Int)<=a/\a<(p.2.1:Int)+(p.2.2.1.length:Int)
instance(p:D cE)(a:Int):Decidable (inP p a):=inferInstanceAs (Decidable (_/\_))
def AX{rd:Rd}(ok:fZ rd){root:aD}(h:(aR rd root).2.2=0):(aR rd root).2.1.length<=6:=by
 have:=(ya ok h).le;have:=(ya ok h).len;omega
def Fw{rd:Rd}(ok:fZ rd){root:aD}(h:(aR rd root).2.2=0):jw (aR rd root).2.1:=(ya ok h).YY ok
def abt{l:List (D aA)}(h:l.length<=1000/\∀i,i<l.length->(nth aA l i).2.1.length<=1000) :
  (cR l).length<=100000/\∀i,i<(cR l).length->(nth iT (cR l) i).length<=100000000:=by
 refine⟨by rw[nJ];omega,fun i hi =>?_⟩;rw[nJ]at hi;rw[rl hi];have:=h.2 i hi;omega
def Fx{rd:Rd}(ok:fZ rd){root:aD}{ns:List aD}{os:List (D aA)}(h:Scope rd root ns os):os.length<=1000/\∀i,i<os.length->(nth aA os i).2.1.length<=1000:=by
 refine⟨by have:=h.le;have:=h.len;omega,fun i hi =>?_⟩;exact cx (h.obj ok hi).w40 (by decide)
def LI{rd:Rd}(ok:fZ rd){root:aD}(h:(bB rd root).2.2.2.2=0) :
  (bB rd root).2.1.length<=1000/\∀i,i<(bB rd root).2.1.length->(nth aA (bB rd root).2.1 i).2.1.length<=1000:=by
 rcases o7 ok root with⟨f,hf,e⟩|⟨ns,os,bs,ps,e,hr⟩
 ·rw[e]at h;simp at h;omega
 ·rw[e];exact Fx ok hr.sc
def Y0{rd:Rd}{root:aD}(h:(bB rd root).2.2.2.2=0) :
  ((lk (bB rd root).1 (bB rd root).2.2.1 (bB rd root).2.1 (bB rd root).2.2.2.1).1,(lk (bB rd root).1 (bB rd root).2.2.1 (bB rd root).2.1 (bB rd root).2.2.2.1).2,())=
   ((cI rd root).1,aL (cI rd root).2,()):=by
 unfold cI;rw[if_neg (not_not_intro h)];simp only[tf (LH _ _ _ _)]
def fA{f:Int}(h:(aL f).isNil=false):¬f=0:=fun e=>by rw[aV.2 e]at h;cases h
def Y1(x:List (D aA)×List Int):aL (jj (eM x).2)=(eM x).2:=tf (DJ x)
def mL{α:Type}{l:List α}{i:Nat}(h:¬i<l.length):l.take i=l:=bm (by omega)
def LJ{rd:Rd}{root:aD}(h:¬(aR rd root).2.2=0):(([]:List (D cE)),([]:List Pt),(aR rd root).2.2,())=((cI rd root).1,(bB rd root).2.2.2.1,(cI rd root).2,()):=by
 have e:=um h;rw[rR (by rw[e];exact h),e]
def LK{rd:Rd}{root:aD}(h:(aR rd root).2.2=0)(hn:jj (cC (bV (aR rd root).2.1,[])).2 > 0) :
  (([]:List (D cE)),([]:List Pt),jj (cC (bV (aR rd root).2.1,[])).2,())=((cI rd root).1,(bB rd root).2.2.2.1,(cI rd root).2,()):=by
 have h1:(cC (bV (aR rd root).2.1,[])).2.isNil=false:=by
  cases e:(cC (bV (aR rd root).2.1,[])).2 <;> first|rfl|(rw[e]at hn;exact absurd hn (by decide))
 have e:=uo h h1;rw[rR (by rw[e];show ¬jj _=0;omega),e]
def Sb{rd:Rd}{root:aD}(h:(aR rd root).2.2=0)(h1:(cC (bV (aR rd root).2.1,[])).2.isNil=true)
  (hn:jj (eM ((aR rd root).2.1,(cC (bV (aR rd root).2.1,[])).1)).2 > 0) :
  (([]:List (D cE)),([]:List Pt),jj (eM ((aR rd root).2.1,(cC (bV (aR rd root).2.1,[])).1)).2,())=((cI rd root).1,(bB rd root).2.2.2.1,(cI rd root).2,()):=by
 have h2:(eM ((aR rd root).2.1,(cC (bV (aR rd root).2.1,[])).1)).2.isNil=false:=by
  cases e:(eM ((aR rd root).2.1,(cC (bV (aR rd root).2.1,[])).1)).2 <;> first|rfl|(rw[e]at hn;exact absurd hn (by decide))
 have e:=yc h h1 h2;rw[rR (by rw[e];show ¬jj _=0;omega),e]
def LL{e:aS}(ht:Told e)(h:jj e<=0):e.isNil=true:=by
 cases hb:e.isNil with
 |true=>rfl
 |false=>have:=DX ht hb;omega
def wL{rd:Rd}(ok:fZ rd){root:aD}(h:(aR rd root).2.2=0)(h1:jj (cC (bV (aR rd root).2.1,[])).2<=0)
  (h2:jj (eM ((aR rd root).2.1,(cC (bV (aR rd root).2.1,[])).1)).2<=0) :
  jr rd root (aR rd root).1 (aR rd root).2.1 (cC (bV (aR rd root).2.1,[])).1 (eM ((aR rd root).2.1,(cC (bV (aR rd root).2.1,[])).1)).1/\
  bB rd root=((aR rd root).1,(aR rd root).2.1,(cC (bV (aR rd root).2.1,[])).1,(eM ((aR rd root).2.1,(cC (bV (aR rd root).2.1,[])).1)).1,0):=by
 have e:=vN h (LL (tc _) h1) (LL (DJ _) h2);rcases o7 ok root with⟨f,hf,e'⟩|⟨ns,os,bs,ps,e',hr⟩
 ·rw[e']at e;have:=congrArg (fun x:Rk=>x.2.2.2.2) e;simp only at this;omega
 ·rw[e']at e
  have a:=congrArg (fun x:Rk=>x.1) e;have b:=congrArg (fun x:Rk=>x.2.1) e;have c:=congrArg (fun x:Rk=>x.2.2.1) e;have d:=congrArg (fun x:Rk=>x.2.2.2.1) e;simp only at a b c d;rw[a,b,c,d]at hr e';exact⟨hr,e'⟩
def Oo{rd:Rd}{root:aD}{ns:List aD}{os:List (D aA)}{bs:List Int}{ps:List Pt}(h:jr rd root ns os bs ps)(e:bB rd root=(ns,os,bs,ps,0)) :
  (eV ns bs (iU (cR os) ps) os.length,ps,(0:Int),())=((cI rd root).1,(bB rd root).2.2.2.1,(cI rd root).2,()):=by
 rw[GO e h,e]
def Sc{rd:Rd}{root:aD}{ns:List aD}{os:List (D aA)}{bs:List Int}{ps:List Pt}(h:jr rd root ns os bs ps){i:Nat}(hi:i<os.length){r:List Int}(hr:r=mK (nth aA os i).2.1 i ps) :
  eV ns bs (iU (cR os) ps) i++[(nth .str ns i,nth (.int .i64) bs i,r,())]=eV ns bs (iU (cR os) ps) (i+1):=by
 rw[vO,h.row hi,hr]
def Y2{rd:Rd}{root:aD}{ns:List aD}{os:List (D aA)}{bs:List Int}{ps:List Pt}(h:jr rd root ns os bs ps){i k:Nat}(hk:k<ps.length)(e:(nth aN ps k).1=(i:Int))(hi:i<os.length) :
  (0:Int)<=(nth aN ps k).2.1/\(nth aN ps k).2.1<((mK (nth aA os i).2.1 i (ps.take k)).length:Int):=by
 have hp:=h.okp k hk;rw[CE];refine⟨hp.2.2.1,?_⟩;have:=hp.2.2.2;rw[e,du,rl hi]at this;exact this
abbrev aaQ:=Unit×List (List UInt8)×List Int×List (D aP)×List (D aQ)×(Bool×Unit)×Unit
def Y3(x:aaQ):D aA:=(x.2.1,x.2.2.1,x.2.2.2.1,x.2.2.2.2.1,())
def Vi(p:D aA×Bool):aaQ:=((),p.1.1,p.1.2.1,p.1.2.2.1,p.1.2.2.2.1,(p.2,()),())
def LM(s p:aD):(a7 s p).length<=s.length:=by unfold a7;split <;> simp
def Qg{s:aD}{w:List aD}(hw:w=parts 32 (a7 s eU))(i:Nat):(nth .str w i).length<=s.length:=by
 by_cases h:i<w.length
 ·have h1:=eO (t:=.str) h
  rw[hw]at h1;have:=oY _ _ _ h1;rw[<-hw]at this;exact cx this (LM _ _)
 ·unfold nth;rw[List.getD_eq_getElem?_getD,List.getElem?_eq_none (by omega)];exact ao _
def Y4{s:aD}{w:List aD}(hw:w=parts 32 (a7 s eU)):0<w.length:=by rw[hw];exact dx.2 (ug _ _)
def iJ{c:Bool}{P:Prop}(q:c=true↔P)(h:c=false):¬P:=fun p=>by rw[q.2 p]at h;cases h
section
variable{o:D aA}{b:Bool}{s:aD}{w:List aD}(hw:w=parts 32 (a7 s eU))
include hw
def Sd(h:nth .str w 0=iq/\w.length=2):iz o b s=(ni o (nth .str w 1),b):=by
 unfold iz;simp only;rw[<-hw,if_pos h]
def Se(h0:¬(nth .str w 0=iq/\w.length=2))(h:nth .str w 0=ie/\w.length=2):iz o b s=(nj o (eX (nth .str w 1)).1,b || (dK (nth .str w 1)).isNone):=by
 unfold iz;simp only;rw[<-hw,if_neg h0,if_pos h]
def Vj(h0:¬(nth .str w 0=iq/\w.length=2))(h1:¬(nth .str w 0=ie/\w.length=2))(h:nth .str w 0=fS/\w.length=3) :
  iz o b s=(ri o (nth .str w 1,(eX (nth .str w 2)).1,ax s eU,()),b || (dK (nth .str w 2)).isNone):=by
 unfold iz;simp only;rw[<-hw,if_neg h0,if_neg h1,if_pos h]
def Sf(h0:¬(nth .str w 0=iq/\w.length=2))(h1:¬(nth .str w 0=ie/\w.length=2))(h2:¬(nth .str w 0=fS/\w.length=3))(h:nth .str w 0=ku/\w.length=3) :
  iz o b s=(lu o ((eX (nth .str w 1)).1,1,(eX (nth .str w 2)).1,[],false,()),(b || (dK (nth .str w 1)).isNone) || (dK (nth .str w 2)).isNone):=by
 unfold iz;simp only;rw[<-hw,if_neg h0,if_neg h1,if_neg h2,if_pos h]
def Ik(h0:¬(nth .str w 0=iq/\w.length=2))(h1:¬(nth .str w 0=ie/\w.length=2))(h2:¬(nth .str w 0=fS/\w.length=3))(h3:¬(nth .str w 0=ku/\w.length=3))
  (h:(nth .str w 0=iI\/nth .str w 0=jE)/\w.length=4){k:Int}(hk:k=if nth .str w 0=jE then 3 else 2) :
  iz o b s=(lu o ((eX (nth .str w 1)).1,k,(eX (nth .str w 2)).1,nth .str w 3,ax s eU,()),(b || (dK (nth .str w 1)).isNone) || (dK (nth .str w 2)).isNone):=by
 unfold iz;simp only;rw[<-hw,if_neg h0,if_neg h1,if_neg h2,if_neg h3,if_pos h,hk]
def Sg(h0:¬(nth .str w 0=iq/\w.length=2))(h1:¬(nth .str w 0=ie/\w.length=2))(h2:¬(nth .str w 0=fS/\w.length=3))(h3:¬(nth .str w 0=ku/\w.length=3))
  (h:¬((nth .str w 0=iI\/nth .str w 0=jE)/\w.length=4)):iz o b s=(o,true):=by
 unfold iz;simp only;rw[<-hw,if_neg h0,if_neg h1,if_neg h2,if_neg h3,if_neg h]
end
structure jY (c:UInt8) (s:aD) (i:Nat) (L:List aD) (x:aD):Prop where
 le:i<=s.length
 eq:nh c L++x=s.take i
 free:∀y∈L,c∉y
 fx:c∉x
 len:L.length<=i
 lx:x.length<=i
def jY.zero(c:UInt8)(s:aD):jY c s 0 [] []:=⟨ao _,rfl,by simp,by simp,by simp,by simp⟩
def sK{s:aD}{i:Nat}(h:i<s.length):s.take (i+1)=s.take i++[bR s i]:=by
 rw[cp,Ai h];rfl
def jY.cut{c:UInt8}{s:aD}{i:Nat}{L:List aD}{x:aD}(h:jY c s i L x)(hi:i<s.length)(e:bR s i=c):jY c s (i+1) (L++[x]) []:=by
 refine⟨hi,?_,fun y hy =>?_,by simp,by have:=h.len;simp;omega,by simp⟩
 ·rw[sK hi,<-h.eq,e,HW];simp
 ·rcases bb.1 hy with hy|hy
  ·exact h.free y hy
  ·simp at hy;subst hy;exact h.fx
def jY.more{c:UInt8}{s:aD}{i:Nat}{L:List aD}{x:aD}(h:jY c s i L x)(hi:i<s.length)(e:¬bR s i=c):jY c s (i+1) L (x++[bR s i]):=by
 refine⟨hi,?_,h.free,?_,by have:=h.len;omega,by have:=h.lx;simp;omega⟩
 ·rw[sK hi,<-h.eq];simp
 ·intro hc
  rcases bb.1 hc with hc|hc
  ·exact h.fx hc
  ·simp at hc;exact e hc.symm
def jY.done{c:UInt8}{s:aD}{i:Nat}{L:List aD}{x:aD}(h:jY c s i L x)(hi:¬i<s.length):L++[x]=parts c s:=by
 have e:=h.eq;rw[bm (by omega)]at e;rw[<-e,xO h.free h.fx]
structure jZ (c:UInt8) (s:aD) (i:Nat) (L:List aD) (f:Nat):Prop where
 le:i<=s.length
 fi:f<=i
 eq:nh c L=s.take f
 free:∀y∈L,c∉y
 gap:∀j,f<=j->j<i->¬bR s j=c
 len:L.length<=i
def jZ.zero(c:UInt8)(s:aD):jZ c s 0 [] 0:=⟨ao _,ar _,rfl,by simp,fun j h h'=>by omega,by simp⟩
def Fy{c:UInt8}{s:aD}{f i:Nat}(hi:i<=s.length)(h:∀j,f<=j->j<i->¬bR s j=c):c∉(s.take i).drop f:=by
 intro hc;obtain⟨k,hk,e⟩:=ct hc;rw[List.length_drop,bc]at hk;rw[List.getElem_drop,ej]at e;refine h (f+k) (by omega) (by omega) ?_;rw[wg (List.getElem?_eq_getElem (show f+k<s.length by omega))];exact e
def jZ.cut{c:UInt8}{s:aD}{i:Nat}{L:List aD}{f:Nat}(h:jZ c s i L f)(hi:i<s.length)(e:bR s i=c):jZ c s (i+1) (L++[(s.take i).drop f]) (i+1):=by
 refine⟨hi,ar _,?_,fun y hy =>?_,fun j h1 h2=>by omega,by have:=h.len;simp;omega⟩
 ·have hf:=h.fi
  rw[HW,h.eq,sK hi,e];congr 1;have:=ew f (s.take i);rw[List.take_take,df hf]at this;exact this
 ·rcases bb.1 hy with hy|hy
  ·exact h.free y hy
  ·simp at hy;subst hy;exact Fy h.le h.gap
def jZ.more{c:UInt8}{s:aD}{i:Nat}{L:List aD}{f:Nat}(h:jZ c s i L f)(hi:i<s.length)(e:¬bR s i=c):jZ c s (i+1) L f:=by
 refine⟨hi,by have:=h.fi;omega,h.eq,h.free,fun j h1 h2 =>?_,by have:=h.len;omega⟩;rcases bq j i with hl|hl
 ·exact h.gap j h1 hl
 ·rw[show j=i by omega];exact e
def jZ.done{s:aD}{i:Nat}{L:List aD}{f:Nat}(h:jZ 10 s i L f)(hi:¬i<s.length):(L,(f == s.length))=vJ s:=by
 have hle:=h.le;have e:i=s.length:=by omega
 have hx:(10:UInt8)∉s.drop f:=by
  have:=Fy h.le h.gap
  rwa [bm (by omega)]at this
 rw[Qc (x:=s.drop f) h.free hx (by rw[h.eq,ew])];congr 1;have:=h.fi;rw[ei];simp[List.drop_eq_nil_iff];omega
def Vk{s:aD}(h:0<s.length)(h2:bR s 0=45):dV s=s.drop 1/\(dV s).length<s.length:=by
 cases s with
 |nil=>simp at h
 |cons c r=>
  have:c=45:=h2;subst this;exact⟨rfl,by simp[dV]⟩
def Il{s:aD}(h:¬(0<s.length/\bR s 0=45)):dV s=s:=by
 cases s with
 |nil=>rfl
 |cons c r=>
  have:¬c=45:=fun e=>h ⟨by simp,e⟩
  unfold dV;split
  ·rename_i e;cases e;exact absurd rfl this
  ·rfl
def Im{s:aD}(h:0<s.length):s.head?=some (bR s 0):=by
 cases s with
 |nil=>simp at h
 |cons c r=>rfl
def Si{s:aD}(h:(dV s).length<1\/(dV s).length > 18):oy s=none:=by
 unfold oy;rw[if_pos];rcases h with h|h;exact .inl h;exact .inr (.inl h)
def Sj{s:aD}(h:0<(dV s).length)(h1:bR (dV s) 0=48)(h2:1<s.length):oy s=none:=by
 unfold oy;rw[if_pos];exact .inr (.inr ⟨by rw[Im h,h1],h2⟩)
def abu{s:aD}(h:¬(dV s).length<1)(h':¬(dV s).length > 18)(h2:¬(bR (dV s) 0=48/\1<s.length)) :
  oy s=if(dV s).all kV=true then some (if(dV s).length<s.length then -(mg (dV s):Int)else(mg (dV s):Int))else none:=by
 unfold oy;rw[if_neg];rintro(e|e|⟨e,e'⟩)
 ·exact h e
 ·exact h' e
 ·rw[Im (by omega)]at e
  exact h2 ⟨de e,e'⟩
def ac6{s:aD}{p:UInt8->Bool}{i:Nat}(h:i<s.length)(hn:p (bR s i)=false):s.all p=false:=by
 rw[dd];exact⟨bR s i,cd (Ai h),by rw[hn];decide⟩
def ac7{s:aD}{p:UInt8->Bool}(h:∀j,j<s.length->p (bR s j)=true):s.all p=true:=by
 rw[bh];intro x hx;obtain⟨i,hi,rfl⟩:=ct hx;have:=h i hi
 rwa [wg (List.getElem?_eq_getElem hi)]at this
def Vl{s:aD}{i:Nat}(h:i<s.length):mg (s.take (i+1))=10*mg (s.take i)+((bR s i).toNat-48):=by rw[sK h,AK]
def rn(s:aD):Int×Bool:=(match oy s with|some n=>n|none=>0,(oy s).isSome)
def vP(s:aD):Int:=(rn s).1
def sY(s:aD):Bool:=(rn s).2
def nK(s:aD):List aD:=(vJ s).1
def AY(s:aD):Bool:=(vJ s).2
def AZ{s:aD}(h:oy s=none):((0:Int),false)=rn s:=by unfold rn;rw[h];rfl
def Io{s:aD}{n:Int}(h:oy s=some n):(n,true)=rn s:=by unfold rn;rw[h];rfl
def Fz{s:aD}(h0:(s.length:Int) > 0)(h1:((bR s 0).toNat:Int)=45):dV s=ai 1 (af (bo s) s):=by
 rw[(Vk (by omega) (dv.1 (by rw[cz.1 (show((bR s 0).toNat:Int)=(45:Nat)from h1)];rfl))).1,cj]
def FA{s:aD}(h1:¬((bR s 0).toNat:Int)=45):dV s=s:=Il fun h=>h1 (by rw[h.2];rfl)
def FB{s:aD}(h0:(s.length:Int)<=0):dV s=s:=Il fun h=>by omega
def Y5{s t:aD}(hm:dV s=t)(h:t.length<1\/t.length > 18):((0:Int),false)=rn s:=AZ (Si (by rw[hm];exact h))
def Vm{s t:aD}(hm:dV s=t)(h:0<t.length)(h1:((bR t 0).toNat:Int)=48)(h2:1<s.length):((0:Int),false)=rn s:=
 AZ (Sj (by rw[hm];exact h) (by rw[hm];exact dv.1 (by rw[cz.1 (show((bR t 0).toNat:Int)=(48:Nat)from h1)];rfl)) h2)
def Y6{s t:aD}(hm:dV s=t){i:Nat}(hi:i<t.length)(h:((bR t i).toNat:Int)<48\/((bR t i).toNat:Int) > 57):((0:Int),false)=rn s:=by
 refine AZ ?_;have:(dV s).all kV=false:=by
  rw[hm];exact ac6 hi (by unfold kV;simp;omega)
 unfold oy;split
 ·rfl
 ·rw[if_neg (by rw[this];decide)]
def Y7{c:UInt8}(h:(48:Int)<=(c.toNat:Int))(h':(c.toNat:Int)<=57):kV c=true:=by unfold kV;simp;omega
def CN{s:aD}{i:Nat}(h:i<s.length)(h18:s.length<=18)(hd:∀j,j<i->kV (bR s j)=true):mg (s.take i)<100000000000000000:=by
 refine eg (P6 i _ (by simp;omega) fun c hc =>?_) (cx (eh (by decide) (show i<=17 by omega)) (by decide));obtain⟨k,hk,rfl⟩:=ct hc;rw[bc]at hk;have:=hd k (by omega);rw[ej];rw[wg (List.getElem?_eq_getElem (show k<s.length by omega))]at this;simpa[kV]using this
def LN{s t:aD}(hm:dV s=t){i:Nat}(hi:i<t.length)(h:(48:Int)<=((bR t i).toNat:Int))(h':((bR t i).toNat:Int)<=57){x1 x2:Int}(q1:x1=10*(mg (af i (dV s)):Int))
  (q2:x2=aw c1 (((bR t i).toNat:Int)-48)):x1+x2=(mg (af (i+1) (dV s)):Int)/\0<=x2/\x2<=9:=by
 have hw:aw c1 (((bR t i).toNat:Int)-48)=((bR t i).toNat:Int)-48:=by simp[aw,bz,b5];omega
 rw[hw]at q2;rw[hm]at q1 ⊢;rw[Vl hi];omega
def LO{s t:aD}(hm:dV s=t)(h1:¬t.length<1)(h18:t.length<=18)(h0:((bR t 0).toNat:Int)=48->¬1<s.length){i:Nat}(hi:¬i<t.length)(hd:∀j,j<i->kV (bR (dV s) j)=true) :
  oy s=some (if t.length<s.length then -(mg (af i (dV s)):Int)else(mg (af i (dV s)):Int)):=by
 subst hm;rw[abu h1 (by omega) (fun h=>h0 (by rw[h.1];rfl) h.2),if_pos (ac7 fun j hj=>hd j (by omega)),bm (by omega)]
def Y8{s t:aD}(hm:dV s=t)(h1:¬t.length<1)(h18:t.length<=18)(h0:((bR t 0).toNat:Int)=48->¬1<s.length){i:Nat}(hi:¬i<t.length)(hd:∀j,j<i->kV (bR (dV s) j)=true)(hl:t.length<s.length) :
  ((0:Int)-(mg (af i (dV s)):Int),true)=rn s:=by
 have:=LO hm h1 h18 h0 hi hd;rw[if_pos hl]at this;rw[<-Io this,Int.zero_sub]
def Y9{s t:aD}(hm:dV s=t)(h1:¬t.length<1)(h18:t.length<=18)(h0:((bR t 0).toNat:Int)=48->¬1<s.length){i:Nat}(hi:¬i<t.length)(hd:∀j,j<i->kV (bR (dV s) j)=true)(hl:¬t.length<s.length) :
  ((mg (af i (dV s)):Int),true)=rn s:=by
 have:=LO hm h1 h18 h0 hi hd;rw[if_neg hl]at this;rw[<-Io this]
def FC{s:aD}{i:Nat}(h:i<s.length):ai i (af (ay ((i:Int)+1)) s)=[bR s i]:=by
 rw[show ay ((i:Int)+1)=i+1 by omega,sK h,List.drop_append_of_le_length (by simp;omega),bj (by simp;omega)];rfl
def Qh{c d:UInt8}{n:Nat}(h:(c.toNat:Int)=n)(hd:d.toNat=n):c=d:=dv.1 (by omega)
def Qi{c d:UInt8}{n:Nat}(h:¬(c.toNat:Int)=n)(hd:d.toNat=n):¬c=d:=fun e=>h (by rw[e];omega)
def p5(s:aD):D aA×aS:=((cF s).1,aL (cF s).2)
def Sk{s:aD}(h:s.length > 1200):(cB aA,aS.no 2)=p5 s:=by unfold p5;rw[AS h];rfl
def nk.run{L:List aD}{i:Nat}{o:D aA}{b:Bool}(h:nk L i o b)(hi:¬i<L.length):(run rj (cB aA) L=some o/\b=false)\/(run rj (cB aA) L=none/\b=true):=by
 have:=h.st
 rwa [bm (by omega)]at this
def A0{s:aD}{i:Nat}{o:D aA}{b:Bool}(h:nk (parts 10 (ae s [10])) i o b)(hi:¬i<(parts 10 (ae s [10])).length)(hl:¬s.length > 1200)
  (hb:b=true\/(l9 o).2.isNil=false\/¬(l9 o).1=s):(cB aA,aS.no 4)=p5 s:=by
 have:cF s=(cB aA,4):=by
  rcases h.run hi with⟨hr,h0⟩|⟨hr,h0⟩
  ·rcases hb with hb|hb|hb
   ·rw[hb]at h0;cases h0
   ·refine Fp hl hr fun hf ht =>?_
    rw[xT hf rfl (by show(fN o).length<=1200;rw[ht];omega)]at hb;cases hb
   ·refine Fp hl hr fun hf ht=>hb ?_
    rw[xT hf rfl (by show(fN o).length<=1200;rw[ht];omega)];exact ht
  ·exact R2 hl hr
 unfold p5;rw[this];rfl
def Za{s:aD}{o:D aA}(hl:¬s.length > 1200)
  (hn:(l9 o).2.isNil=true)(ht:(l9 o).1=s):(o,aS.nil)=p5 s:=by
 have hf:cK o=0:=by
  apply au;intro hf;rw[Ia hf]at hn;exact hf (aV.1 hn)
 have hs:fN o=s:=by
  by_cases h:(fN o).length > 1200
  ·rw[Fj hf rfl h]at hn;cases hn
  ·rw[xT hf rfl (by show(fN o).length<=1200;omega)]at ht;exact ht
 unfold p5;rw[BX hl hf hs];rfl
def BY(s p:aD):(ae s p).length<=s.length:=by unfold ae;split <;> simp
def Vn(s:aD)(h:s.length<=1200):(parts 10 (ae s [10])).length<=1201:=by
 have h1:=sH 10 (ae s [10]);have h2:(ae s [10]).length<=s.length:=by unfold ae;split <;> simp
 omega
def Sl{s:aD}(h:s.length<=1200)(i:Nat):(nth .str (parts 10 (ae s [10])) i).length<=1200:=by
 by_cases hi:i<(parts 10 (ae s [10])).length
 ·have:=oY _ _ _ (eO (t:=.str) hi)
  have h2:(ae s [10]).length<=s.length:=by unfold ae;split <;> simp
  omega
 ·unfold nth;rw[List.getD_eq_getElem?_getD,List.getElem?_eq_none (by omega)];exact ao _
structure mM (L:List aD) (i:Nat) (o:D aA):Prop where
 le:i<=L.length
 st:run ma (cB aA) (L.take i)=some o
 l1:o.1.length<=i
 l2:o.2.1.length<=i
 l3:o.2.2.1.length<=i
 l4:o.2.2.2.1.length<=i
def mM.zero(L:List aD):mM L 0 (cB aA):=⟨ao _,rfl,ar _,ar _,ar _,ar _⟩
structure qx (o p:D aA):Prop where
 l1:p.1.length<=o.1.length+1
 l2:p.2.1.length<=o.2.1.length+1
 l3:p.2.2.1.length<=o.2.2.1.length+1
 l4:p.2.2.2.1.length<=o.2.2.2.1.length+1
def BZ{α:Type}(l:List α)(x:α):(l++[x]).length<=l.length+1:=by simp
def qx.uj(o:D aA)(s:aD):qx o (ni o s):=⟨BZ _ _,a8 _,a8 _,a8 _⟩
def qx.word(o:D aA)(n:Int):qx o (nj o n):=⟨a8 _,BZ _ _,a8 _,a8 _⟩
def qx.sym(o:D aA)(y:D aP):qx o (ri o y):=⟨a8 _,a8 _,BZ _ _,a8 _⟩
def qx.tie(o:D aA)(t:D aQ):qx o (lu o t):=⟨a8 _,a8 _,a8 _,BZ _ _⟩
def mM.next{L:List aD}{i:Nat}{o p:D aA}(h:mM L i o)(hi:i<L.length)(hl:ma o (nth .str L i)=some p)(hm:qx o p):mM L (i+1) p:=by
 have a1:=h.l1;have a2:=h.l2;have a3:=h.l3;have a4:=h.l4;have b1:=hm.l1;have b2:=hm.l2;have b3:=hm.l3;have b4:=hm.l4;refine⟨hi,?_,by omega,by omega,by omega,by omega⟩;rw[gI (t:=.str) hi,DR,h.st,et];exact hl
def mM.fail{L:List aD}{i:Nat}{o:D aA}(h:mM L i o)(hi:i<L.length)(hl:ma o (nth .str L i)=none):run ma (cB aA) L=none:=by
 have:=wJ (m:=L.drop i) h.st;rw[ew,iY (t:=.str) hi]at this;rw[this];simp only[run];rw[hl]
def mM.done{L:List aD}{i:Nat}{o:D aA}(h:mM L i o)(hi:¬i<L.length):run ma (cB aA) L=some o:=by
 have:=h.st
 rwa [bm (by omega)]at this
def Vo{w:List aD}(h:w.length=2):w=[nth .str w 0,nth .str w 1]:=by
 match w,h with
 |[a,b],_=>rfl
def LP{w:List aD}(h:w.length=3):w=[nth .str w 0,nth .str w 1,nth .str w 2]:=by
 match w,h with
 |[a,b,c],_=>rfl
def Qj{w:List aD}(h:w.length=4):w=[nth .str w 0,nth .str w 1,nth .str w 2,nth .str w 3]:=by
 match w,h with
 |[a,b,c,d],_=>rfl
def eY(w:List aD)(k:Nat):List Int:=(b6 (k-1)).map fun i=>oz (nth .str w (i+1))
def Ip(w:List aD)(k:Nat):(eY w k).length=k-1:=by simp[eY]
def FD{w:List aD}{k:Nat}(h:1<=k):eY w (k+1)=eY w k++[oz (nth .str w k)]:=by
 obtain⟨m,rfl⟩:∃m,k=m+1:=⟨k-1,by omega⟩
 simp[eY,cu]
def nw{w:List aD}{k i:Nat}(h:i+1<k):(nth (.int .i64) (eY w k) i:Int)=oz (nth .str w (i+1)):=by
 apply gD;simp[eY,show i<k-1 by omega]
def abv{s:aD}(h:sY s=true):vP s=oz s:=by
 unfold sY rn at h;unfold vP rn oz;cases hn:oy s with
 |none=>rw[hn]at h;cases h
 |some n=>rfl
def Zb{s:aD}(h:sY s=false):(-1099511627776:Int)=oz s:=by
 unfold sY rn at h;unfold oz;cases hn:oy s with
 |none=>rfl
 |some n=>rw[hn]at h;cases h
def LQ{w:List aD}{k:Nat}(h:1<=k)(hn:sY (nth .str w k)=true):eY w k++[vP (nth .str w k)]=eY w (k+1):=by rw[FD h,abv hn]
def Iq{w:List aD}{k:Nat}(h:1<=k)(hn:sY (nth .str w k)=false):eY w k++[(-1099511627776:Int)]=eY w (k+1):=by rw[FD h,<-Zb hn]
section
variable{o:D aA}{b:Bool}{w:List aD}{k:Nat}
def Oq(h:w.length=2/\nth .str w 0=iq):jy o b w=some (ni o (nth .str w 1)):=by
 rw[Vo h.1];show(if nth .str w 0=iq then _ else _)=_;rw[if_pos h.2];rfl
def Ot(h0:¬(w.length=2/\nth .str w 0=iq))(h:w.length=2/\nth .str w 0=ie)(hk:1<k):jy o b w=some (nj o (nth (.int .i64) (eY w k) 0)):=by
 rw[nw (by omega),Vo h.1];show(if nth .str w 0=iq then _ else if nth .str w 0=ie then _ else _)=_;rw[if_neg fun e=>h0 ⟨h.1,e⟩,if_pos h.2];rfl
def Sm(h:w.length=3/\nth .str w 0=fS)(hk:2<k):jy o b w=some (ri o (nth .str w 1,nth (.int .i64) (eY w k) 1,b,())):=by
 rw[nw (by omega),LP h.1];show(if nth .str w 0=fS then _ else _)=_;rw[if_pos h.2];rfl
def Ou(h0:¬(w.length=3/\nth .str w 0=fS))(h:w.length=3/\nth .str w 0=ku)(hk:2<k):jy o b w=some (lu o (nth (.int .i64) (eY w k) 0,1,nth (.int .i64) (eY w k) 1,[],b,())):=by
 rw[nw (by omega),nw (by omega),LP h.1];show(if nth .str w 0=fS then _ else if nth .str w 0=ku then _ else _)=_;rw[if_neg fun e=>h0 ⟨h.1,e⟩,if_pos h.2];rfl
def LR(h:w.length=4/\nth .str w 0=iI)(hk:2<k):jy o b w=some (lu o (nth (.int .i64) (eY w k) 0,2,nth (.int .i64) (eY w k) 1,nth .str w 3,b,())):=by
 rw[nw (by omega),nw (by omega),Qj h.1];show(if nth .str w 0=iI then _ else _)=_;rw[if_pos h.2];rfl
def Ov(h0:¬(w.length=4/\nth .str w 0=iI))(h:w.length=4/\nth .str w 0=jE)(hk:2<k):jy o b w=some (lu o (nth (.int .i64) (eY w k) 0,3,nth (.int .i64) (eY w k) 1,nth .str w 3,b,())):=by
 rw[nw (by omega),nw (by omega),Qj h.1];show(if nth .str w 0=iI then _ else if nth .str w 0=jE then _ else _)=_;rw[if_neg fun e=>h0 ⟨h.1,e⟩,if_pos h.2];rfl
def Ow(h0:¬(w.length=2/\nth .str w 0=iq))(h1:¬(w.length=2/\nth .str w 0=ie))(h2:¬(w.length=3/\nth .str w 0=fS))(h3:¬(w.length=3/\nth .str w 0=ku))
  (h4:¬(w.length=4/\nth .str w 0=iI))(h5:¬(w.length=4/\nth .str w 0=jE)):jy o b w=none:=by
 match w with
 |[]=>rfl
 |[_]=>rfl
 |[a,x]=>show(if a=iq then _ else if a=ie then _ else _)=_;rw[if_neg (show ¬a=iq from fun e=>h0 ⟨rfl,e⟩),if_neg (show ¬a=ie from fun e=>h1 ⟨rfl,e⟩)]
 |[a,x,y]=>show(if a=fS then _ else if a=ku then _ else _)=_;rw[if_neg (show ¬a=fS from fun e=>h2 ⟨rfl,e⟩),if_neg (show ¬a=ku from fun e=>h3 ⟨rfl,e⟩)]
 |[a,x,y,z]=>show(if a=iI then _ else if a=jE then _ else _)=_;rw[if_neg (show ¬a=iI from fun e=>h4 ⟨rfl,e⟩),if_neg (show ¬a=jE from fun e=>h5 ⟨rfl,e⟩)]
 |_ :: _ :: _ :: _ :: _ :: _=>rfl
end
def Qk{s:aD}{x:List aD}(hx:x=parts 32 s):BV x=(nth .str x 0 == pB):=by
 have:=ug 32 s;rw[<-hx]at this;unfold BV
 match x,this with
 |a :: r,_=>rw[ei];simp[nth]
def Vp{o:D aA}{s:aD}{x w:List aD}(hx:x=parts 32 s)(h:nth .str x 0=pB)(hw:w=x.drop 1):ma o s=jy o (nth .str x 0 == pB) w:=by
 unfold ma Fl;rw[<-hx,Qk hx,h,hw];rfl
def Zc{o:D aA}{s:aD}{x:List aD}(hx:x=parts 32 s)(h:¬nth .str x 0=pB):ma o s=jy o (nth .str x 0 == pB) x:=by
 have:(nth .str x 0 == pB)=false:=by simpa using h
 unfold ma Fl;rw[<-hx,Qk hx,this];rfl
def jT{w:List aD}{n:Nat}{m:Int}{a:aD}(h:(w.length:Int)=m)(hm:m=(n:Int)):(nth .str w 0 == a)=true↔(w.length=n/\nth .str w 0=a):=by
 simp;omega
def jF{w:List aD}{n:Nat}{m:Int}{P:Prop}(h:¬(w.length:Int)=m)(hm:m=(n:Int)):false=true↔(w.length=n/\P):=by
 constructor
 ·intro h;cases h
 ·rintro⟨h1,_⟩;omega
def eT{k n:Nat}(h:(k:Int)<(n:Int)):(decide ((k:Int)<3))=true↔((k:Int)<(n:Int)/\(k:Int)<3):=by
 rw[decide_eq_true_eq];omega
def eF{k n:Nat}(h:(n:Int)<=(k:Int)):false=true↔((k:Int)<(n:Int)/\(k:Int)<3):=by
 constructor
 ·intro h;cases h
 ·intro h;omega
def ye{k n:Nat}(h:1<=k/\k<=3/\(k=1\/k<=n))(h':¬((k:Int)<(n:Int)/\(k:Int)<3)):(n=2->k=2)/\(3<=n->k=3):=by omega
def ac8{c:UInt8}{s:aD}{w:List aD}(h:w=parts c s):0<w.length:=by rw[h];exact dx.2 (ug c s)
def Sn{s:aD}{i:Nat}{o:D aA}(hl:¬s.length > 1200)(h:mM (nK s) i o)(hi:i<(nK s).length)(hn:ma o (nth .str (nK s) i)=none):((cB aA,4):D aA×Int)=cF s:=
 (R4 hl (h.fail hi hn)).symm
def A4{s:aD}{i:Nat}{o:D aA}(hl:¬s.length > 1200)(h:mM (nK s) i o)(hi:¬i<(nK s).length)
  (hb:cK o > 0\/(mE o).2 > 0\/¬(mE o).1=s):((cB aA,4):D aA×Int)=cF s:=by
 refine(R5 hl (h.done hi) fun hf ht =>?_).symm;rcases hb with hb|hb|hb
 ·omega
 ·rw[xU rfl (by show(fN o).length<=1200;rw[ht];omega)]at hb;exact absurd hb (by simp)
 ·rw[xU rfl (by show(fN o).length<=1200;rw[ht];omega)]at hb;exact hb ht
def Sp{s:aD}{o:D aA}(hl:¬s.length > 1200)(hf:cK o<=0)(hn:(mE o).2<=0)(ht:(mE o).1=s):((o,0):D aA×Int)=cF s:=by
 have hf0:cK o=0:=by have:=yT o;omega
 have hs:fN o=s:=by
  by_cases h:(fN o).length > 1200
  ·rw[Fk rfl h]at hn;exact absurd hn (by decide)
  ·rw[xU rfl (by show(fN o).length<=1200;omega)]at ht;exact ht
 exact(BX hl hf0 hs).symm
def Vq{s:aD}(h:s.length > 1200):((cB aA,2):D aA×Int)=cF s:=(AS h).symm
def Sq{s:aD}(h:¬s.length > 1200)(hr:AY s=false):((cB aA,4):D aA×Int)=cF s:=(Vb h hr).symm
def Zd{s:aD}(h:s.length<=1200):(nK s).length<=1201:=by
 have:=sH 10 s;unfold nK vJ;simp;omega
def Sr{s:aD}(h:s.length<=1200)(i:Nat):(nth .str (nK s) i).length<=1200:=by
 by_cases hi:i<(nK s).length
 ·have h1:=eO (t:=.str) hi
  have:=oY 10 s _ (List.dropLast_sublist _ |>.subset h1);omega
 ·unfold nth;rw[List.getD_eq_getElem?_getD,List.getElem?_eq_none (by omega)];exact ao _
def cS(rd:Rd)(ns:List aD)(bs:List Int)(n:Nat):List (D aG):=(b6 n).map fun i=>(nth .str ns i,(rd (nth .str ns i)).2.1,nth (.int .i64) bs i,())
def fB(rd:Rd)(ns:List aD)(bs:List Int)(n:Nat):(cS rd ns bs n).length=n:=by simp[cS]
def A5(rd:Rd)(ns:List aD)(bs:List Int)(n:Nat):cS rd ns bs (n+1)=cS rd ns bs n++[(nth .str ns n,(rd (nth .str ns n)).2.1,nth (.int .i64) bs n,())]:=by simp[cS,cu]
def jJ{rd:Rd}{ns:List aD}{bs:List Int}{n i:Nat}(h:i<n):nth aG (cS rd ns bs n) i=(nth .str ns i,(rd (nth .str ns i)).2.1,nth (.int .i64) bs i,()):=by
 apply gD;simp[cS,h]
def cJ(rd:Rd)(root:aD):D aB×Int:=
 if ¬(bB rd root).2.2.2.2=0 then(cB aB,(bB rd root).2.2.2.2)
 else((root,cS rd (bB rd root).1 (bB rd root).2.2.1 (bB rd root).1.length,(bB rd root).2.2.2.1,()),0)
def DY{rd:Rd}{root:aD}(h:¬(bB rd root).2.2.2.2=0):cJ rd root=(cB aB,(bB rd root).2.2.2.2):=by unfold cJ;rw[if_pos h]
def wM{rd:Rd}{root:aD}(h:(bB rd root).2.2.2.2=0):cJ rd root=((root,cS rd (bB rd root).1 (bB rd root).2.2.1 (bB rd root).1.length,(bB rd root).2.2.2.1,()),0):=by
 unfold cJ;rw[if_neg (not_not_intro h)]
def FF{rd:Rd}(ok:fZ rd)(root:aD):(∃f,0<f/\bB rd root=([],[],[],[],f)/\cJ rd root=(cB aB,f))\/
  (∃ns os bs ps,bB rd root=(ns,os,bs,ps,0)/\jr rd root ns os bs ps/\cJ rd root=((root,cS rd ns bs ns.length,ps,()),0)):=by
 rcases o7 ok root with⟨f,hf,e⟩|⟨ns,os,bs,ps,e,h⟩
 ·exact .inl ⟨f,hf,e,by rw[DY (by rw[e];simp only;omega),e]⟩
 ·exact .inr ⟨ns,os,bs,ps,e,h,by rw[wM (by rw[e]),e]⟩
def gQ(rd:Rd)(p:D aG):Bool:=decide ((rd p.1).2.2=0)&&decide ((rd p.1).2.1=p.2.1)
def eG(rd:Rd)(e:D aB):Bool:=e.2.1.all (gQ rd)&&decide (0<e.2.1.length)
def yf{rd:Rd}{e:D aB}{i:Nat}(h:i<e.2.1.length)(hf:gQ rd (nth aG e.2.1 i)=false):eG rd e=false:=by
 unfold eG;have:e.2.1.all (gQ rd)=false:=dd.2 ⟨_,eO (t:=aG) h,by rw[hf];decide⟩;rw[this];rfl
def A6{rd:Rd}{e:D aB}(h:∀i,i<e.2.1.length->gQ rd (nth aG e.2.1 i)=true):eG rd e=decide (0<e.2.1.length):=by
 unfold eG;have:e.2.1.all (gQ rd)=true:=bh.2 fun x hx=>by
  obtain⟨i,hi,rfl⟩:=gT (t:=aG) hx;exact h i hi
 rw[this];rfl
def Ir{rd:Rd}{e:D aB}(h:eG rd e=true):0<e.2.1.length/\∀i,i<e.2.1.length->(rd (nth aG e.2.1 i).1).2.2=0/\(rd (nth aG e.2.1 i).1).2.1=(nth aG e.2.1 i).2.1:=by
 unfold eG at h;rw[ba,bh,decide_eq_true_eq]at h;refine⟨h.2,fun i hi =>?_⟩;have:=h.1 _ (eO (t:=aG) hi);unfold gQ at this;rw[ba,decide_eq_true_eq,decide_eq_true_eq]at this;exact this
def oH(rd:Rd):List (D aG)->Int
 |[]=>0
 |p :: r=>if(cF (rd p.1).1).2=0 then oH rd r else(cF (rd p.1).1).2
def gZ(rd:Rd)(l:List (D aG)):List (D aA):=l.map fun p=>(cF (rd p.1).1).1
def hZ(l:List (D aG)):List aD:=l.map fun p=>p.1
def ia(l:List (D aG)):List Int:=l.map fun p=>p.2.2.1
def LS{rd:Rd}:∀{l:List (D aG)} {i:Nat},(∀j,j<i->(cF (rd (nth aG l j).1).1).2=0)->i<l.length->¬(cF (rd (nth aG l i).1).1).2=0->oH rd l=(cF (rd (nth aG l i).1).1).2
 |[],i,_,h,_=>by simp at h
 |p :: r,0,_,_,h=>by unfold oH;rw[if_neg (show ¬(cF (rd p.1).1).2=0 from h)];rfl
 |p :: r,i+1,h,h1,h2=>by
  unfold oH;rw[if_pos (show(cF (rd p.1).1).2=0 from h 0 (by omega))];exact LS (l:=r) (i:=i) (fun j hj=>h (j+1) (by omega)) (by simpa using h1) h2
def yg{rd:Rd}:∀{l:List (D aG)},(∀j,j<l.length->(cF (rd (nth aG l j).1).1).2=0)->oH rd l=0
 |[],_=>rfl
 |p :: r,h=>by
  unfold oH;rw[if_pos (show(cF (rd p.1).1).2=0 from h 0 (by simp))];exact yg (l:=r) fun j hj=>h (j+1) (by simpa using hj)
def LU(rd:Rd):∀l:List (D aG),0<=oH rd l
 |[]=>av _
 |p :: r=>by
  unfold oH;split
  ·exact LU rd r
  ·exact vK _
def ll(rd:Rd)(e:D aB):List (D cE)×Int:=
 if eG rd e=false then([],10)
 else if ¬oH rd e.2.1=0 then([],oH rd e.2.1)
 else((lk (hZ e.2.1) (ia e.2.1) (gZ rd e.2.1) e.2.2.1).1,jj (lk (hZ e.2.1) (ia e.2.1) (gZ rd e.2.1) e.2.2.1).2)
def Vr{rd:Rd}{e:D aB}(h:eG rd e=false):ll rd e=([],10):=by unfold ll;rw[if_pos h]
def abw{rd:Rd}{e:D aB}(h:eG rd e=true){f:Int}(hb:oH rd e.2.1=f)(h0:¬f=0):ll rd e=([],f):=by
 unfold ll;rw[if_neg (by rw[h];decide),if_pos (by rw[hb];exact h0),hb]
def Vs{rd:Rd}{e:D aB}(h:eG rd e=true)(hb:oH rd e.2.1=0) :
  ll rd e=((lk (hZ e.2.1) (ia e.2.1) (gZ rd e.2.1) e.2.2.1).1,jj (lk (hZ e.2.1) (ia e.2.1) (gZ rd e.2.1) e.2.2.1).2):=by
 unfold ll;rw[if_neg (by rw[h];decide),if_neg (not_not_intro hb)]
def kX{t:Ty}{a b:List (D t)}(hl:a.length=b.length)(h:∀i,i<a.length->nth t a i=nth t b i):a=b:=vF (t:=t) hl h
def LV{rd:Rd}{ns:List aD}{bs:List Int}:hZ (cS rd ns bs ns.length)=ns:=by
 refine kX (t:=.str) (by simp[hZ,cS]) fun i hi =>?_
 have hi':i<ns.length:=by simpa[hZ,cS]using hi
 unfold hZ;rw[rQ (u:=aG) (t:=.str) (by rw[fB];exact hi'),jJ hi']
def LW{rd:Rd}{ns:List aD}{bs:List Int}(h:bs.length=ns.length):ia (cS rd ns bs ns.length)=bs:=by
 refine kX (t:=.int .i64) (by simp[ia,cS,h]) fun i hi =>?_
 have hi':i<ns.length:=by simpa[ia,cS]using hi
 unfold ia;rw[rQ (u:=aG) (t:=.int .i64) (by rw[fB];exact hi'),jJ hi']
def jr.fresh{rd:Rd}(ok:fZ rd){root:aD}{ns:List aD}{os:List (D aA)}{bs:List Int}{ps:List Pt}(h:jr rd root ns os bs ps):eG rd (root,cS rd ns bs ns.length,ps,())=true:=by
 rw[A6]
 ·exact decide_eq_true (by show 0<(cS rd ns bs ns.length).length;rw[fB];exact h.sc.pos)
 ·intro i hi
  have hi:i<ns.length:=by have:i<(cS rd ns bs ns.length).length:=hi;rwa [fB]at this
  show gQ rd (nth aG (cS rd ns bs ns.length) i)=true;rw[jJ hi];unfold gQ;rw[decide_eq_true (lZ ok (h.sc.AV i hi).1).1,decide_eq_true rfl];rfl
def jr.aH{rd:Rd}{root:aD}{ns:List aD}{os:List (D aA)}{bs:List Int}{ps:List Pt}(h:jr rd root ns os bs ps){rd':Rd}(hs:∀s∈ns,(rd' s).1=(rd s).1):gZ rd' (cS rd ns bs ns.length)=os:=by
 refine kX (t:=aA) (by simp[gZ,cS,h.sc.len]) fun i hi =>?_
 have hi':i<ns.length:=by simpa[gZ,cS]using hi
 unfold gZ;rw[rQ (u:=aG) (t:=aA) (by rw[fB];exact hi'),jJ hi',(h.sc.AV i hi').2];unfold kO;rw[hs _ (eO (t:=.str) hi')]
def jr.bad{rd:Rd}(ok:fZ rd){root:aD}{ns:List aD}{os:List (D aA)}{bs:List Int}{ps:List Pt}(h:jr rd root ns os bs ps){rd':Rd}(hs:∀s∈ns,(rd' s).1=(rd s).1):oH rd' (cS rd ns bs ns.length)=0:=by
 refine yg fun j hj =>?_
 rw[fB]at hj;rw[jJ hj];simp only;rw[hs _ (eO (t:=.str) hj)];exact(lZ ok (h.sc.AV j hj).1).2
def jr.use{rd:Rd}(ok:fZ rd){root:aD}{ns:List aD}{os:List (D aA)}{bs:List Int}{ps:List Pt}(h:jr rd root ns os bs ps){rd':Rd}(hs:∀s∈ns,(rd' s).1=(rd s).1)
  (hf:eG rd' (root,cS rd ns bs ns.length,ps,())=true):ll rd' (root,cS rd ns bs ns.length,ps,())=(eV ns bs (iU (cR os) ps) os.length,0):=by
 rw[Vs hf (h.bad ok hs)];simp only;rw[LV,LW (by rw[h.bl,h.sc.len]),h.aH hs,h.lay];rfl
def eH(p:D aG):Int:=if aJ p.1 > 0 then aJ p.1 else if p.2.1<1\/p.2.1 > 1000000\/p.2.2.1<0\/p.2.2.1 > 255\/p.2.2.1 % 16 > 0 then 1 else 0
def ou:List (D aG)->Int
 |[]=>0
 |p :: r=>if eH p=0 then ou r else eH p
def dS(n:Nat)(p:Pt):Int:=if p.1<0\/p.1>=(n:Int)\/p.2.1<0\/p.2.1 > 39\/eB p.2.2.1=false then 1 else 0
def nL(n:Nat):List Pt->Int
 |[]=>0
 |p :: r=>if dS n p=0 then nL n r else dS n p
def tg(e:D aB):Prop:=e.2.1.length<1\/e.2.1.length > 6\/e.2.2.1.length > 36
instance(e:D aB):Decidable (tg e):=by unfold tg;infer_instance
def bE(e:D aB):Int:=
 if aJ e.1 > 0 then aJ e.1 else if tg e then 2 else if ¬ou e.2.1=0 then ou e.2.1 else nL e.2.1.length e.2.2.1
def JV(p:D aG):0<=eH p:=by
 unfold eH;split
 ·omega
 ·split <;> decide
def JW(n:Nat)(p:Pt):0<=dS n p:=by unfold dS;split <;> decide
def wN:∀l:List (D aG),0<=ou l
 |[]=>av _
 |p :: r=>by
  unfold ou;split
  ·exact wN r
  ·exact JV p
def u5(n:Nat):∀l:List Pt,0<=nL n l
 |[]=>av _
 |p :: r=>by
  unfold nL;split
  ·exact u5 n r
  ·exact JW n p
def yW(e:D aB):0<=bE e:=by
 unfold bE;split
 ·omega
 ·split
  ·decide
  ·split
   ·exact wN _
   ·exact u5 _ _
def FG:∀{l:List (D aG)} {i:Nat},(∀j,j<i->eH (nth aG l j)=0)->i<l.length->¬eH (nth aG l i)=0->ou l=eH (nth aG l i)
 |[],i,_,h,_=>by simp at h
 |p :: r,0,_,_,h=>by unfold ou;rw[if_neg (show ¬eH p=0 from h)];rfl
 |p :: r,i+1,h,h1,h2=>by
  unfold ou;rw[if_pos (show eH p=0 from h 0 (by omega))];exact FG (l:=r) (i:=i) (fun j hj=>h (j+1) (by omega)) (by simpa using h1) h2
def uq:∀{l:List (D aG)},(∀j,j<l.length->eH (nth aG l j)=0)->ou l=0
 |[],_=>rfl
 |p :: r,h=>by
  unfold ou;rw[if_pos (show eH p=0 from h 0 (by simp))];exact uq (l:=r) fun j hj=>h (j+1) (by simpa using hj)
def CO{n:Nat}:∀{l:List Pt} {i:Nat},(∀j,j<i->dS n (nth aN l j)=0)->i<l.length->¬dS n (nth aN l i)=0->nL n l=dS n (nth aN l i)
 |[],i,_,h,_=>by simp at h
 |p :: r,0,_,_,h=>by unfold nL;rw[if_neg (show ¬dS n p=0 from h)];rfl
 |p :: r,i+1,h,h1,h2=>by
  unfold nL;rw[if_pos (show dS n p=0 from h 0 (by omega))];exact CO (l:=r) (i:=i) (fun j hj=>h (j+1) (by omega)) (by simpa using h1) h2
def yX{n:Nat}:∀{l:List Pt},(∀j,j<l.length->dS n (nth aN l j)=0)->nL n l=0
 |[],_=>rfl
 |p :: r,h=>by
  unfold nL;rw[if_pos (show dS n p=0 from h 0 (by simp))];exact yX (l:=r) fun j hj=>h (j+1) (by simpa using hj)
def vQ{e:D aB}(h:aJ e.1 > 0):bE e=aJ e.1:=by unfold bE;rw[if_pos h]
def mN{e:D aB}(h:aJ e.1<=0)(h1:tg e):bE e=2:=by unfold bE;rw[if_neg (by omega),if_pos h1]
def fV{e:D aB}(h:aJ e.1<=0)(h1:¬tg e){i:Nat}(hs:∀j,j<i->eH (nth aG e.2.1 j)=0)(hi:i<e.2.1.length){f:Int}(hf:eH (nth aG e.2.1 i)=f)(h0:f≠0):bE e=f:=by
 have:=FG hs hi (by rw[hf];exact h0);unfold bE;rw[if_neg (by omega),if_neg h1,if_pos (by rw[this,hf];exact h0),this,hf]
def gJ{e:D aB}(h:aJ e.1<=0)(h1:¬tg e)(h2:∀j,j<e.2.1.length->eH (nth aG e.2.1 j)=0){i:Nat}(hs:∀j,j<i->dS e.2.1.length (nth aN e.2.2.1 j)=0)(hi:i<e.2.2.1.length)
  (hf:dS e.2.1.length (nth aN e.2.2.1 i)=1):bE e=1:=by
 unfold bE;rw[if_neg (by omega),if_neg h1,if_neg (not_not_intro (uq h2)),CO hs hi (by rw[hf];decide),hf]
def A7{e:D aB}(h:aJ e.1<=0)(h1:¬tg e)(h2:∀j,j<e.2.1.length->eH (nth aG e.2.1 j)=0)(h3:∀j,j<e.2.2.1.length->dS e.2.1.length (nth aN e.2.2.1 j)=0):bE e=0:=by
 unfold bE;rw[if_neg (by omega),if_neg h1,if_neg (not_not_intro (uq h2)),yX h3]
section
variable{rd:Rd}{root:aD}{i:Nat}{ns:List aD}{os:List (D aA)}
def ly.LX(ok:fZ rd)(h:ly rd root i ns os)(hi:i<ns.length)(he:¬(rd (nth .str ns i)).2.2=0) :
  aR rd root=([],[],(rd (nth .str ns i)).2.2):=by
 rw[h.bad hi (by rw[AT he];exact he),AT he]
def ly.Ql(h:ly rd root i ns os)(hi:i<ns.length)(he:(rd (nth .str ns i)).2.2=0)(ho:¬(cF (rd (nth .str ns i)).1).2=0) :
  aR rd root=([],[],(cF (rd (nth .str ns i)).1).2):=by
 rw[h.bad hi (by rw[vL he];exact ho),vL he]
def tB{s:aD}(he:(rd s).2.2=0)(ho:(cF (rd s).1).2=0):fL rd s=0:=by rw[vL he];exact ho
def ly.Ss(h:ly rd root i ns os):os.length+1<=1000000000:=by have:=h.len;have:=h.le;omega
def ly.Vt(h:ly rd root i ns os)(ok:fZ rd){s:aD}(hf:fL rd s=0)(k:Nat):(fQ ns (af k (kO rd s).1)).length+1<=1000000000:=by
 obtain⟨r,h1,h2,_⟩:=qw (af k (kO rd s).1) ns;have:=(DU ok hf).n4;have:=h.hi;have:=h.le;rw[h1,az];rw[bc]at h2;omega
def B0{l:List aD}{k:Nat}(h:k<l.length)(hn:(fQ ns (l.take k)).any (fun x=>x == nth .str l k)=false):fQ ns (l.take k)++[nth .str l k]=fQ ns (l.take (k+1)):=by
 rw[Ii h,if_neg (by rw[hn];exact Bool.false_ne_true)]
def B1{l:List aD}{k:Nat}(h:k<l.length)(hn:(fQ ns (l.take k)).any (fun x=>x == nth .str l k)=true):fQ ns (l.take k)=fQ ns (l.take (k+1)):=by
 rw[Ii h,if_pos hn]
def B2{l:List aD}{k:Nat}(h:¬k<l.length):fQ ns (l.take k)=fQ ns l:=by rw[bm (by omega)]
def u6(ok:fZ rd){s:aD}(h:(rd s).2.2<=0):(rd s).2.2=0:=by
 rcases ok.code s with e|e <;> omega
def GP{s:aD}(h:(cF s).2<=0):(cF s).2=0:=by have:=vK s;omega
def Ze{l:List aD}{j:Nat}{y:aD}(h:(l.take j).any (fun x=>x == y)=true):true=(l.take (j+1)).any (fun x=>x == y):=by
 obtain⟨x,hx,e⟩:=cf.1 h;exact(cf.2 ⟨x,(List.take_sublist_take_left (a8 j)).subset hx,e⟩).symm
def Zf{l:List aD}{j:Nat}{y:aD}(hj:j<l.length)(h:(l.take j).any (fun x=>x == y)=false):(nth .str l j == y)=(l.take (j+1)).any (fun x=>x == y):=by
 rw[gI (t:=.str) hj,List.any_append,h];simp
def B3{l:List aD}{j:Nat}{y:aD}{b:Bool}(hj:¬j<l.length)(h:(l.take j).any (fun x=>x == y)=b):l.any (fun x=>x == y)=b:=by
 rwa [bm (by omega)]at h
end
def iK{rd:Rd}(ok:fZ rd)(root:aD):0<=(aR rd root).2.2:=by
 rcases vM ok root with⟨f,hf,e⟩|⟨ns,os,e,_⟩
 ·rw[e];exact Int.le_of_lt hf
 ·rw[e];exact av _
def Vu{rd:Rd}{root:aD}{ns:List aD}{os:List (D aA)}{bs:List Int}{ps:List Pt}{w:Ws}(h:aR rd root=(ns,os,0))(hb:cC (bV os,[])=(bs,.nil))(ha:eM (os,bs)=(ps,.nil))
  (hn:ns.length=os.length)(hl:bs.length=os.length)(hp:∀i,i<ps.length->uP (cR os) (nth aN ps i))(hw:iU (cR os) ps=w):cI rd root=(eV ns bs w os.length,0):=by
 have e:bB rd root=(ns,os,bs,ps,0):=by
  unfold bB;rw[h];simp only[hb,ha,aS.isNil];rfl
 unfold cI;rw[e,if_neg (by simp)];have hq:jQ (cR os,ps)=(w,.nil):=by rw[wF hp,hw]
 simp only;rw[GN hn hl (by rw[hq];rfl),hq];rfl
def Su:aD:=[119,111,114,100,32,53,10,98,97,115,101,32,48,32,51,10]
abbrev ac9:D aA:=([],[5],[],[(0,1,3,[],false,())],())
def adL:cF Su=(ac9,0):=by
 have i5:ab 5=[53]:=by rw[ui (by decide) (by decide)];rfl
 have i0:ab 0=[48]:=by rw[ui (by decide) (by decide)];rfl
 have i3:ab 3=[51]:=by rw[ui (by decide) (by decide)];rfl
 refine BX (by decide) (by decide) ?_;simp only[fN,fF,jq,lh,lY,uW,vH,gx,dm,fy,ft,fw,b9,List.flatMap_nil,i5,i0,i3];decide
def Vv{rd:Rd}{a t:aD}{n:Int}{o:D aA}(h:rd a=(t,n,0))(ho:cF t=(o,0))(hn:o.1=[]):aR rd a=([a],[o],0):=by
 have fa:fL rd a=0:=by unfold fL;rw[h];show(if(0:Int)=0 then(cF t).2 else 0)=0;rw[ho];rfl
 have oa:kO rd a=o:=by unfold kO;rw[h];show(cF t).1=o;rw[ho]
 have n0:nth .str [a] 0=a:=rfl;unfold aR;rw[kx,if_pos (by simp),n0,if_pos fa,oa,hn,LD,kx,if_neg (by simp)];rfl
def im1:cY:=(cW oE [97] Su).1
def ad9:aO im1 [97]=(Su,1,0):=by decide
def abx:cI (aO im1) [97]=([([97],0,[3],())],0):=by
 refine Vu (Vv ad9 adL rfl) (bs:=[0]) (ps:=[(0,0,3,())]) (w:=[[3]]) rfl ?_ rfl rfl ?_ rfl
 ·rw[oh rfl (by
   intro i hi;obtain rfl:i=0:=by simp at hi;omega
   simp[nth])]
  have h1:fP [ac9] [0] 0 (0,1,3,[],false,())=(3,.nil):=(ub rfl).trans (tx (by decide) rfl (by decide));simp[lX,mc,kK,h1,aS.isNil]
 ·intro i hi
  obtain rfl:i=0:=by simp at hi;omega
  unfold uP;decide
def yY:cY:=((0+1,()),(gG dI [] [97] (Su,0+1,()) 0,pM dI [] [97] 0,()),())
def aaR:im1=yY:=rfl
def DZ:cI (aO yY) [97]=([([97],0,[3],())],0):=by rw[<-aaR];exact abx
def CP{rd:Rd}(ok:fZ rd)(s:aD):0<=(cI rd s).2:=by
 rcases yd ok s with⟨f,hf,_,e⟩|⟨ns,os,bs,ps,_,_,e⟩
 ·rw[e];exact Int.le_of_lt hf
 ·rw[e];exact av _
def Ox{rd:Rd}(ok:fZ rd){s:aD}(h:(cI rd s).2 > 0):bB rd s=([],[],[],[],(cI rd s).2)/\(cI rd s).1=[]:=by
 rcases yd ok s with⟨f,hf,e1,e⟩|⟨ns,os,bs,ps,_,_,e⟩
 ·rw[e];exact⟨e1,rfl⟩
 ·rw[e]at h;exact absurd h (by simp)
def LY{rd:Rd}(ok:fZ rd){s:aD}(h:(cI rd s).2<=0):∃ns os bs ps,bB rd s=(ns,os,bs,ps,0)/\jr rd s ns os bs ps/\cI rd s=(eV ns bs (iU (cR os) ps) os.length,0):=by
 rcases yd ok s with⟨f,hf,e1,e⟩|h'
 ·rw[e]at h;exact absurd hf (aj.2 h)
 ·exact h'
def LZ{rd rd':Rd}{root:aD}(h:aR rd' root=aR rd root):bB rd' root=bB rd root:=by unfold bB;rw[h]
def Is{s k:aD}(h:¬k=s):∀{es:List FE},dO dI (iF dI es s) k=dO dI es k/\ki dI (iF dI es s) k=ki dI es k
 |[]=>⟨rfl,rfl⟩
 |y :: es=>by
  obtain⟨h1,h2⟩:=Is h (es:=es);by_cases e:y.1=s
  ·have hk:¬y.1=k:=fun e'=>h (e'.symm.trans e)
   have hs:¬s=k:=fun e'=>h e'.symm
   have hd:iF dI (y :: es) s=es:=if_pos e;rw[hd];constructor
   ·simp[dO,hk]
   ·show ki dI es k=if y.1=k then y.2.1 else ki dI es k;rw[if_neg hk]
  ·have hd:iF dI (y :: es) s=y :: iF dI es s:=if_neg e
   rw[hd];constructor
   ·simp only[dO]at h1 ⊢;simp[h1]
   ·show(if y.1=k then y.2.1 else ki dI (iF dI es s) k)=if y.1=k then y.2.1 else ki dI es k;rw[h2]
def Vw{x:cY}{s k:aD}(h:¬k=s):aO (eP x s).1 k=aO x k:=by
 cases hh:dO dI x.2.1.1 s with
 |false=>rw[ot hh]
 |true=>
  rw[ng hh];unfold aO;obtain⟨h1,h2⟩:=Is h (es:=x.2.1.1);simp only[h1,h2]
def iZ.ok{x:cY}(h:iZ x):fZ (aO x):=kW h.pre.1
def It{rd:Rd}(ok:fZ rd){s:aD}(h:(bB rd s).2.2.2.2=0):jr rd s (bB rd s).1 (bB rd s).2.1 (bB rd s).2.2.1 (bB rd s).2.2.2.1:=by
 rcases o7 ok s with⟨f,hf,e⟩|⟨ns,os,bs,ps,e,hr⟩
 ·rw[e]at h;exact absurd (show f=0 from h) (by omega)
 ·rw[e];exact hr
def Iu{rd:Rd}(ok:fZ rd){s:aD}(h:(bB rd s).2.2.2.2=0){i:Nat}(hi:i<(bB rd s).1.length):(rd (nth .str (bB rd s).1 i)).2.2=0:=
 (lZ ok ((It ok h).sc.AV i hi).1).1
def Iv{rd:Rd}(ok:fZ rd){s:aD}(h:(bB rd s).2.2.2.2=0):(bB rd s).2.2.1.length=(bB rd s).1.length/\(bB rd s).1.length<=6:=by
 have hr:=It ok h;exact⟨by rw[hr.bl,hr.sc.len],hr.sc.le⟩
def CQ{l:List (D aG)}{i:Nat}(h:i<l.length):hZ (l.take i)++[(nth aG l i).1]=hZ (l.take (i+1)):=by rw[my (t:=aG) h];simp[hZ]
def CS{l:List (D aG)}{i:Nat}(h:i<l.length):ia (l.take i)++[(nth aG l i).2.2.1]=ia (l.take (i+1)):=by rw[my (t:=aG) h];simp[ia]
def FH{rd:Rd}{l:List (D aG)}{i:Nat}(h:i<l.length):gZ rd (l.take i)++[(cF (rd (nth aG l i).1).1).1]=gZ rd (l.take (i+1)):=by rw[my (t:=aG) h];simp[gZ]
def Vx{rd:Rd}{l:List (D aG)}(hl:l.length<=1000)(h:∀j,j<l.length->(cF (rd (nth aG l j).1).1).2=0) :
  (gZ rd l).length<=1000/\∀i,i<(gZ rd l).length->(nth aA (gZ rd l) i).2.1.length<=1000:=by
 have e:(gZ rd l).length=l.length:=by simp[gZ]
 refine⟨by omega,fun i hi =>?_⟩;have hi':i<l.length:=by omega
 rw[show nth aA (gZ rd l) i=(cF (rd (nth aG l i).1).1).1 from rQ (t:=aA) (u:=aG) hi'];exact cx (iH (x8 (h i hi'))).w40 (by decide)
def Vy{rd:Rd}{p:D aG}(h:(aL (rd p.1).2.2).isNil=false):gQ rd p=false:=by
 unfold gQ;rw[decide_eq_false (fA h)];rfl
def FI{rd:Rd}{p:D aG}(h:¬(rd p.1).2.1=p.2.1):gQ rd p=false:=by
 unfold gQ;rw[decide_eq_false h,fz]
def Sv{rd:Rd}{p:D aG}(h:(aL (rd p.1).2.2).isNil=true)(h2:(rd p.1).2.1=p.2.1):gQ rd p=true:=by
 unfold gQ;rw[decide_eq_true (aV.1 h),decide_eq_true h2];rfl
def Zg{rd:Rd}{e:D aB}(h:eG rd e=true)(hb:oH rd e.2.1=0) :
  ((lk (hZ e.2.1) (ia e.2.1) (gZ rd e.2.1) e.2.2.1).1,(lk (hZ e.2.1) (ia e.2.1) (gZ rd e.2.1) e.2.2.1).2,())=((ll rd e).1,aL (ll rd e).2,()):=by
 rw[Vs h hb];simp only[tf (LH _ _ _ _)]
structure ig (x:cY):Prop where
 st:iZ x
 Vz:∀y∈x.2.1.1,aJ y.1=0/\y.2.1.1.length<=1200/\1<=y.2.1.2.1
def ig.new:ig oE:=⟨.new,fun y hy=>by simp[oE]at hy⟩
def L0{s:aD}{v:aD×Int×Unit}{c:Int}:∀{es:List FE} {y:FE},y∈gG dI es s v c->(y.1=s/\y.2.1=v)\/y∈es
 |[],y,h=>by simp[gG]at h;subst h;exact .inl ⟨rfl,rfl⟩
 |z :: r,y,h=>by
  unfold gG at h;split at h
  ·rcases ah.1 h with rfl|h
   ·exact .inl ⟨rfl,rfl⟩
   ·exact .inr (by simp[h])
  ·rcases ah.1 h with rfl|h
   ·exact .inr (by simp)
   ·rcases L0 h with h|h
    ·exact .inl h
    ·exact .inr (by simp[h])
def L1{x:cY}{s t:aD}(h:(cW x s t).2=0):aJ s=0/\t.length<=1200/\¬x.1.1=1000000:=by
 unfold cW at h;split at h
 ·rename_i h1;exact absurd h h1
 ·rename_i h1
  split at h
  ·simp at h
  ·rename_i h2
   split at h
   ·simp at h
   ·rename_i h3
    exact⟨by simpa using h1,by omega,fun e=>h3 (.inr e)⟩
def iZ.pos{x:cY}(h:iZ x):0<=x.1.1:=h.pre.2.1
def ig.write{x:cY}(h:ig x)(s t:aD):ig (cW x s t).1:=by
 refine⟨(h.st.write s t).1,?_⟩;rcases nX x s t with⟨e,_⟩|⟨e,e2⟩
 ·rw[e];exact h.Vz
 ·rw[e]
  intro y hy;obtain⟨k1,k2,_⟩:=L1 e2;rcases L0 hy with⟨h1,h2⟩|hy
  ·rw[h1,h2];exact⟨k1,k2,by have:=h.st.pos;show(1:Int)<=x.1.1+1;omega⟩
  ·exact h.Vz y hy
def ig.remove{x:cY}(h:ig x)(s:aD):ig (eP x s).1:=by
 refine⟨(h.st.remove s).1,?_⟩;cases c:dO dI x.2.1.1 s with
 |false=>rw[ot c];exact h.Vz
 |true=>rw[ng c];exact fun y hy=>h.Vz y (rO.subset hy)
def ig.ok{x:cY}(h:ig x):fZ (aO x):=h.st.ok
def ig.read{x:cY}(h:ig x){s:aD}(hn:(aO x s).2.2=0):aJ s=0/\(aO x s).1.length<=1200/\1<=(aO x s).2.1/\(aO x s).2.1<=x.1.1:=by
 refine⟨?_,?_,?_,RX h.st (aV.2 hn)⟩
 all_goals
  cases c:dO dI x.2.1.1 s with
  |false=>rw[nv c]at hn;simp at hn
  |true=>
   obtain⟨r,hr⟩:=h.st.iV;obtain⟨y,hy,e⟩:=nI.1 c;have hy':=h.Vz y hy
   first
    |(rw[rh c,xN hr.names y hy e];first|exact hy'.2.1|exact hy'.2.2)
    |(rw[<-e];exact hy'.1)
def Iw{rd:Rd}(ok:fZ rd){root:aD}(h:(aL (cJ rd root).2).isNil=true) :
  ∃ns os bs ps,bB rd root=(ns,os,bs,ps,0)/\jr rd root ns os bs ps/\cJ rd root=((root,cS rd ns bs ns.length,ps,()),0):=by
 rcases FF ok root with⟨f,hf,_,e⟩|h'
 ·rw[e]at h;exact absurd (aV.1 h) (by show ¬f=0;omega)
 ·exact h'
def VA{rd rd':Rd}{ns:List aD}{bs:List Int}(h:∀k∈ns,rd' k=rd k):cS rd' ns bs ns.length=cS rd ns bs ns.length:=by
 refine kX (t:=aG) (by rw[fB,fB]) fun i hi =>?_
 rw[fB]at hi;rw[jJ hi,jJ hi,h _ (eO (t:=.str) hi)]
def Sw{rd rd':Rd}{root:aD}{ns:List aD}{os:List (D aA)}{bs:List Int}{ps:List Pt}(e:bB rd root=(ns,os,bs,ps,0))(hr:jr rd root ns os bs ps)(h:∀k∈ns,rd' k=rd k):cJ rd' root=cJ rd root:=by
 have hs:aR rd' root=aR rd root:=Ol (by rw[hr.e]) (by rw[hr.e];exact h);have e':bB rd' root=(ns,os,bs,ps,0):=by rw[LZ hs,e]
 rw[wM (by rw[e']),wM (by rw[e]),e',e];simp only;rw[VA h]
def FJ{p:D aG}(h:aJ p.1 > 0):eH p=aJ p.1:=by unfold eH;rw[if_pos h]
def lM{p:D aG}(h:aJ p.1<=0)(h2:p.2.1<(1:Int)\/p.2.1 > (1000000:Int)\/p.2.2.1<(0:Int)\/p.2.2.1 > (255:Int)\/p.2.2.1 % (16:Int) > 0):eH p=1:=by
 unfold eH;rw[if_neg (by omega),if_pos h2]
def D0{p:D aG}(h:aJ p.1<=0)(h1:(1:Int)<=p.2.1)(h2:p.2.1<=(1000000:Int))(h3:(0:Int)<=p.2.2.1)(h4:p.2.2.1<=(255:Int))(h5:p.2.2.1 % (16:Int)=0):eH p=0:=by
 unfold eH;rw[if_neg (by omega),if_neg];rintro(e|e|e|e|e)
 ·exact absurd e (aj.2 h1)
 ·exact absurd e (aj.2 h2)
 ·exact absurd e (aj.2 h3)
 ·exact absurd e (aj.2 h4)
 ·exact absurd (show(0:Int)<0 from h5▸e) (by decide)
def yh{b x:Int}(h:0<=b)(e:x=Int.tmod b 16):x=b % 16:=by rw[e,ds h]
def lN{n:Nat}{p:Pt}(h:p.1<(0:Int)\/p.1>=(n:Int)\/p.2.1<(0:Int)\/p.2.1 > (39:Int)\/p.2.2.1<(-2147483648:Int)\/p.2.2.1 > (2147483647:Int)):dS n p=1:=by
 unfold dS;rw[if_pos];rcases h with h|h|h|h|h|h
 ·exact .inl h
 ·exact .inr (.inl h)
 ·exact .inr (.inr (.inl h))
 ·exact .inr (.inr (.inr (.inl h)))
 ·refine .inr (.inr (.inr (.inr ?_)));unfold eB;rw[decide_eq_false (dp.2 h)];rfl
 ·refine .inr (.inr (.inr (.inr ?_)));unfold eB;rw[decide_eq_false (dp.2 h),fz]
def FK{n:Nat}{p:Pt}(h1:(0:Int)<=p.1)(h2:p.1<(n:Int))(h3:(0:Int)<=p.2.1)(h4:p.2.1<=(39:Int))(h5:(-2147483648:Int)<=p.2.2.1)(h6:p.2.2.1<=(2147483647:Int)):dS n p=0:=by
 unfold dS;rw[if_neg];rintro(e|e|e|e|e)
 ·exact absurd e (aj.2 h1)
 ·exact absurd h2 (aj.2 e)
 ·exact absurd e (aj.2 h3)
 ·exact absurd e (aj.2 h4)
 ·unfold eB at e;rw[decide_eq_true h5,decide_eq_true h6]at e;cases e
def eI{e:D aB}(h1:(1:Int)<=(e.2.1.length:Int))(h2:(e.2.1.length:Int)<=6)(h3:(e.2.2.1.length:Int)<=36):¬tg e:=by
 rintro(k|k|k)
 ·have k:e.2.1.length<1:=k;omega
 ·have k:e.2.1.length > 6:=k;omega
 ·have k:e.2.2.1.length > 36:=k;omega
def o8(p:D aG):aD:=[32]++p.1++[32]++ab p.2.1++[32]++ab p.2.2.1
def o9(p:D aN):aD:=[32]++ab p.1++[32]++ab p.2.1++[32]++ab p.2.2.1
def yi(e:D aB):aD:=e.1++[32]++ab (e.2.1.length:Int)++[32]++ab (e.2.2.1.length:Int)
def ld(e:D aB)(i:Nat):aD:=yi e++(e.2.1.take i).flatMap o8
def kP(e:D aB)(i:Nat):aD:=ld e e.2.1.length++(e.2.2.1.take i).flatMap o9
def th(e:D aB):aD:=kP e e.2.2.1.length
def hH(e:D aB):aD:=th e++[10]
def dY(e:D aB):aD×aS:=if bE e≠0 then([],aL (bE e))else(hH e,.nil)
def Sx(e:D aB):ld e 0=yi e:=by unfold ld;simp
def Sy(e:D aB):kP e 0=ld e e.2.1.length:=by unfold kP;simp
def Sz{e:D aB}{i:Nat}(h:i<e.2.1.length):ld e (i+1)=ld e i++o8 (nth aG e.2.1 i):=by
 unfold ld;rw[gI (t:=aG) h];simp
def SA{e:D aB}{i:Nat}(h:i<e.2.2.1.length):kP e (i+1)=kP e i++o9 (nth aN e.2.2.1 i):=by
 unfold kP;rw[gI (t:=aN) h];simp
structure mO (e:D aB):Prop where
 nm:Nm e.1
 p1:1<=e.2.1.length
 p6:e.2.1.length<=6
 FL:e.2.2.1.length<=36
 parts:∀i,i<e.2.1.length->Nm (nth aG e.2.1 i).1/\je 1 1000000 (nth aG e.2.1 i).2.1/\je 0 255 (nth aG e.2.1 i).2.2.1
 L2:∀i,i<e.2.2.1.length->je 0 5 (nth aN e.2.2.1 i).1/\je 0 39 (nth aN e.2.2.1 i).2.1/\je (-2147483648) 2147483647 (nth aN e.2.2.1 i).2.2.1
def FM{n:Nat}{p:Pt}(h:¬dS n p=0):dS n p=1:=by
 unfold dS at h ⊢;split
 ·rfl
 ·rename_i hh;rw[if_neg hh]at h;exact absurd rfl h
def nn{e:D aB}(h:bE e=0):mO e:=by
 have h0:aJ e.1=0:=by
  apply au;intro hn;have:=cQ e.1;rw[vQ (by omega)]at h;exact hn h
 have h1:¬tg e:=by
  intro hm;rw[mN (by omega) hm]at h;cases h
 have h2:∀i,(∀j,j<i->j<e.2.1.length->eH (nth aG e.2.1 j)=0)/\(i<e.2.1.length->eH (nth aG e.2.1 i)=0):=by
  intro i;induction i with
  |zero=>
   refine⟨fun j hj=>by omega,fun hi =>?_⟩;apply au;intro hn;rw[fV (i:=0) (by omega) h1 (fun j hj=>by omega) hi rfl hn]at h;exact hn h
  |succ i ih=>
   have hs:∀j,j<i+1->j<e.2.1.length->eH (nth aG e.2.1 j)=0:=fun j hj hl=>by
    rcases bq j i with hh|hh
    ·exact ih.1 j hh hl
    ·obtain rfl:j=i:=by omega
     exact ih.2 hl
   refine⟨hs,fun hi =>?_⟩;apply au;intro hn;rw[fV (i:=i+1) (by omega) h1 (fun j hj=>hs j hj (by omega)) hi rfl hn]at h;exact hn h
 have h2':∀i,i<e.2.1.length->eH (nth aG e.2.1 i)=0:=fun i=>(h2 i).2
 have h3:∀i,(∀j,j<i->j<e.2.2.1.length->dS e.2.1.length (nth aN e.2.2.1 j)=0)/\(i<e.2.2.1.length->dS e.2.1.length (nth aN e.2.2.1 i)=0):=by
  intro i;induction i with
  |zero=>
   refine⟨fun j hj=>by omega,fun hi =>?_⟩;apply au;intro hn;rw[gJ (i:=0) (by omega) h1 h2' (fun j hj=>by omega) hi (FM hn)]at h;cases h
  |succ i ih=>
   have hs:∀j,j<i+1->j<e.2.2.1.length->dS e.2.1.length (nth aN e.2.2.1 j)=0:=fun j hj hl=>by
    rcases bq j i with hh|hh
    ·exact ih.1 j hh hl
    ·obtain rfl:j=i:=by omega
     exact ih.2 hl
   refine⟨hs,fun hi =>?_⟩;apply au;intro hn;rw[gJ (i:=i+1) (by omega) h1 h2' (fun j hj=>hs j hj (by omega)) hi (FM hn)]at h;cases h
 have p1:1<=e.2.1.length:=b7.1 fun k=>h1 (.inl k)
 have p6:e.2.1.length<=6:=b7.1 fun k=>h1 (.inr (.inl k))
 refine⟨Fh h0,p1,p6,b7.1 fun k=>h1 (.inr (.inr k)),fun i hi =>?_,fun i hi =>?_⟩
 ·have k:=h2' i hi
  unfold eH at k;split at k
  ·rename_i hn;omega
  ·rename_i hn
   split at k
   ·cases k
   ·rename_i hb
    have:=cQ (nth aG e.2.1 i).1;exact⟨Fh (by omega),⟨aj.1 fun k=>hb (.inl k),aj.1 fun k=>hb (.inr (.inl k))⟩,⟨aj.1 fun k=>hb (.inr (.inr (.inl k))),aj.1 fun k=>hb (.inr (.inr (.inr (.inl k))))⟩⟩
 ·have k:=(h3 i).2 hi
  unfold dS at k;split at k
  ·cases k
  ·rename_i hb
   have hw:eB (nth aN e.2.2.1 i).2.2.1=true:=by
    apply Bool.not_eq_false _ |>.mp
    intro k;exact hb (.inr (.inr (.inr (.inr k))))
   unfold eB at hw;simp only[ba,decide_eq_true_eq]at hw;have hl:(nth aN e.2.2.1 i).1<(e.2.1.length:Int):=dp.1 fun k=>hb (.inr (.inl k))
   exact⟨⟨aj.1 fun k=>hb (.inl k),by omega⟩,⟨aj.1 fun k=>hb (.inr (.inr (.inl k))),aj.1 fun k=>hb (.inr (.inr (.inr (.inl k))))⟩,hw⟩
def SB{p:D aG}(h1:Nm p.1)(h2:je 1 1000000 p.2.1)(h3:je 0 255 p.2.2.1):(o8 p).length<=64:=by
 have a:=h1.2.1;have b:=dX h2 (by decide) (by decide);have c:=dX h3 (by decide) (by decide);simp[o8];omega
def SC{p:D aN}(h1:je 0 5 p.1)(h2:je 0 39 p.2.1)(h3:je (-2147483648) 2147483647 p.2.2.1):(o9 p).length<=64:=by
 have a:=dX h1 (by decide) (by decide);have b:=dX h2 (by decide) (by decide);have c:=dX h3 (by decide) (by decide);simp[o9];omega
def mO.head{e:D aB}(h:mO e):(yi e).length<=64:=by
 have a:=h.nm.2.1;have b:=dX (n:=(e.2.1.length:Int)) (a:=0) (b:=6) ⟨by omega,by have:=h.p6;omega⟩ (by decide) (by decide);have c:=dX (n:=(e.2.2.1.length:Int)) (a:=0) (b:=36) ⟨by omega,by have:=h.FL;omega⟩ (by decide) (by decide);simp[yi];omega
def mO.Lz{e:D aB}(h:mO e)(i:Nat):(ld e i).length<=448:=by
 have a:=h.head;have b:=qu (f:=o8) (l:=e.2.1.take i) fun x hx=>by
  obtain⟨j,hj,rfl⟩:=gT (t:=aG) (cn hx);obtain⟨k1,k2,k3⟩:=h.parts j hj;exact SB k1 k2 k3
 have c:=h.p6;have d:(e.2.1.take i).length<=e.2.1.length:=by simp;omega
 unfold ld;rw[az];omega
def mO.DM{e:D aB}(h:mO e)(i:Nat):(kP e i).length<=2752:=by
 have a:=h.Lz e.2.1.length;have b:=qu (f:=o9) (l:=e.2.2.1.take i) fun x hx=>by
  obtain⟨j,hj,rfl⟩:=gT (t:=aN) (cn hx);obtain⟨k1,k2,k3⟩:=h.L2 j hj;exact SC k1 k2 k3
 have c:=h.FL;have d:(e.2.2.1.take i).length<=e.2.2.1.length:=by simp;omega
 unfold kP;rw[az];omega
def mO.lens{e:D aB}(h:mO e):e.1.length<=8/\(ab (e.2.1.length:Int)).length<=19/\(ab (e.2.2.1.length:Int)).length<=19:=
 ⟨h.nm.2.1,dX (a:=0) (b:=6) ⟨by omega,by have:=h.p6;omega⟩ (by decide) (by decide),dX (a:=0) (b:=36) ⟨by omega,by have:=h.FL;omega⟩ (by decide) (by decide)⟩
def mO.adM{e:D aB}(h:mO e){i:Nat}(hi:i<e.2.1.length):(nth aG e.2.1 i).1.length<=8/\(ab (nth aG e.2.1 i).2.1).length<=19/\(ab (nth aG e.2.1 i).2.2.1).length<=19/\(ld e i).length<=448:=by
 obtain⟨k1,k2,k3⟩:=h.parts i hi;exact⟨k1.2.1,dX k2 (by decide) (by decide),dX k3 (by decide) (by decide),h.Lz i⟩
def mO.adN{e:D aB}(h:mO e){i:Nat}(hi:i<e.2.2.1.length):(ab (nth aN e.2.2.1 i).1).length<=19/\(ab (nth aN e.2.2.1 i).2.1).length<=19/\(ab (nth aN e.2.2.1 i).2.2.1).length<=19/\(kP e i).length<=2752:=by
 obtain⟨k1,k2,k3⟩:=h.L2 i hi;exact⟨dX k1 (by decide) (by decide),dX k2 (by decide) (by decide),dX k3 (by decide) (by decide),h.DM i⟩
def SD{e:D aB}{i:Nat}(h:i<e.2.1.length):ld e i++o8 (nth aG e.2.1 i)=ld e (i+1):=(Sz h).symm
def SE{e:D aB}{i:Nat}(h:i<e.2.2.1.length):kP e i++o9 (nth aN e.2.2.1 i)=kP e (i+1):=(SA h).symm
def SF{e:D aB}(h:bE e≠0):([],aL (bE e))=dY e:=by unfold dY;rw[if_pos h]
def VB{e:D aB}(h:bE e=0){i:Nat}(hi:i=e.2.2.1.length):(kP e i++[10],aS.nil)=dY e:=by unfold dY;rw[if_neg (not_not_intro h),hi];rfl
def yZ(L:List aD):aD:=L.flatMap fun x=>32 :: x
def GQ(L M:List aD):yZ (L++M)=yZ L++yZ M:=by simp[yZ]
def L3:∀(a:aD) (L:List aD),pA 32 (a :: L)=a++yZ L
 |a,[]=>by simp[pA,yZ]
 |a,b :: r=>by rw[pA,L3 b r];simp[yZ]
def wO(p:D aG):List aD:=[p.1,ab p.2.1,ab p.2.2.1]
def wP(p:D aN):List aD:=[ab p.1,ab p.2.1,ab p.2.2.1]
def mF(e:D aB):List aD:=e.1 :: ([ab (e.2.1.length:Int),ab (e.2.2.1.length:Int)]++(e.2.1.flatMap wO++e.2.2.1.flatMap wP))
def D1{α:Type}{f:α->List aD}{g:α->aD}(h:∀x,yZ (f x)=g x):∀l:List α,yZ (l.flatMap f)=l.flatMap g
 |[]=>rfl
 |x :: l=>by rw[b9,GQ,h,D1 h l,b9]
def CT(e:D aB):th e=pA 32 (mF e):=by
 unfold mF;rw[L3,GQ,GQ,D1 (g:=o8) (by intro x;simp[wO,o8,yZ]),D1 (g:=o9) (by intro x;simp[wP,o9,yZ])];unfold th kP ld yi;simp[yZ]
def CU{e:D aB}(h:mO e):∀y∈mF e,(32:UInt8)∉y/\(10:UInt8)∉y:=by
 intro y hy;unfold mF at hy;rcases ah.1 hy with rfl|hy
 ·exact pE h.nm
 ·rcases bb.1 hy with hy|hy
  ·simp at hy
   rcases hy with rfl|rfl <;> exact⟨lj _,o4 _⟩
  ·rcases bb.1 hy with hy|hy
   ·obtain⟨p,hp,hy⟩:=ga.1 hy
    obtain⟨j,hj,rfl⟩:=gT (t:=aG) hp;simp[wO]at hy;rcases hy with rfl|rfl|rfl
    ·exact pE (h.parts j hj).1
    ·exact⟨lj _,o4 _⟩
    ·exact⟨lj _,o4 _⟩
   ·obtain⟨p,hp,hy⟩:=ga.1 hy
    simp[wP]at hy;rcases hy with rfl|rfl|rfl <;> exact⟨lj _,o4 _⟩
def FN{c:UInt8}(hc:c≠32):∀{L:List aD},(∀y∈L,c∉y)->c∉pA 32 L
 |[],_=>by simp[pA]
 |[x],h=>h x (by simp)
 |x :: y :: r,h=>by
  rw[pA];intro hm;rcases bb.1 hm with hm|hm
  ·exact h x (by simp) hm
  ·rcases ah.1 hm with e|hm
   ·exact hc e
   ·exact FN hc (fun z hz=>h z (by simp[hz])) hm
def SG{e:D aB}(h:mO e):(10:UInt8)∉th e:=by
 rw[CT];exact FN (by decide) fun y hy=>(CU h y hy).2
def Oy{e:D aB}(h:mO e):parts 32 (th e)=mF e:=by
 rw[CT];exact vG (by unfold mF;simp) fun y hy=>(CU h y hy).1
def vR{e:D aB}(h:mO e):parts 32 (ae (hH e) [10])=mF e:=by
 unfold hH;rw[wI,Oy h]
def A8{α:Type}{f:α->List aD}(hf:∀x,(f x).length=3):∀l:List α,(l.flatMap f).length=3*l.length
 |[]=>rfl
 |x :: l=>by rw[b9,az,hf,A8 hf l,cw];omega
def A9{α:Type}[Inhabited α]{f:α->List aD}(hf:∀x,(f x).length=3):∀(l:List α) (i k:Nat),i<l.length->k<3->nth .str (l.flatMap f) (3*i+k)=nth .str (f (l.getD i default)) k
 |[],i,k,h,_=>by simp at h
 |x :: l,0,k,_,hk=>by
  rw[b9,uZ (t:=.str) (by rw[hf];omega)];simp
 |x :: l,i+1,k,h,hk=>by
  rw[b9,q9,if_neg (by rw[hf];omega),hf,show 3*(i+1)+k-3=3*i+k by omega,A9 hf l i k (by simpa using h) hk];simp
structure nZ (w:List aD) (e:D aB):Prop where
 len:w.length=3+3*(e.2.1.length+e.2.2.1.length)
 root:nth .str w 0=e.1
 a:nth .str w 1=ab (e.2.1.length:Int)
 b:nth .str w 2=ab (e.2.2.1.length:Int)
 p0:∀i,i<e.2.1.length->nth .str w (3+3*i)=(nth aG e.2.1 i).1
 p1:∀i,i<e.2.1.length->nth .str w (4+3*i)=ab (nth aG e.2.1 i).2.1
 p2:∀i,i<e.2.1.length->nth .str w (5+3*i)=ab (nth aG e.2.1 i).2.2.1
 q0:∀i,i<e.2.2.1.length->nth .str w (3+3*(e.2.1.length+i))=ab (nth aN e.2.2.1 i).1
 q1:∀i,i<e.2.2.1.length->nth .str w (4+3*(e.2.1.length+i))=ab (nth aN e.2.2.1 i).2.1
 q2:∀i,i<e.2.2.1.length->nth .str w (5+3*(e.2.1.length+i))=ab (nth aN e.2.2.1 i).2.2.1
def CV{t:Ty}{l:List (D t)}{i:Nat}(d:D t)(h:i<l.length):nth t l i=l.getD i d:=by
 unfold nth;rw[List.getD_eq_getElem?_getD,List.getD_eq_getElem?_getD,List.getElem?_eq_getElem h];rfl
def L4(e:D aB):nZ (mF e) e:=by
 have hs:∀x,(wO x).length=3:=fun _=>rfl
 have hp:∀x,(wP x).length=3:=fun _=>rfl
 have ls:=A8 hs e.2.1;have lp:=A8 hp e.2.2.1;have at3:∀k,nth .str (mF e) (3+k)=nth .str (e.2.1.flatMap wO++e.2.2.1.flatMap wP) k:=fun k=>by
  rw[show 3+k=k+1+1+1 by omega];rfl
 letI:Inhabited (D aG):=⟨cB aG⟩
 letI:Inhabited (D aN):=⟨cB aN⟩
 have hP:∀i k,i<e.2.1.length->k<3->nth .str (mF e) (3+(3*i+k))=nth .str (wO (nth aG e.2.1 i)) k:=fun i k hi hk=>by
  rw[at3,uZ (t:=.str) (by omega),A9 hs _ i k hi hk,CV default hi]
 have hQ:∀i k,i<e.2.2.1.length->k<3->nth .str (mF e) (3+(3*(e.2.1.length+i)+k))=nth .str (wP (nth aN e.2.2.1 i)) k:=fun i k hi hk=>by
  rw[at3,q9,if_neg (by omega),ls,show 3*(e.2.1.length+i)+k-3*e.2.1.length=3*i+k by omega,A9 hp _ i k hi hk,CV default hi]
 refine⟨?_,rfl,rfl,rfl,fun i hi =>?_,fun i hi =>?_,fun i hi =>?_,fun i hi =>?_,fun i hi =>?_,fun i hi =>?_⟩
 ·unfold mF;simp only[cw,az,fy,ls,lp];omega
 ·exact hP i 0 hi (by omega)
 ·rw[show 4+3*i=3+(3*i+1) by omega];exact hP i 1 hi (by omega)
 ·rw[show 5+3*i=3+(3*i+2) by omega];exact hP i 2 hi (by omega)
 ·exact hQ i 0 hi (by omega)
 ·rw[show 4+3*(e.2.1.length+i)=3+(3*(e.2.1.length+i)+1) by omega];exact hQ i 1 hi (by omega)
 ·rw[show 5+3*(e.2.1.length+i)=3+(3*(e.2.1.length+i)+2) by omega];exact hQ i 2 hi (by omega)
def partAt(A:aD->Int)(w:List aD)(i:Nat):D aG:=(nth .str w (3+3*i),A (nth .str w (4+3*i)),A (nth .str w (5+3*i)),())
def wQ(A:aD->Int)(w:List aD)(i:Nat):D aN:=(A (nth .str w (3+3*i)),A (nth .str w (4+3*i)),A (nth .str w (5+3*i)),())
def eW(A:aD->Int)(w:List aD)(n:Nat):List (D aG):=(b6 n).map (partAt A w)
def dL(A:aD->Int)(w:List aD)(a n:Nat):List (D aN):=(b6 n).map fun i=>wQ A w (a+i)
def CW(A:aD->Int)(w:List aD)(n:Nat):(eW A w n).length=n:=by simp[eW]
def y5(A:aD->Int)(w:List aD)(a n:Nat):(dL A w a n).length=n:=by simp[dL]
def Oz{A:aD->Int}{w:List aD}{n i:Nat}(h:i<n):nth aG (eW A w n) i=partAt A w i:=by
 unfold nth eW;rw[List.getD_eq_getElem?_getD,List.getElem?_map,List.getElem?_range h];rfl
def JX{A:aD->Int}{w:List aD}{a n i:Nat}(h:i<n):nth aN (dL A w a n) i=wQ A w (a+i):=by
 unfold nth dL;rw[List.getD_eq_getElem?_getD,List.getElem?_map,List.getElem?_range h];rfl
def L5(A:aD->Int)(w:List aD)(n:Nat):eW A w (n+1)=eW A w n++[partAt A w n]:=by simp[eW,cu]
def GR(A:aD->Int)(w:List aD)(a n:Nat):dL A w a (n+1)=dL A w a n++[wQ A w (a+n)]:=by simp[dL,cu]
def Num(A:aD->Int):Prop:=∀n:Int,je (-2147483648) 2147483647 n->A (ab n)=n
def ja{a b n:Int}(h:je a b n)(ha : -2147483648<=a)(hb:b<=2147483647):je (-2147483648) 2147483647 n:=⟨b8 ha h.1,b8 h.2 hb⟩
def mO.na{e:D aB}(h:mO e):je 0 6 (e.2.1.length:Int):=⟨by omega,by have:=h.p6;omega⟩
def mO.nb{e:D aB}(h:mO e):je 0 36 (e.2.2.1.length:Int):=⟨by omega,by have:=h.FL;omega⟩
def nZ.eq{A:aD->Int}(hA:Num A){w:List aD}{e:D aB}(r:nZ w e)(h:mO e):e=(nth .str w 0,eW A w e.2.1.length,dL A w e.2.1.length e.2.2.1.length,()):=by
 obtain⟨s,p,q,_⟩:=e;have e1:p=eW A w p.length:=kX (t:=aG) (by rw[CW]) fun i hi=>by
  rw[Oz hi];obtain⟨k1,k2,k3⟩:=h.parts i hi;unfold partAt;rw[r.p0 i hi,r.p1 i hi,r.p2 i hi,hA _ (ja k2 (by decide) (by decide)),hA _ (ja k3 (by decide) (by decide))]
 have e2:q=dL A w p.length q.length:=kX (t:=aN) (by rw[y5]) fun i hi=>by
  rw[JX hi];obtain⟨k1,k2,k3⟩:=h.L2 i hi;unfold wQ;rw[r.q0 i hi,r.q1 i hi,r.q2 i hi,hA _ (ja k1 (by decide) (by decide)),hA _ (ja k2 (by decide) (by decide)),hA _ k3]
 have e0:nth .str w 0=s:=r.root;rw[e0];exact congrArg (fun z=>(s,z)) (show(p,q,())=(eW A w p.length,dL A w p.length q.length,()) by rw[<-e1,<-e2])
def dQ(s:aD):Int:=(eX s).1
def jV:Num dQ:=fun n h=>by
 have:=tA h (by decide) (by decide);exact o5 this
def VD{e e':D aB}(h:bE e=0)(h':bE e'=0)(ht:hH e=hH e'):e=e':=by
 have k:=nn h;have k':=nn h';have hw:mF e=mF e':=by rw[<-vR k,<-vR k',ht]
 have r:=L4 e;have r':=L4 e';rw[hw]at r;have ha:(e.2.1.length:Int)=(e'.2.1.length:Int):=by
  rw[<-jV _ (ja k.na (by decide) (by decide)),<-jV _ (ja k'.na (by decide) (by decide)),<-r.a,<-r'.a]
 have hb:(e.2.2.1.length:Int)=(e'.2.2.1.length:Int):=by
  rw[<-jV _ (ja k.nb (by decide) (by decide)),<-jV _ (ja k'.nb (by decide) (by decide)),<-r.b,<-r'.b]
 refine(r.eq jV k).trans (Eq.trans ?_ (r'.eq jV k').symm);rw[cz.1 ha,cz.1 hb]
open Classical in
def qy(s:aD):D aB×Int:=if h:∃e:D aB,bE e=0/\hH e=s then(cr h,0)else(cB aB,4)
def Qm{s:aD}{e:D aB}(hf:bE e=0)(ht:hH e=s):qy s=(e,0):=by
 have hx:∃e:D aB,bE e=0/\hH e=s:=⟨e,hf,ht⟩
 have hc:=dt hx;unfold qy;rw[dif_pos hx,VD hc.1 hf (hc.2.trans ht.symm)]
def Zh{s:aD}(hn:∀e:D aB,bE e=0->hH e=s->False):qy s=(cB aB,4):=by
 unfold qy;rw[dif_neg fun⟨e,h1,h2⟩=>hn e h1 h2]
def iW(s:aD):D aB×aS:=((qy s).1,aL (qy s).2)
def rp{s:aD}(hn:∀e:D aB,bE e=0->hH e=s->False):(cB aB,aS.no 4)=iW s:=by unfold iW;rw[Zh hn];rfl
def VE{s:aD}{e:D aB}(h:(dY e).2.isNil=true)(ht:(dY e).1=s):(e,aS.nil)=iW s:=by
 have hf:bE e=0:=by
  apply au;intro hf;unfold dY at h;rw[if_pos hf]at h;exact hf (aV.1 h)
 unfold dY at ht;rw[if_neg (not_not_intro hf)]at ht;unfold iW;rw[Qm hf ht];rfl
def nM(l:List aD):List Int:=l.map dQ
def yj(l:List aD):Bool:=l.all fun s=>(dK s).isSome
def cG(l:List aD):List Int×Bool:=if yj l=true then(nM l,true)else([],false)
def Zi{l:List aD}{i:Nat}(hi:i<l.length)(h:dK (nth .str l i)=none):yj l=false:=by
 unfold yj;rw[dd];exact⟨nth .str l i,eO (t:=.str) hi,by rw[h];decide⟩
def CX{l:List aD}{i:Nat}(hi:i<l.length)(h:(dK (nth .str l i)).isNone=true):([],false)=cG l:=by
 unfold cG;rw[Zi hi (Option.isNone_iff_eq_none.1 h)];rfl
def yk{l:List aD}(h:∀j,j<l.length->(dK (nth .str l j)).isNone=false):yj l=true:=by
 unfold yj;rw[bh];intro s hs;obtain⟨j,hj,rfl⟩:=gT (t:=.str) hs;have:=h j hj;cases hh:dK (nth .str l j)with
 |none=>rw[hh]at this;cases this
 |some n=>rfl
def SH{l:List aD}{i:Nat}(hi:¬i<l.length)(h:∀j,j<i->j<l.length->(dK (nth .str l j)).isNone=false):(nM (l.take i),true)=cG l:=by
 unfold cG;rw[yk fun j hj=>h j (by omega) hj,if_pos rfl,bm (by omega)]
def FO{l:List aD}{i:Nat}(h:i<l.length):nM (l.take (i+1))=nM (l.take i)++[(eX (nth .str l i)).1]:=by
 rw[gI (t:=.str) h];simp[nM,dQ]
def pa{l:List aD}:(cG l).2=yj l:=by
 unfold cG;split
 ·rename_i h;rw[h]
 ·rename_i h;rw[fv _ |>.mp h]
def CY{l:List aD}(h:(cG l).2=true){i:Nat}(hi:i<l.length):nth (.int .i64) (cG l).1 i=dQ (nth .str l i)/\(dK (nth .str l i)).isNone=false:=by
 have hk:=h;rw[pa]at hk;constructor
 ·unfold cG;rw[if_pos hk]
  unfold nth nM;rw[List.getD_eq_getElem?_getD,List.getD_eq_getElem?_getD,List.getElem?_map,List.getElem?_eq_getElem hi];rfl
 ·unfold yj at hk
  rw[bh]at hk;have:=hk _ (eO (t:=.str) hi);cases hh:dK (nth .str l i)with
  |none=>rw[hh]at this;cases this
  |some n=>rfl
def OA{l:List aD}(h:(cG l).2=true):(cG l).1.length=l.length:=by
 rw[pa]at h;unfold cG;rw[if_pos h];simp[nM]
structure rS (w:List aD):Prop where
 ka:(dK (nth .str w 1)).isNone=false
 kb:(dK (nth .str w 2)).isNone=false
 a0:(0:Int)<=dQ (nth .str w 1)
 a6:dQ (nth .str w 1)<=(6:Int)
 b0:(0:Int)<=dQ (nth .str w 2)
 gK:dQ (nth .str w 2)<=(36:Int)
 len:(w.length:Int)=3+3*(dQ (nth .str w 1)+dQ (nth .str w 2))
def FP{t:Ty}{l:List (D t)}{i j k:Nat}(h:i+k<j):nth t (ai i (af j l)) k=nth t l (i+k):=by
 unfold nth;rw[List.getD_eq_getElem?_getD,List.getD_eq_getElem?_getD,List.getElem?_drop,List.getElem?_take,if_pos h]
def L6{α:Type}{l:List α}{i j:Nat}(h:j<=l.length):(ai i (af j l)).length=j-i:=by simp;omega
def VF(s:aD)(c:UInt8)(h:s.length<=100000):(parts c (ae s [10])).length<=100001:=by
 have a:=sH c (ae s [10]);have b:=BY s [10];omega
def sL{l:List aD}{n:Nat}(h:∀y∈l,y.length<=n)(i:Nat):(nth .str l i).length<=n:=by
 by_cases hi:i<l.length
 ·exact h _ (eO (t:=.str) hi)
 ·unfold nth;rw[List.getD_eq_getElem?_getD,List.getElem?_eq_none (by omega)];exact ao _
def vS{s:aD}{c:UInt8}(h:s.length<=100000):∀y∈parts c (ae s [10]),y.length<=1000000:=fun y hy=>by
 have a:=oY c _ y hy;have b:=BY s [10];omega
def L7{l:List aD}{n:Nat}(h:∀y∈l,y.length<=n)(i j:Nat):∀y∈ai i (af j l),y.length<=n:=fun y hy=>h y (cn (List.mem_of_mem_drop hy))
def aby{s:aD}{c:UInt8}(h:s.length<=100000)(i j:Nat):(ai i (af j (parts c (ae s [10])))).length<=1000000/\∀k,(nth .str (ai i (af j (parts c (ae s [10])))) k).length<=1000000:=
 ⟨by have:=VF s c h;simp;omega,sL (L7 (vS h) i j)⟩
def abz{w:List aD}(h:3<=w.length)(hk:(cG (ai 1 (af 3 w))).2=true) :
  (cG (ai 1 (af 3 w))).1=[dQ (nth .str w 1),dQ (nth .str w 2)]/\(dK (nth .str w 1)).isNone=false/\(dK (nth .str w 2)).isNone=false:=by
 have hl:(ai 1 (af 3 w)).length=2:=L6 h;obtain⟨a1,a2⟩:=CY hk (i:=0) (by omega);obtain⟨b1,b2⟩:=CY hk (i:=1) (by omega);have hn:=OA hk;rw[FP (t:=.str) (by omega)]at a1 a2 b1 b2;refine⟨kX (t:=.int .i64) (by rw[hn,hl];rfl) fun i hi =>?_,a2,b2⟩;rw[hn,hl]at hi;rcases(show i=0\/i=1 by omega)with rfl|rfl
 ·rw[a1];rfl
 ·rw[b1];rfl
def OB{w:List aD}(h:3<=w.length)(hk:(cG (ai 1 (af 3 w))).2=false):¬rS w:=by
 intro hd;have hl:(ai 1 (af 3 w)).length=2:=L6 h;rw[pa,yk fun j hj =>?_]at hk
 ·cases hk
 ·rw[hl]at hj
  rcases(show j=0\/j=1 by omega)with rfl|rfl
  ·rw[FP (t:=.str) (by omega)];exact hd.ka
  ·rw[FP (t:=.str) (by omega)];exact hd.kb
def L8{w:List aD}(h:¬rS w):(true=false↔rS w):=⟨fun e=>Bool.noConfusion e,fun e=>absurd e h⟩
def adb{w:List aD}(ka:(dK (nth .str w 1)).isNone=false)(kb:(dK (nth .str w 2)).isNone=false){a b x:Int}(ha:a=dQ (nth .str w 1))(hb:b=dQ (nth .str w 2))
  (a0:0<=a)(a6:a<=6)(b0:0<=b)(gK:b<=36)(hx:x=3*(a+b)):(((w.length:Int) != 3+x)=false↔rS w):=by
 subst ha;subst hb;subst hx;constructor
 ·intro h;exact⟨ka,kb,a0,a6,b0,gK,by simpa using h⟩
 ·intro h;simpa using h.len
def rT{s:aD}{e:D aB}(hf:bE e=0)(ht:hH e=s):nZ (parts 32 (ae s [10])) e/\mO e:=by
 have k:=nn hf;rw[<-ht,vR k];exact⟨L4 e,k⟩
def nZ.na{A:aD->Int}(hA:Num A){w:List aD}{e:D aB}(r:nZ w e)(k:mO e):A (nth .str w 1)=(e.2.1.length:Int):=by rw[r.a,hA _ (ja k.na (by decide) (by decide))]
def nZ.nb{A:aD->Int}(hA:Num A){w:List aD}{e:D aB}(r:nZ w e)(k:mO e):A (nth .str w 2)=(e.2.2.1.length:Int):=by rw[r.b,hA _ (ja k.nb (by decide) (by decide))]
def pb{n:Int}(h:je (-2147483648) 2147483647 n):(dK (ab n)).isNone=false:=by rw[tA h (by decide) (by decide)];rfl
def nZ.hd{w:List aD}{e:D aB}(r:nZ w e)(k:mO e):rS w:=by
 have a:=r.na jV k;have b:=r.nb jV k;have c:=k.p6;have d:=k.FL;have l:=r.len;refine⟨by rw[r.a];exact pb (ja k.na (by decide) (by decide)),by rw[r.b];exact pb (ja k.nb (by decide) (by decide)),?_,?_,?_,?_,?_⟩ <;> (try rw[a]) <;> (try rw[b]) <;> omega
section
variable{s:aD}
def L9(h:(parts 32 (ae s [10])).length<3):(cB aB,aS.no 4)=iW s:=rp fun e hf ht=>by
 have:=(rT hf ht).1.len;omega
def OE(h:¬rS (parts 32 (ae s [10]))):(cB aB,aS.no 4)=iW s:=rp fun e hf ht=>h ((rT hf ht).1.hd (rT hf ht).2)
def Zj{w:List aD}{e:D aB}(r:nZ w e)(k:mO e){i:Nat}(hi:i<e.2.1.length):(dK (nth .str w (4+3*i))).isNone=false/\(dK (nth .str w (5+3*i))).isNone=false:=by
 obtain⟨_,k2,k3⟩:=k.parts i hi;rw[r.p1 i hi,r.p2 i hi];exact⟨pb (ja k2 (by decide) (by decide)),pb (ja k3 (by decide) (by decide))⟩
def VG{w:List aD}{e:D aB}(r:nZ w e)(k:mO e){i:Nat}(hi:e.2.1.length<=i)(hi2:i<e.2.1.length+e.2.2.1.length) :
  (dK (nth .str w (3+3*i))).isNone=false/\(dK (nth .str w (4+3*i))).isNone=false/\(dK (nth .str w (5+3*i))).isNone=false:=by
 obtain⟨j,rfl⟩:∃j,i=e.2.1.length+j:=⟨i-e.2.1.length,by omega⟩
 obtain⟨k1,k2,k3⟩:=k.L2 j (by omega);rw[r.q0 j (by omega),r.q1 j (by omega),r.q2 j (by omega)];exact⟨pb (ja k1 (by decide) (by decide)),pb (ja k2 (by decide) (by decide)),pb k3⟩
structure mS (w x:List aD) (i:Nat):Prop where
 len:x.length=3
 a:nth .str x 0=nth .str w (3+3*i)
 b:nth .str x 1=nth .str w (4+3*i)
 c:nth .str x 2=nth .str w (5+3*i)
def VH{w:List aD}{i:Nat}{p q:Int}(hp:p=3*(i:Int))(hq:q=3*(i:Int))(h:3+3*(i+1)<=w.length):mS w (ai (ay (3+p)) (af (ay (6+q)) w)) i:=by
 subst hp;subst hq;rw[show ay (3+3*(i:Int))=3+3*i by omega,show ay (6+3*(i:Int))=6+3*i by omega];refine⟨by rw[L6 (by omega)];omega,?_,?_,?_⟩ <;> rw[FP (t:=.str) (by omega)] <;> congr 1 <;> omega
def CZ{n:Nat}{w x:List aD}{i:Nat}(h:mS w x i)(hw:∀y∈w,y.length<=n)(k:Nat):(nth .str x k).length<=n:=by
 rcases bq k 3 with hk|hk
 ·rcases(show k=0\/k=1\/k=2 by omega)with rfl|rfl|rfl
  ·rw[h.a];exact sL hw _
  ·rw[h.b];exact sL hw _
  ·rw[h.c];exact sL hw _
 ·unfold nth;rw[List.getD_eq_getElem?_getD,List.getElem?_eq_none (by rw[h.len];omega)];exact ao _
def FQ{w x:List aD}{i:Nat}(h:mS w x i):ai 1 (af (bo x) x)=[nth .str w (4+3*i),nth .str w (5+3*i)]:=by
 match x,h with
 |[p,q,r],h=>rw[<-h.b,<-h.c];rfl
def Ma{w x:List aD}{i:Nat}(h:mS w x i):x=[nth .str w (3+3*i),nth .str w (4+3*i),nth .str w (5+3*i)]:=by
 match x,h with
 |[p,q,r],h=>rw[<-h.a,<-h.b,<-h.c];rfl
def Ix{w x:List aD}{i:Nat}(h:mS w x i)(hk:(cG (ai 1 (af (bo x) x))).2=true) :
  (cG (ai 1 (af (bo x) x))).1=[dQ (nth .str w (4+3*i)),dQ (nth .str w (5+3*i))]:=by
 rw[pa]at hk;unfold cG;rw[if_pos hk,FQ h];rfl
def Mb{w x:List aD}{i:Nat}(h:mS w x i)(hk:(cG x).2=true):(cG x).1=[dQ (nth .str w (3+3*i)),dQ (nth .str w (4+3*i)),dQ (nth .str w (5+3*i))]:=by
 rw[pa]at hk;unfold cG;rw[if_pos hk];conv=>lhs;rw[Ma h]
 rfl
def OF{x:List aD}{i:Nat}(h:mS (parts 32 (ae s [10])) x i)(hi:(i:Int)<dQ (nth .str (parts 32 (ae s [10])) 1))(hk:(cG (ai 1 (af (bo x) x))).2=false):(cB aB,aS.no 4)=iW s:=
 rp fun e hf ht=>by
  obtain⟨r,k⟩:=rT hf ht;rw[r.na jV k]at hi;obtain⟨a,b⟩:=Zj r k (i:=i) (by omega);rw[pa,FQ h,yk fun j hj =>?_]at hk
  ·cases hk
  ·rcases(show j=0\/j=1 by simp at hj;omega)with rfl|rfl
   ·exact a
   ·exact b
def Mc{x:List aD}{i:Nat}(h:mS (parts 32 (ae s [10])) x i)(hi:dQ (nth .str (parts 32 (ae s [10])) 1)<=(i:Int))(hi2:(i:Int)<dQ (nth .str (parts 32 (ae s [10])) 1)+dQ (nth .str (parts 32 (ae s [10])) 2))(hk:(cG x).2=false):(cB aB,aS.no 4)=iW s:=
 rp fun e hf ht=>by
  obtain⟨r,k⟩:=rT hf ht;rw[r.na jV k]at hi hi2;rw[r.nb jV k]at hi2;obtain⟨a,b,c⟩:=VG r k (i:=i) (by omega) (by omega);rw[Ma h]at hk;rw[pa,yk fun j hj =>?_]at hk
  ·cases hk
  ·rcases(show j=0\/j=1\/j=2 by simp at hj;omega)with rfl|rfl|rfl
   ·exact a
   ·exact b
   ·exact c
def Ke(A:aD->Int)(w:List aD)(a b:Nat):D aB:=(nth .str w 0,eW A w a,dL A w a b,())
def C0{a b:Nat}(ha:dQ (nth .str (parts 32 (ae s [10])) 1)=(a:Int))(hb:dQ (nth .str (parts 32 (ae s [10])) 2)=(b:Int))
  (h:(dY (Ke dQ (parts 32 (ae s [10])) a b)).2.isNil=false\/¬(dY (Ke dQ (parts 32 (ae s [10])) a b)).1=s):(cB aB,aS.no 4)=iW s:=
 rp fun e hf ht=>by
  obtain⟨r,k⟩:=rT hf ht;rw[r.na jV k]at ha;rw[r.nb jV k]at hb;have he:Ke dQ (parts 32 (ae s [10])) a b=e:=by
   rw[<-cz.1 ha,<-cz.1 hb];exact(r.eq jV k).symm
  rw[he]at h;unfold dY at h;rw[if_neg (not_not_intro hf)]at h;rcases h with h|h
  ·cases h
  ·exact h ht
end
def s4(w:List aD)(y:List Int×Bool):Prop:=(y.2=true->y.1=[dQ (nth .str w 1),dQ (nth .str w 2)]/\(dK (nth .str w 1)).isNone=false/\(dK (nth .str w 2)).isNone=false)/\(y.2=false->¬rS w)
def abA{w:List aD}(h:3<=w.length):s4 w (cG (ai 1 (af 3 w))):=⟨fun hk=>abz h hk,fun hk=>OB h hk⟩
def s4.ok{w:List aD}{y:List Int×Bool}(h:s4 w y)(hd:rS w):y.2=true:=by
 cases hy:y.2 with
 |true=>rfl
 |false=>exact absurd hd (h.2 hy)
def s4.get{w:List aD}{y:List Int×Bool}(h:s4 w y)(hd:rS w):y.1=[dQ (nth .str w 1),dQ (nth .str w 2)]:=(h.1 (h.ok hd)).1
def s4.l0{w:List aD}{y:List Int×Bool}(h:s4 w y)(hy:y.2=true):@Eq Int (nth (.int .i64) y.1 0) (dQ (nth .str w 1)):=by rw[(h.1 hy).1];rfl
def s4.l1{w:List aD}{y:List Int×Bool}(h:s4 w y)(hy:y.2=true):@Eq Int (nth (.int .i64) y.1 1) (dQ (nth .str w 2)):=by rw[(h.1 hy).1];rfl
def s4.k0{w:List aD}{y:List Int×Bool}(h:s4 w y)(hd:rS w):@Eq Int (nth (.int .i64) y.1 0) (dQ (nth .str w 1)):=h.l0 (h.ok hd)
def s4.k1{w:List aD}{y:List Int×Bool}(h:s4 w y)(hd:rS w):@Eq Int (nth (.int .i64) y.1 1) (dQ (nth .str w 2)):=h.l1 (h.ok hd)
def VI{w x:List aD}{i:Nat}(h:mS w x i)(hw:∀y∈w,y.length<=1000000):x.length<=1000000/\∀k,(nth .str x k).length<=1000000:=⟨by rw[h.len];decide,CZ h hw⟩
def VJ{w x:List aD}{i:Nat}(h:mS w x i){n:Nat}(hw:∀y∈w,y.length<=n):∀y∈x,y.length<=n:=fun y hy=>by
 obtain⟨k,hk,rfl⟩:=gT (t:=.str) hy;exact CZ h hw k
def SI{w x:List aD}{i:Nat}(h:mS w x i)(hw:∀y∈w,y.length<=1000000):(ai 1 (af (bo x) x)).length<=1000000/\∀k,(nth .str (ai 1 (af (bo x) x)) k).length<=1000000:=
 ⟨by have:=h.len;simp;omega,sL (L7 (VJ h hw) _ _)⟩
def VK(A:aD->Int)(w:List aD)(k:Nat):([]:List (D aG))=eW A w (bg 0 k):=by rw[show bg 0 k=0 from Nat.zero_min k];rfl
def aaT(A:aD->Int)(w:List aD)(k:Nat):([]:List (D aN))=dL A w k (0-k):=by rw[Nat.zero_sub];rfl
def VL{i k:Nat}(h:i<k):bg i k=i/\bg (i+1) k=i+1:=⟨df (by omega),df h⟩
def Md{i k:Nat}(h:k<=i):bg i k=k/\bg (i+1) k=k:=⟨gb h,gb (by omega)⟩
def Iy{w x:List aD}{i k:Nat}(h:mS w x i)(hk:(cG (ai 1 (af (bo x) x))).2=true)(hi:i<k) :
  eW dQ w (bg i k)++[(nth .str x 0,nth (.int .i64) (cG (ai 1 (af (bo x) x))).1 0,nth (.int .i64) (cG (ai 1 (af (bo x) x))).1 1,())]=eW dQ w (bg (i+1) k):=by
 rw[(VL hi).1,(VL hi).2,L5,Ix h hk,h.a];rfl
def Iz{A:aD->Int}{w:List aD}{i k:Nat}(hi:i<k):dL A w k (i-k)=dL A w k (i+1-k):=by congr 1;omega
def FR{A:aD->Int}{w:List aD}{i k:Nat}(hi:k<=i):eW A w (bg i k)=eW A w (bg (i+1) k):=by rw[(Md hi).1,(Md hi).2]
def Me{w x:List aD}{i k:Nat}(h:mS w x i)(hk:(cG x).2=true)(hi:k<=i) :
  dL dQ w k (i-k)++[(nth (.int .i64) (cG x).1 0,nth (.int .i64) (cG x).1 1,nth (.int .i64) (cG x).1 2,())]=dL dQ w k (i+1-k):=by
 rw[show i+1-k=(i-k)+1 by omega,GR,Mb h hk];unfold wQ;rw[show k+(i-k)=i by omega];rfl
def Mf{A:aD->Int}{w:List aD}{i a b:Nat}(h:i=a+b):(((nth .str w 0,eW A w (bg i a),dL A w a (i-a),())):D aB)=Ke A w a b:=by
 rw[(Md (i:=i) (k:=a) (by omega)).1,show i-a=b by omega];rfl
def SJ{A:aD->Int}{w:List aD}{n:Nat}{x:D aG}(h:n<=100):(eW A w n).length+ [x].length<=1000000000:=by rw[CW,dm];omega
def VM{A:aD->Int}{w:List aD}{k n:Nat}{x:D aN}(h:n<=100):(dL A w k n).length+ [x].length<=1000000000:=by rw[y5,dm];omega
def OG{A:aD->Int}{w:List aD}{i k:Nat}{x:D aG}(h:k<=100):(eW A w (bg i k)).length+ [x].length<=1000000000:=SJ (cx (Nat.min_le_right i k) h)
def yl{e:D aB}(h:(dY e).2.isNil=true):bE e=0/\(dY e).1=hH e:=by
 have hf:bE e=0:=by
  apply au;intro hf;unfold dY at h;rw[if_pos hf]at h;exact hf (aV.1 h)
 exact⟨hf,by unfold dY;rw[if_neg (not_not_intro hf)]⟩
def SK{e:D aB}(h:(dY e).2.isNil=true):(dY e).1.length<=2753:=by
 obtain⟨hf,ht⟩:=yl h;rw[ht];unfold hH;have:=(nn hf).DM e.2.2.1.length;rw[az];unfold th;simp;omega
def SL{n:Nat}{p:Pt}(h:eB p.2.2.1=false):dS n p=1:=by unfold dS;rw[if_pos];exact .inr (.inr (.inr (.inr h)))
def OH{n:Nat}{p:Pt}(h1:(0:Int)<=p.1)(h2:p.1<(n:Int))(h3:(0:Int)<=p.2.1)(h4:p.2.1<=(39:Int))(h5:eB p.2.2.1=true):dS n p=0:=by
 unfold dS;rw[if_neg];rintro(e|e|e|e|e)
 ·exact absurd e (aj.2 h1)
 ·exact absurd h2 (aj.2 e)
 ·exact absurd e (aj.2 h3)
 ·exact absurd e (aj.2 h4)
 ·rw[h5]at e;cases e
section
variable{s:aD}
end
def j0(rd:Rd)(l:List (D cE)):List (D aG):=l.map fun p=>(p.1,(rd p.1).2.1,p.2.1,())
def C1(rd:Rd)(l:List (D cE)):(j0 rd l).length=l.length:=by simp[j0]
def Ba{rd:Rd}{l:List (D cE)}{i:Nat}(h:i<l.length):j0 rd (l.take i)++[((nth cE l i).1,(rd (nth cE l i).1).2.1,(nth cE l i).2.1,())]=j0 rd (l.take (i+1)):=by
 rw[gI (t:=cE) h];simp[j0]
def Mg{rd:Rd}{l:List (D cE)}{x:D aG}(h:l.length<=1000):(j0 rd l).length+ [x].length<=1000000000:=by rw[C1,dm];omega
def IA{rd:Rd}(ok:fZ rd){s:aD}(h:(cI rd s).2 > 0):cJ rd s=(cB aB,(cI rd s).2):=by
 have e:=(Ox ok h).1;have e5:(bB rd s).2.2.2.2=(cI rd s).2:=by rw[e]
 rw[DY (by rw[e5];omega),e5]
def Zk{rd:Rd}(ok:fZ rd){s:aD}(h:(cI rd s).2<=0):(cI rd s).1.length<=6:=by
 obtain⟨ns,os,bs,ps,e,hr,el⟩:=LY ok h;rw[el];show(eV ns bs (iU (cR os) ps) os.length).length<=6;rw[rm];have a:=hr.sc.len;have b:=hr.sc.le;omega
def Mh{rd:Rd}(ok:fZ rd){s:aD}(h:(cI rd s).2<=0){i:Nat}(hi:¬i<(cI rd s).1.length):cJ rd s=((s,j0 rd ((cI rd s).1.take i),(bB rd s).2.2.2.1,()),0):=by
 rw[bm (by omega)];obtain⟨ns,os,bs,ps,e,hr,el⟩:=LY ok h;rw[wM (by rw[e]),e,el];have hst:cS rd ns bs ns.length=j0 rd (eV ns bs (iU (cR os) ps) os.length):=by
  refine kX (t:=aG) (by rw[fB,C1,rm,hr.sc.len]) fun j hj =>?_
  rw[fB]at hj;have hl:j<(eV ns bs (iU (cR os) ps) os.length).length:=by rw[rm,hr.sc.len];exact hj
  rw[jJ hj,show nth aG (j0 rd (eV ns bs (iU (cR os) ps) os.length)) j=_ from rQ (t:=aG) (u:=cE) hl,Sa (by rw[hr.sc.len];exact hj)]
 simp only;rw[hst]
def VN{rd:Rd}{p:D aG}(h:(rd p.1).2.2 > 0):gQ rd p=false:=by unfold gQ;rw[decide_eq_false (by omega)];rfl
def SM{rd:Rd}{p:D aG}(hc:(rd p.1).2.2=0\/(rd p.1).2.2=5)(h:(rd p.1).2.2<=0)(h2:(rd p.1).2.1=p.2.1):gQ rd p=true:=by
 unfold gQ;rw[decide_eq_true (by omega),decide_eq_true h2];rfl
def Mi(e:D aB):(dY e).2=aL (bE e):=by
 unfold dY;split
 ·rfl
 ·next h=>rw[Classical.not_not.1 h];rfl
def OI{rd:Rd}(ok:fZ rd)(s:aD):0<=(cJ rd s).2:=by
 have h0:=CP ok s;by_cases h:(cI rd s).2 > 0
 ·rw[IA ok h];exact h0
 ·rw[Mh ok (by omega) (i:=(cI rd s).1.length) (by omega)];exact av 0
end Go.Mrl

